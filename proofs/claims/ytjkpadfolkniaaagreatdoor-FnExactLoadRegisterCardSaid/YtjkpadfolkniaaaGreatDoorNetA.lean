/- Contracts: points, sites and sectors are valid, for the program and for the reference. Conditions: bounded lengths. -/
import Derived.Test.YtjkpadfolkniaaaGreatDoorName
import Derived.Test.YtjkpadfolkniaaaGreatDoorTypes
namespace Go.Proofs.YtjkpadfolkniaaaGreatDoor
open Go.RowKit
set_option linter.unusedVariables false
set_option linter.unusedSimpArgs false

def pointB (p : DPoint) : Bool := inB p.x 0 200000 && inB p.y 0 200000
def siteB (x : DSite) : Bool := nameB x.name && (nameB x.holder && pointB x.place)
def sectorB (x : DSector) : Bool := nameB x.name && (nameB x.site && (nameB x.antenna && (nameB x.radio && (nameB x.band && (inB x.azimuth 0 359 && (inB x.tilt 0 30 && (inB x.above 1 3000 && inB x.channel (-1) 999)))))))
end Go.Proofs.YtjkpadfolkniaaaGreatDoor
