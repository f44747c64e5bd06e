/- Where a name belongs in a row of rising names. Plain lemmas; no program. -/
import Derived.Test.YtpakghepnahooaaGreatDoorNetG0
import Derived.Test.YtpakghepnahooaaGreatDoorBinSector
set_option linter.unusedVariables false
set_option linter.unusedSimpArgs false
namespace Go.Proofs.YtpakghepnahooaaGreatDoor
theorem siteRise {n:DNetwork} (h:netB n=true):∀ i (hi:i+1<n.sites.length),ltS (n.sites[i]'II).name n.sites[i+1].name=true:=by
 intro i hi;unfold netB at h;simp only[Bool.and_eq_true] at h;exact ze5 h.2.2.2.2.1 hi
theorem sectorRise {n:DNetwork} (h:netB n=true):∀ i (hi:i+1<n.sectors.length),ltS (n.sectors[i]'II).name n.sectors[i+1].name=true:=by
 intro i hi;unfold netB at h;simp only[Bool.and_eq_true] at h;exact ze5 h.2.2.2.2.2.2.2 hi
end Go.Proofs.YtpakghepnahooaaGreatDoor
