/- The data types of the program as Lean structures, and the trees of cells that they are. -/
import Derived.Test.YtpodllefipleiaaGreatDoorMark
set_option linter.unusedVariables false
set_option linter.unusedSimpArgs false
namespace Go.Proofs.YtpodllefipleiaaGreatDoor
open Go.RowKit
def I64 (n:Int):Prop:=-9223372036854775808≤n∧n≤9223372036854775807
structure DSample where
 distance:Int
 level:Int
def DSample.tr (x:DSample):List Tr:=[intT x.distance,intT x.level]
theorem DSample.tr_len (x:DSample):x.tr.length=2:=rfl
def DSample.sT (l:List DSample):Tr:=.sl 2 (l.flatMap DSample.tr)
structure DSample.ok (x_:DSample):Prop where
 distance:I64 x_.distance
 level:I64 x_.level
theorem DSample.rd {B:Nat} {w:World} {l:List DSample} {v:Value} (h:Rd B w (DSample.sT l) v) :
  ∃ a c,v=.slice a l.length c∧l.length≤c∧c≤maxLen∧(0<l.length→∃ b off,a=some ⟨b,off,none⟩∧b<B∧∀ (i:Nat) (hi:i<l.length),
   w.cell? ⟨b,off+i*2,none⟩=some (.int .i64 l[i].distance)∧w.cell? ⟨b,off+i*2+1,none⟩=some (.int .i64 l[i].level)):=by
 obtain⟨a,c,he,h1,h2,h3⟩:=Rd.slAt (k:=2) (g:=DSample.tr) (by decide) DSample.tr_len h;refine⟨a,c,he,h1,h2,fun hn=>?_⟩;obtain⟨b,off,ha,hb,hat⟩:=h3 hn;refine⟨b,off,ha,hb,fun i hi=>?_⟩;obtain⟨u0,c0,r0⟩:=hat i hi 0 _ rfl;rw[Rd.lit.1 r0] at c0;obtain⟨u1,c1,r1⟩:=hat i hi 1 _ rfl;rw[Rd.lit.1 r1] at c1;exact⟨c0,c1⟩
end Go.Proofs.YtpodllefipleiaaGreatDoor
