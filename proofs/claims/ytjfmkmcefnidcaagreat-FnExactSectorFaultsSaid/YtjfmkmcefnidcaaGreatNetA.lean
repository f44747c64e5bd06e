/- Contracts: points, sites and sectors are valid, for the program and for the reference. Conditions: bounded lengths. -/
import Derived.Test.YtjfmkmcefnidcaaGreatName
import Derived.Test.YtjfmkmcefnidcaaGreatTypes
namespace Go.Proofs.YtjfmkmcefnidcaaGreat
set_option maxHeartbeats 4000000
set_option maxRecDepth 100000
open Go.RowKit
set_option linter.unusedVariables false
set_option linter.unusedSimpArgs false
def pointB (p:DPoint):Bool:=inB p.x 0 200000&&inB p.y 0 200000
def siteB (x:DSite):Bool:=nameB x.name&&(nameB x.holder&&pointB x.place)
def sectorB (x:DSector):Bool:=nameB x.name&&(nameB x.site&&(nameB x.antenna&&(nameB x.radio&&(nameB x.band&&(inB x.azimuth 0 359&&(inB x.tilt 0 30&&(inB x.above 1 3000&&inB x.channel (-1) 999)))))))
theorem validPoint_any (p:DPoint) (w:World) :
  Calls Tryz.prog 213 #[.agg #[.int .i64 p.x,.int .i64 p.y]] w fun e w'=>e=.returned (.bool (pointB p))∧Below w.heap.size w w':=by
 by_cases h0:inB p.x 0 200000=true
 ·skip
  by_cases h1:inB p.y 0 200000=true
  ·skip
   have HE:Hid (pointB p=true):=by show _=_;unfold pointB;simp only[h0,h1]<;>rfl
   go_enter Tryz.func213,Tryz.ntmps213
   go_wp2_with (first|(go_at_call 175;refine (within_any _ _ _ _).mono ?_;rintro e w1 ⟨rfl,rfl⟩))
   go_ret
   exact⟨by rw[HE.out];rfl,by exact (Below.refl _ _).alloc (Nat.le_refl _) _⟩
  ·replace h1:inB p.y 0 200000=false:=Bool.eq_false_iff.2 h1
   have HE:Hid (pointB p=false):=by show _=_;unfold pointB;simp only[h0,h1]<;>rfl
   go_enter Tryz.func213,Tryz.ntmps213
   go_wp2_with (first|(go_at_call 175;refine (within_any _ _ _ _).mono ?_;rintro e w1 ⟨rfl,rfl⟩))
   go_ret
   exact⟨by rw[HE.out];rfl,by exact (Below.refl _ _).alloc (Nat.le_refl _) _⟩
 ·replace h0:inB p.x 0 200000=false:=Bool.eq_false_iff.2 h0
  have HE:Hid (pointB p=false):=by show _=_;unfold pointB;simp only[h0]<;>rfl
  go_enter Tryz.func213,Tryz.ntmps213
  go_wp2_with (first|(go_at_call 175;refine (within_any _ _ _ _).mono ?_;rintro e w1 ⟨rfl,rfl⟩))
  go_ret
  exact⟨by rw[HE.out];rfl,by exact (Below.refl _ _).alloc (Nat.le_refl _) _⟩
theorem l03Ok_any (p:DPoint) (w:World) :
  Calls Tryz.prog 202 #[.agg #[.int .i64 p.x,.int .i64 p.y]] w fun e w'=>e=.returned (.bool (pointB p))∧Below w.heap.size w w':=by
 by_cases h0:inB p.x 0 200000=true
 ·skip
  by_cases h1:inB p.y 0 200000=true
  ·skip
   have HE:Hid (pointB p=true):=by show _=_;unfold pointB;simp only[h0,h1]<;>rfl
   go_enter Tryz.func202,Tryz.ntmps202
   go_wp2_with (first|(go_at_call 148;refine (l00In_any _ _ _ _).mono ?_;rintro e w1 ⟨rfl,rfl⟩))
   go_ret
   exact⟨by rw[HE.out];rfl,by exact (Below.refl _ _).alloc (Nat.le_refl _) _⟩
  ·replace h1:inB p.y 0 200000=false:=Bool.eq_false_iff.2 h1
   have HE:Hid (pointB p=false):=by show _=_;unfold pointB;simp only[h0,h1]<;>rfl
   go_enter Tryz.func202,Tryz.ntmps202
   go_wp2_with (first|(go_at_call 148;refine (l00In_any _ _ _ _).mono ?_;rintro e w1 ⟨rfl,rfl⟩))
   go_ret
   exact⟨by rw[HE.out];rfl,by exact (Below.refl _ _).alloc (Nat.le_refl _) _⟩
 ·replace h0:inB p.x 0 200000=false:=Bool.eq_false_iff.2 h0
  have HE:Hid (pointB p=false):=by show _=_;unfold pointB;simp only[h0]<;>rfl
  go_enter Tryz.func202,Tryz.ntmps202
  go_wp2_with (first|(go_at_call 148;refine (l00In_any _ _ _ _).mono ?_;rintro e w1 ⟨rfl,rfl⟩))
  go_ret
  exact⟨by rw[HE.out];rfl,by exact (Below.refl _ _).alloc (Nat.le_refl _) _⟩
theorem siteValid_any (x:DSite) (k0:x.name.size≤maxLen) (k1:x.holder.size≤maxLen) (w:World) :
  Calls Tryz.prog 164 #[.agg #[.string x.name,.string x.holder,.int .i64 x.place.x,.int .i64 x.place.y]] w fun e w'=>e=.returned (.bool (siteB x))∧Below w.heap.size w w':=by
 by_cases h0:nameB x.name=true
 ·skip
  by_cases h1:nameB x.holder=true
  ·skip
   by_cases h2:pointB x.place=true
   ·skip
    have HE:Hid (siteB x=true):=by show _=_;unfold siteB;simp only[h0,h1,h2]<;>rfl
    go_enter Tryz.func164,Tryz.ntmps164
    go_wp2_with (first|(go_at_call 212;refine (isName_any _ _ (by assumption)).mono ?_;rintro e w1 ⟨rfl,rfl⟩)|(go_at_call 213;refine (validPoint_any x.place _).mono ?_;rintro e w2 ⟨rfl,hb2⟩))
    go_ret
    exact⟨by rw[HE.out];rfl,by first|exact (Below.refl _ _).alloc (Nat.le_refl _) _|exact ((Below.refl _ _).alloc (Nat.le_refl _) _).trans (hb2.mono (by simp))⟩
   ·replace h2:pointB x.place=false:=Bool.eq_false_iff.2 h2
    have HE:Hid (siteB x=false):=by show _=_;unfold siteB;simp only[h0,h1,h2]<;>rfl
    go_enter Tryz.func164,Tryz.ntmps164
    go_wp2_with (first|(go_at_call 212;refine (isName_any _ _ (by assumption)).mono ?_;rintro e w1 ⟨rfl,rfl⟩)|(go_at_call 213;refine (validPoint_any x.place _).mono ?_;rintro e w2 ⟨rfl,hb2⟩))
    go_ret
    exact⟨by rw[HE.out];rfl,by first|exact (Below.refl _ _).alloc (Nat.le_refl _) _|exact ((Below.refl _ _).alloc (Nat.le_refl _) _).trans (hb2.mono (by simp))⟩
  ·replace h1:nameB x.holder=false:=Bool.eq_false_iff.2 h1
   have HE:Hid (siteB x=false):=by show _=_;unfold siteB;simp only[h0,h1]<;>rfl
   go_enter Tryz.func164,Tryz.ntmps164
   go_wp2_with (first|(go_at_call 212;refine (isName_any _ _ (by assumption)).mono ?_;rintro e w1 ⟨rfl,rfl⟩)|(go_at_call 213;refine (validPoint_any x.place _).mono ?_;rintro e w2 ⟨rfl,hb2⟩))
   go_ret
   exact⟨by rw[HE.out];rfl,by first|exact (Below.refl _ _).alloc (Nat.le_refl _) _|exact ((Below.refl _ _).alloc (Nat.le_refl _) _).trans (hb2.mono (by simp))⟩
 ·replace h0:nameB x.name=false:=Bool.eq_false_iff.2 h0
  have HE:Hid (siteB x=false):=by show _=_;unfold siteB;simp only[h0]<;>rfl
  go_enter Tryz.func164,Tryz.ntmps164
  go_wp2_with (first|(go_at_call 212;refine (isName_any _ _ (by assumption)).mono ?_;rintro e w1 ⟨rfl,rfl⟩)|(go_at_call 213;refine (validPoint_any x.place _).mono ?_;rintro e w2 ⟨rfl,hb2⟩))
  go_ret
  exact⟨by rw[HE.out];rfl,by first|exact (Below.refl _ _).alloc (Nat.le_refl _) _|exact ((Below.refl _ _).alloc (Nat.le_refl _) _).trans (hb2.mono (by simp))⟩
theorem l14Site_any (x:DSite) (b off:Nat) (w:World) (c0:w.cell? ⟨b,off,none⟩=some (.string x.name)) (c1:w.cell? ⟨b,off+1,none⟩=some (.string x.holder)) (c2:w.cell? ⟨b,off+2,none⟩=some (.int .i64 x.place.x)) (c3:w.cell? ⟨b,off+3,none⟩=some (.int .i64 x.place.y)) (k0:x.name.size≤maxLen) (k1:x.holder.size≤maxLen) :
  Calls Tryz.prog 150 #[.pointer (some ⟨b,off,none⟩)] w fun e w'=>e=.returned (.bool (siteB x))∧Below w.heap.size w w':=by
 by_cases h0:nameB x.name=true
 ·skip
  by_cases h1:nameB x.holder=true
  ·skip
   by_cases h2:pointB x.place=true
   ·skip
    have HE:Hid (siteB x=true):=by show _=_;unfold siteB;simp only[h0,h1,h2]<;>rfl
    go_enter Tryz.func150,Tryz.ntmps150
    go_wp2_with (first|(go_at_call 201;refine (l01Name_any _ _ (by assumption)).mono ?_;rintro e w1 ⟨rfl,rfl⟩)|(go_at_call 202;refine (l03Ok_any x.place _).mono ?_;rintro e w2 ⟨rfl,hb2⟩))
    go_ret
    exact⟨by rw[HE.out];rfl,by first|exact Below.refl _ _|exact hb2⟩
   ·replace h2:pointB x.place=false:=Bool.eq_false_iff.2 h2
    have HE:Hid (siteB x=false):=by show _=_;unfold siteB;simp only[h0,h1,h2]<;>rfl
    go_enter Tryz.func150,Tryz.ntmps150
    go_wp2_with (first|(go_at_call 201;refine (l01Name_any _ _ (by assumption)).mono ?_;rintro e w1 ⟨rfl,rfl⟩)|(go_at_call 202;refine (l03Ok_any x.place _).mono ?_;rintro e w2 ⟨rfl,hb2⟩))
    go_ret
    exact⟨by rw[HE.out];rfl,by first|exact Below.refl _ _|exact hb2⟩
  ·replace h1:nameB x.holder=false:=Bool.eq_false_iff.2 h1
   have HE:Hid (siteB x=false):=by show _=_;unfold siteB;simp only[h0,h1]<;>rfl
   go_enter Tryz.func150,Tryz.ntmps150
   go_wp2_with (first|(go_at_call 201;refine (l01Name_any _ _ (by assumption)).mono ?_;rintro e w1 ⟨rfl,rfl⟩)|(go_at_call 202;refine (l03Ok_any x.place _).mono ?_;rintro e w2 ⟨rfl,hb2⟩))
   go_ret
   exact⟨by rw[HE.out];rfl,by first|exact Below.refl _ _|exact hb2⟩
 ·replace h0:nameB x.name=false:=Bool.eq_false_iff.2 h0
  have HE:Hid (siteB x=false):=by show _=_;unfold siteB;simp only[h0]<;>rfl
  go_enter Tryz.func150,Tryz.ntmps150
  go_wp2_with (first|(go_at_call 201;refine (l01Name_any _ _ (by assumption)).mono ?_;rintro e w1 ⟨rfl,rfl⟩)|(go_at_call 202;refine (l03Ok_any x.place _).mono ?_;rintro e w2 ⟨rfl,hb2⟩))
  go_ret
  exact⟨by rw[HE.out];rfl,by first|exact Below.refl _ _|exact hb2⟩
theorem sectorValid_any (x:DSector) (k0:x.name.size≤maxLen) (k1:x.site.size≤maxLen) (k2:x.antenna.size≤maxLen) (k3:x.radio.size≤maxLen) (k4:x.band.size≤maxLen) (w:World) :
  Calls Tryz.prog 167 #[.agg #[.string x.name,.string x.site,.string x.antenna,.string x.radio,.string x.band,.int .i64 x.azimuth,.int .i64 x.tilt,.int .i64 x.above,.int .i64 x.channel]] w fun e w'=>e=.returned (.bool (sectorB x))∧Below w.heap.size w w':=by
 by_cases h0:nameB x.name=true
 ·skip
  by_cases h1:nameB x.site=true
  ·skip
   by_cases h2:nameB x.antenna=true
   ·skip
    by_cases h3:nameB x.radio=true
    ·skip
     by_cases h4:nameB x.band=true
     ·skip
      by_cases h5:inB x.azimuth 0 359=true
      ·skip
       by_cases h6:inB x.tilt 0 30=true
       ·skip
        by_cases h7:inB x.above 1 3000=true
        ·skip
         by_cases h8:inB x.channel (-1) 999=true
         ·skip
          have HE:Hid (sectorB x=true):=by show _=_;unfold sectorB;simp only[h0,h1,h2,h3,h4,h5,h6,h7,h8]<;>rfl
          go_enter Tryz.func167,Tryz.ntmps167
          go_wp2_with (first|(go_at_call 212;refine (isName_any _ _ (by assumption)).mono ?_;rintro e w1 ⟨rfl,rfl⟩)|(go_at_call 175;refine (within_any _ _ _ _).mono ?_;rintro e w1 ⟨rfl,rfl⟩))
          go_ret
          exact⟨by rw[HE.out];rfl,by exact (Below.refl _ _).alloc (Nat.le_refl _) _⟩
         ·replace h8:inB x.channel (-1) 999=false:=Bool.eq_false_iff.2 h8
          have HE:Hid (sectorB x=false):=by show _=_;unfold sectorB;simp only[h0,h1,h2,h3,h4,h5,h6,h7,h8]<;>rfl
          go_enter Tryz.func167,Tryz.ntmps167
          go_wp2_with (first|(go_at_call 212;refine (isName_any _ _ (by assumption)).mono ?_;rintro e w1 ⟨rfl,rfl⟩)|(go_at_call 175;refine (within_any _ _ _ _).mono ?_;rintro e w1 ⟨rfl,rfl⟩))
          go_ret
          exact⟨by rw[HE.out];rfl,by exact (Below.refl _ _).alloc (Nat.le_refl _) _⟩
        ·replace h7:inB x.above 1 3000=false:=Bool.eq_false_iff.2 h7
         have HE:Hid (sectorB x=false):=by show _=_;unfold sectorB;simp only[h0,h1,h2,h3,h4,h5,h6,h7]<;>rfl
         go_enter Tryz.func167,Tryz.ntmps167
         go_wp2_with (first|(go_at_call 212;refine (isName_any _ _ (by assumption)).mono ?_;rintro e w1 ⟨rfl,rfl⟩)|(go_at_call 175;refine (within_any _ _ _ _).mono ?_;rintro e w1 ⟨rfl,rfl⟩))
         go_ret
         exact⟨by rw[HE.out];rfl,by exact (Below.refl _ _).alloc (Nat.le_refl _) _⟩
       ·replace h6:inB x.tilt 0 30=false:=Bool.eq_false_iff.2 h6
        have HE:Hid (sectorB x=false):=by show _=_;unfold sectorB;simp only[h0,h1,h2,h3,h4,h5,h6]<;>rfl
        go_enter Tryz.func167,Tryz.ntmps167
        go_wp2_with (first|(go_at_call 212;refine (isName_any _ _ (by assumption)).mono ?_;rintro e w1 ⟨rfl,rfl⟩)|(go_at_call 175;refine (within_any _ _ _ _).mono ?_;rintro e w1 ⟨rfl,rfl⟩))
        go_ret
        exact⟨by rw[HE.out];rfl,by exact (Below.refl _ _).alloc (Nat.le_refl _) _⟩
      ·replace h5:inB x.azimuth 0 359=false:=Bool.eq_false_iff.2 h5
       have HE:Hid (sectorB x=false):=by show _=_;unfold sectorB;simp only[h0,h1,h2,h3,h4,h5]<;>rfl
       go_enter Tryz.func167,Tryz.ntmps167
       go_wp2_with (first|(go_at_call 212;refine (isName_any _ _ (by assumption)).mono ?_;rintro e w1 ⟨rfl,rfl⟩)|(go_at_call 175;refine (within_any _ _ _ _).mono ?_;rintro e w1 ⟨rfl,rfl⟩))
       go_ret
       exact⟨by rw[HE.out];rfl,by exact (Below.refl _ _).alloc (Nat.le_refl _) _⟩
     ·replace h4:nameB x.band=false:=Bool.eq_false_iff.2 h4
      have HE:Hid (sectorB x=false):=by show _=_;unfold sectorB;simp only[h0,h1,h2,h3,h4]<;>rfl
      go_enter Tryz.func167,Tryz.ntmps167
      go_wp2_with (first|(go_at_call 212;refine (isName_any _ _ (by assumption)).mono ?_;rintro e w1 ⟨rfl,rfl⟩)|(go_at_call 175;refine (within_any _ _ _ _).mono ?_;rintro e w1 ⟨rfl,rfl⟩))
      go_ret
      exact⟨by rw[HE.out];rfl,by exact (Below.refl _ _).alloc (Nat.le_refl _) _⟩
    ·replace h3:nameB x.radio=false:=Bool.eq_false_iff.2 h3
     have HE:Hid (sectorB x=false):=by show _=_;unfold sectorB;simp only[h0,h1,h2,h3]<;>rfl
     go_enter Tryz.func167,Tryz.ntmps167
     go_wp2_with (first|(go_at_call 212;refine (isName_any _ _ (by assumption)).mono ?_;rintro e w1 ⟨rfl,rfl⟩)|(go_at_call 175;refine (within_any _ _ _ _).mono ?_;rintro e w1 ⟨rfl,rfl⟩))
     go_ret
     exact⟨by rw[HE.out];rfl,by exact (Below.refl _ _).alloc (Nat.le_refl _) _⟩
   ·replace h2:nameB x.antenna=false:=Bool.eq_false_iff.2 h2
    have HE:Hid (sectorB x=false):=by show _=_;unfold sectorB;simp only[h0,h1,h2]<;>rfl
    go_enter Tryz.func167,Tryz.ntmps167
    go_wp2_with (first|(go_at_call 212;refine (isName_any _ _ (by assumption)).mono ?_;rintro e w1 ⟨rfl,rfl⟩)|(go_at_call 175;refine (within_any _ _ _ _).mono ?_;rintro e w1 ⟨rfl,rfl⟩))
    go_ret
    exact⟨by rw[HE.out];rfl,by exact (Below.refl _ _).alloc (Nat.le_refl _) _⟩
  ·replace h1:nameB x.site=false:=Bool.eq_false_iff.2 h1
   have HE:Hid (sectorB x=false):=by show _=_;unfold sectorB;simp only[h0,h1]<;>rfl
   go_enter Tryz.func167,Tryz.ntmps167
   go_wp2_with (first|(go_at_call 212;refine (isName_any _ _ (by assumption)).mono ?_;rintro e w1 ⟨rfl,rfl⟩)|(go_at_call 175;refine (within_any _ _ _ _).mono ?_;rintro e w1 ⟨rfl,rfl⟩))
   go_ret
   exact⟨by rw[HE.out];rfl,by exact (Below.refl _ _).alloc (Nat.le_refl _) _⟩
 ·replace h0:nameB x.name=false:=Bool.eq_false_iff.2 h0
  have HE:Hid (sectorB x=false):=by show _=_;unfold sectorB;simp only[h0]<;>rfl
  go_enter Tryz.func167,Tryz.ntmps167
  go_wp2_with (first|(go_at_call 212;refine (isName_any _ _ (by assumption)).mono ?_;rintro e w1 ⟨rfl,rfl⟩)|(go_at_call 175;refine (within_any _ _ _ _).mono ?_;rintro e w1 ⟨rfl,rfl⟩))
  go_ret
  exact⟨by rw[HE.out];rfl,by exact (Below.refl _ _).alloc (Nat.le_refl _) _⟩
theorem l14Sector_any (x:DSector) (b off:Nat) (w:World) (c0:w.cell? ⟨b,off,none⟩=some (.string x.name)) (c1:w.cell? ⟨b,off+1,none⟩=some (.string x.site)) (c2:w.cell? ⟨b,off+2,none⟩=some (.string x.antenna)) (c3:w.cell? ⟨b,off+3,none⟩=some (.string x.radio)) (c4:w.cell? ⟨b,off+4,none⟩=some (.string x.band)) (c5:w.cell? ⟨b,off+5,none⟩=some (.int .i64 x.azimuth)) (c6:w.cell? ⟨b,off+6,none⟩=some (.int .i64 x.tilt)) (c7:w.cell? ⟨b,off+7,none⟩=some (.int .i64 x.above)) (c8:w.cell? ⟨b,off+8,none⟩=some (.int .i64 x.channel)) (k0:x.name.size≤maxLen) (k1:x.site.size≤maxLen) (k2:x.antenna.size≤maxLen) (k3:x.radio.size≤maxLen) (k4:x.band.size≤maxLen) :
  Calls Tryz.prog 151 #[.pointer (some ⟨b,off,none⟩)] w fun e w'=>e=.returned (.bool (sectorB x))∧Below w.heap.size w w':=by
 by_cases h0:nameB x.name=true
 ·skip
  by_cases h1:nameB x.site=true
  ·skip
   by_cases h2:nameB x.antenna=true
   ·skip
    by_cases h3:nameB x.radio=true
    ·skip
     by_cases h4:nameB x.band=true
     ·skip
      by_cases h5:inB x.azimuth 0 359=true
      ·skip
       by_cases h6:inB x.tilt 0 30=true
       ·skip
        by_cases h7:inB x.above 1 3000=true
        ·skip
         by_cases h8:inB x.channel (-1) 999=true
         ·skip
          have HE:Hid (sectorB x=true):=by show _=_;unfold sectorB;simp only[h0,h1,h2,h3,h4,h5,h6,h7,h8]<;>rfl
          go_enter Tryz.func151,Tryz.ntmps151
          go_wp2_with (first|(go_at_call 201;refine (l01Name_any _ _ (by assumption)).mono ?_;rintro e w1 ⟨rfl,rfl⟩)|(go_at_call 148;refine (l00In_any _ _ _ _).mono ?_;rintro e w1 ⟨rfl,rfl⟩))
          go_ret
          exact⟨by rw[HE.out];rfl,by exact Below.refl _ _⟩
         ·replace h8:inB x.channel (-1) 999=false:=Bool.eq_false_iff.2 h8
          have HE:Hid (sectorB x=false):=by show _=_;unfold sectorB;simp only[h0,h1,h2,h3,h4,h5,h6,h7,h8]<;>rfl
          go_enter Tryz.func151,Tryz.ntmps151
          go_wp2_with (first|(go_at_call 201;refine (l01Name_any _ _ (by assumption)).mono ?_;rintro e w1 ⟨rfl,rfl⟩)|(go_at_call 148;refine (l00In_any _ _ _ _).mono ?_;rintro e w1 ⟨rfl,rfl⟩))
          go_ret
          exact⟨by rw[HE.out];rfl,by exact Below.refl _ _⟩
        ·replace h7:inB x.above 1 3000=false:=Bool.eq_false_iff.2 h7
         have HE:Hid (sectorB x=false):=by show _=_;unfold sectorB;simp only[h0,h1,h2,h3,h4,h5,h6,h7]<;>rfl
         go_enter Tryz.func151,Tryz.ntmps151
         go_wp2_with (first|(go_at_call 201;refine (l01Name_any _ _ (by assumption)).mono ?_;rintro e w1 ⟨rfl,rfl⟩)|(go_at_call 148;refine (l00In_any _ _ _ _).mono ?_;rintro e w1 ⟨rfl,rfl⟩))
         go_ret
         exact⟨by rw[HE.out];rfl,by exact Below.refl _ _⟩
       ·replace h6:inB x.tilt 0 30=false:=Bool.eq_false_iff.2 h6
        have HE:Hid (sectorB x=false):=by show _=_;unfold sectorB;simp only[h0,h1,h2,h3,h4,h5,h6]<;>rfl
        go_enter Tryz.func151,Tryz.ntmps151
        go_wp2_with (first|(go_at_call 201;refine (l01Name_any _ _ (by assumption)).mono ?_;rintro e w1 ⟨rfl,rfl⟩)|(go_at_call 148;refine (l00In_any _ _ _ _).mono ?_;rintro e w1 ⟨rfl,rfl⟩))
        go_ret
        exact⟨by rw[HE.out];rfl,by exact Below.refl _ _⟩
      ·replace h5:inB x.azimuth 0 359=false:=Bool.eq_false_iff.2 h5
       have HE:Hid (sectorB x=false):=by show _=_;unfold sectorB;simp only[h0,h1,h2,h3,h4,h5]<;>rfl
       go_enter Tryz.func151,Tryz.ntmps151
       go_wp2_with (first|(go_at_call 201;refine (l01Name_any _ _ (by assumption)).mono ?_;rintro e w1 ⟨rfl,rfl⟩)|(go_at_call 148;refine (l00In_any _ _ _ _).mono ?_;rintro e w1 ⟨rfl,rfl⟩))
       go_ret
       exact⟨by rw[HE.out];rfl,by exact Below.refl _ _⟩
     ·replace h4:nameB x.band=false:=Bool.eq_false_iff.2 h4
      have HE:Hid (sectorB x=false):=by show _=_;unfold sectorB;simp only[h0,h1,h2,h3,h4]<;>rfl
      go_enter Tryz.func151,Tryz.ntmps151
      go_wp2_with (first|(go_at_call 201;refine (l01Name_any _ _ (by assumption)).mono ?_;rintro e w1 ⟨rfl,rfl⟩)|(go_at_call 148;refine (l00In_any _ _ _ _).mono ?_;rintro e w1 ⟨rfl,rfl⟩))
      go_ret
      exact⟨by rw[HE.out];rfl,by exact Below.refl _ _⟩
    ·replace h3:nameB x.radio=false:=Bool.eq_false_iff.2 h3
     have HE:Hid (sectorB x=false):=by show _=_;unfold sectorB;simp only[h0,h1,h2,h3]<;>rfl
     go_enter Tryz.func151,Tryz.ntmps151
     go_wp2_with (first|(go_at_call 201;refine (l01Name_any _ _ (by assumption)).mono ?_;rintro e w1 ⟨rfl,rfl⟩)|(go_at_call 148;refine (l00In_any _ _ _ _).mono ?_;rintro e w1 ⟨rfl,rfl⟩))
     go_ret
     exact⟨by rw[HE.out];rfl,by exact Below.refl _ _⟩
   ·replace h2:nameB x.antenna=false:=Bool.eq_false_iff.2 h2
    have HE:Hid (sectorB x=false):=by show _=_;unfold sectorB;simp only[h0,h1,h2]<;>rfl
    go_enter Tryz.func151,Tryz.ntmps151
    go_wp2_with (first|(go_at_call 201;refine (l01Name_any _ _ (by assumption)).mono ?_;rintro e w1 ⟨rfl,rfl⟩)|(go_at_call 148;refine (l00In_any _ _ _ _).mono ?_;rintro e w1 ⟨rfl,rfl⟩))
    go_ret
    exact⟨by rw[HE.out];rfl,by exact Below.refl _ _⟩
  ·replace h1:nameB x.site=false:=Bool.eq_false_iff.2 h1
   have HE:Hid (sectorB x=false):=by show _=_;unfold sectorB;simp only[h0,h1]<;>rfl
   go_enter Tryz.func151,Tryz.ntmps151
   go_wp2_with (first|(go_at_call 201;refine (l01Name_any _ _ (by assumption)).mono ?_;rintro e w1 ⟨rfl,rfl⟩)|(go_at_call 148;refine (l00In_any _ _ _ _).mono ?_;rintro e w1 ⟨rfl,rfl⟩))
   go_ret
   exact⟨by rw[HE.out];rfl,by exact Below.refl _ _⟩
 ·replace h0:nameB x.name=false:=Bool.eq_false_iff.2 h0
  have HE:Hid (sectorB x=false):=by show _=_;unfold sectorB;simp only[h0]<;>rfl
  go_enter Tryz.func151,Tryz.ntmps151
  go_wp2_with (first|(go_at_call 201;refine (l01Name_any _ _ (by assumption)).mono ?_;rintro e w1 ⟨rfl,rfl⟩)|(go_at_call 148;refine (l00In_any _ _ _ _).mono ?_;rintro e w1 ⟨rfl,rfl⟩))
  go_ret
  exact⟨by rw[HE.out];rfl,by exact Below.refl _ _⟩
end Go.Proofs.YtjfmkmcefnidcaaGreat
