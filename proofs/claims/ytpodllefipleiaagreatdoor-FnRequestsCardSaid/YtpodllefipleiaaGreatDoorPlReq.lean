/- Contracts: requests and rows of requests are valid, for the program and for the reference. Conditions: bounded lengths. -/
import Derived.Test.YtpodllefipleiaaGreatDoorPl4
import Derived.Test.YtpodllefipleiaaGreatDoorHRequest
set_option linter.unusedVariables false
set_option linter.unusedSimpArgs false
namespace Go.Proofs.YtpodllefipleiaaGreatDoor
open Go.RowKit
set_option maxHeartbeats 8000000
set_option maxRecDepth 100000
def reqB (x:DRequest):Bool:=zbi x.id&&(zbi x.applicant&&(zbi x.partner&&(!(eqS x.applicant x.partner)&&(inB x.low 1 100000000&&(inB x.high 1 100000000&&(decide (x.low<x.high)&&(inB x.filed 0 x.deadline&&(decide (x.deadline≤99999)&&inB x.state 1 5))))))))
def za1 (l:List DRequest) (i:Nat):DRequest:=l.getD i ⟨⟨#[]⟩,⟨#[]⟩,⟨#[]⟩,0,0,0,0,0⟩
theorem zaw {l:List DRequest} {i:Nat} (h:i<l.length):l[i]=za1 l i:=by simp[za1,h]
def zam (p x:DRequest):Bool:=ltS p.id x.id
def za6 (l:List DRequest):Bool:=decide (l.length≤24)&&rowOk reqB zam l
theorem zbd (n:Int) (w:World):Calls Tryz.prog 132 #[.int .i64 n] w fun e w'=>e=.returned (.bool (inB n 0 99999))∧w=w':=by
 go_enter Tryz.func132,Tryz.ntmps132;go_wp2_with (go_at_call 133;refine (l00In_any _ _ _ _).mono ?_;rintro e w1 ⟨rfl,rfl⟩);go_ret;exact⟨rfl,rfl⟩
theorem zb1 (x:DRequest) (k0:x.id.size≤maxLen) (k1:x.applicant.size≤maxLen) (k2:x.partner.size≤maxLen) (w:World) :
  Calls Tryz.prog 46 #[.agg #[.string x.id,.string x.applicant,.string x.partner,.int .i64 x.low,.int .i64 x.high,.int .i64 x.filed,.int .i64 x.deadline,.int .i64 x.state]] w fun e w'=>e=.returned (.bool (reqB x))∧Below w.heap.size w w':=by
 by_cases h0:zbi x.id=true
 case neg =>
  replace h0:zbi x.id=false:=Bool.eq_false_iff.2 h0;have HE:Hid (reqB x=false):=by show _=_;unfold reqB;simp only[h0]<;>rfl
  go_enter Tryz.func46,Tryz.ntmps46;go_wp2_with (first|(go_at_call 83;refine (za3 _ _ (by assumption)).mono ?_;rintro e w1 ⟨rfl,rfl⟩)|(go_at_call 84;refine (zan _ _).mono ?_;rintro e w1 ⟨rfl,rfl⟩)|(go_at_call 59;refine (zap _ _ _ _).mono ?_;rintro e w1 ⟨rfl,rfl⟩));go_ret;exact⟨by rw[HE.out];rfl,by exact (Below.refl _ _).alloc (Nat.le_refl _) _⟩
 by_cases h1:zbi x.applicant=true
 case neg =>
  replace h1:zbi x.applicant=false:=Bool.eq_false_iff.2 h1;have HE:Hid (reqB x=false):=by show _=_;unfold reqB;simp only[h0,h1]<;>rfl
  go_enter Tryz.func46,Tryz.ntmps46;go_wp2_with (first|(go_at_call 83;refine (za3 _ _ (by assumption)).mono ?_;rintro e w1 ⟨rfl,rfl⟩)|(go_at_call 84;refine (zan _ _).mono ?_;rintro e w1 ⟨rfl,rfl⟩)|(go_at_call 59;refine (zap _ _ _ _).mono ?_;rintro e w1 ⟨rfl,rfl⟩));go_ret;exact⟨by rw[HE.out];rfl,by exact (Below.refl _ _).alloc (Nat.le_refl _) _⟩
 by_cases h2:zbi x.partner=true
 case neg =>
  replace h2:zbi x.partner=false:=Bool.eq_false_iff.2 h2;have HE:Hid (reqB x=false):=by show _=_;unfold reqB;simp only[h0,h1,h2]<;>rfl
  go_enter Tryz.func46,Tryz.ntmps46;go_wp2_with (first|(go_at_call 83;refine (za3 _ _ (by assumption)).mono ?_;rintro e w1 ⟨rfl,rfl⟩)|(go_at_call 84;refine (zan _ _).mono ?_;rintro e w1 ⟨rfl,rfl⟩)|(go_at_call 59;refine (zap _ _ _ _).mono ?_;rintro e w1 ⟨rfl,rfl⟩));go_ret;exact⟨by rw[HE.out];rfl,by exact (Below.refl _ _).alloc (Nat.le_refl _) _⟩
 by_cases h3:eqS x.applicant x.partner=true
 case pos =>
  have h3l:(x.applicant.toList == x.partner.toList)=true:=h3;have HE:Hid (reqB x=false):=by show _=_;unfold reqB;simp only[h0,h1,h2,h3]<;>rfl
  go_enter Tryz.func46,Tryz.ntmps46;go_wp2_with (first|(go_at_call 83;refine (za3 _ _ (by assumption)).mono ?_;rintro e w1 ⟨rfl,rfl⟩)|(go_at_call 84;refine (zan _ _).mono ?_;rintro e w1 ⟨rfl,rfl⟩)|(go_at_call 59;refine (zap _ _ _ _).mono ?_;rintro e w1 ⟨rfl,rfl⟩));go_ret;exact⟨by rw[HE.out];rfl,by exact (Below.refl _ _).alloc (Nat.le_refl _) _⟩
 replace h3:eqS x.applicant x.partner=false:=Bool.eq_false_iff.2 h3;have h3l:(x.applicant.toList == x.partner.toList)=false:=h3
 by_cases h4:inB x.low 1 100000000=true
 case neg =>
  replace h4:inB x.low 1 100000000=false:=Bool.eq_false_iff.2 h4;have HE:Hid (reqB x=false):=by show _=_;unfold reqB;simp only[h0,h1,h2,h3,h4]<;>rfl
  go_enter Tryz.func46,Tryz.ntmps46;go_wp2_with (first|(go_at_call 83;refine (za3 _ _ (by assumption)).mono ?_;rintro e w1 ⟨rfl,rfl⟩)|(go_at_call 84;refine (zan _ _).mono ?_;rintro e w1 ⟨rfl,rfl⟩)|(go_at_call 59;refine (zap _ _ _ _).mono ?_;rintro e w1 ⟨rfl,rfl⟩));go_ret;exact⟨by rw[HE.out];rfl,by exact (Below.refl _ _).alloc (Nat.le_refl _) _⟩
 by_cases h5:inB x.high 1 100000000=true
 case neg =>
  replace h5:inB x.high 1 100000000=false:=Bool.eq_false_iff.2 h5;have HE:Hid (reqB x=false):=by show _=_;unfold reqB;simp only[h0,h1,h2,h3,h4,h5]<;>rfl
  go_enter Tryz.func46,Tryz.ntmps46;go_wp2_with (first|(go_at_call 83;refine (za3 _ _ (by assumption)).mono ?_;rintro e w1 ⟨rfl,rfl⟩)|(go_at_call 84;refine (zan _ _).mono ?_;rintro e w1 ⟨rfl,rfl⟩)|(go_at_call 59;refine (zap _ _ _ _).mono ?_;rintro e w1 ⟨rfl,rfl⟩));go_ret;exact⟨by rw[HE.out];rfl,by exact (Below.refl _ _).alloc (Nat.le_refl _) _⟩
 by_cases h6:x.low<x.high
 case neg =>
  have hd6:decide (x.low<x.high)=false:=decide_eq_false h6;replace h6:x.high≤x.low:=by omega
  have HE:Hid (reqB x=false):=by show _=_;unfold reqB;simp only[h0,h1,h2,h3,h4,h5,hd6]<;>rfl
  go_enter Tryz.func46,Tryz.ntmps46;go_wp2_with (first|(go_at_call 83;refine (za3 _ _ (by assumption)).mono ?_;rintro e w1 ⟨rfl,rfl⟩)|(go_at_call 84;refine (zan _ _).mono ?_;rintro e w1 ⟨rfl,rfl⟩)|(go_at_call 59;refine (zap _ _ _ _).mono ?_;rintro e w1 ⟨rfl,rfl⟩));go_ret;exact⟨by rw[HE.out];rfl,by exact (Below.refl _ _).alloc (Nat.le_refl _) _⟩
 have hd6:decide (x.low<x.high)=true:=decide_eq_true h6
 by_cases h7:inB x.filed 0 x.deadline=true
 case neg =>
  replace h7:inB x.filed 0 x.deadline=false:=Bool.eq_false_iff.2 h7;have HE:Hid (reqB x=false):=by show _=_;unfold reqB;simp only[h0,h1,h2,h3,h4,h5,hd6,h7]<;>rfl
  go_enter Tryz.func46,Tryz.ntmps46;go_wp2_with (first|(go_at_call 83;refine (za3 _ _ (by assumption)).mono ?_;rintro e w1 ⟨rfl,rfl⟩)|(go_at_call 84;refine (zan _ _).mono ?_;rintro e w1 ⟨rfl,rfl⟩)|(go_at_call 59;refine (zap _ _ _ _).mono ?_;rintro e w1 ⟨rfl,rfl⟩));go_ret;exact⟨by rw[HE.out];rfl,by exact (Below.refl _ _).alloc (Nat.le_refl _) _⟩
 by_cases h8:x.deadline≤99999
 case neg =>
  have hd8:decide (x.deadline≤99999)=false:=decide_eq_false h8;replace h8:99999<x.deadline:=by omega
  have HE:Hid (reqB x=false):=by show _=_;unfold reqB;simp only[h0,h1,h2,h3,h4,h5,hd6,h7,hd8]<;>rfl
  go_enter Tryz.func46,Tryz.ntmps46;go_wp2_with (first|(go_at_call 83;refine (za3 _ _ (by assumption)).mono ?_;rintro e w1 ⟨rfl,rfl⟩)|(go_at_call 84;refine (zan _ _).mono ?_;rintro e w1 ⟨rfl,rfl⟩)|(go_at_call 59;refine (zap _ _ _ _).mono ?_;rintro e w1 ⟨rfl,rfl⟩));go_ret;exact⟨by rw[HE.out];rfl,by exact (Below.refl _ _).alloc (Nat.le_refl _) _⟩
 have hd8:decide (x.deadline≤99999)=true:=decide_eq_true h8
 by_cases h9:inB x.state 1 5=true
 case neg =>
  replace h9:inB x.state 1 5=false:=Bool.eq_false_iff.2 h9;have HE:Hid (reqB x=false):=by show _=_;unfold reqB;simp only[h0,h1,h2,h3,h4,h5,hd6,h7,hd8,h9]<;>rfl
  go_enter Tryz.func46,Tryz.ntmps46;go_wp2_with (first|(go_at_call 83;refine (za3 _ _ (by assumption)).mono ?_;rintro e w1 ⟨rfl,rfl⟩)|(go_at_call 84;refine (zan _ _).mono ?_;rintro e w1 ⟨rfl,rfl⟩)|(go_at_call 59;refine (zap _ _ _ _).mono ?_;rintro e w1 ⟨rfl,rfl⟩));go_ret;exact⟨by rw[HE.out];rfl,by exact (Below.refl _ _).alloc (Nat.le_refl _) _⟩
 have HE:Hid (reqB x=true):=by show _=_;unfold reqB;simp only[h0,h1,h2,h3,h4,h5,hd6,h7,hd8,h9]<;>rfl
 go_enter Tryz.func46,Tryz.ntmps46;go_wp2_with (first|(go_at_call 83;refine (za3 _ _ (by assumption)).mono ?_;rintro e w1 ⟨rfl,rfl⟩)|(go_at_call 84;refine (zan _ _).mono ?_;rintro e w1 ⟨rfl,rfl⟩)|(go_at_call 59;refine (zap _ _ _ _).mono ?_;rintro e w1 ⟨rfl,rfl⟩));go_ret;exact⟨by rw[HE.out];rfl,by exact (Below.refl _ _).alloc (Nat.le_refl _) _⟩
def reqS (x:DRequest):Bool:=zbi x.id&&(zbi x.applicant&&(zbi x.partner&&(!(eqS x.applicant x.partner)&&(inB x.low 1 100000000&&(inB x.high 1 100000000&&(decide (x.low<x.high)&&(inB x.filed 0 99999&&(inB x.deadline 0 99999&&(decide (x.filed≤x.deadline)&&inB x.state 1 5)))))))))
theorem reqS_eq (x:DRequest):reqS x=reqB x:=by
 unfold reqS reqB;have e:(inB x.filed 0 99999&&(inB x.deadline 0 99999&&(decide (x.filed≤x.deadline)&&inB x.state 1 5)))=(inB x.filed 0 x.deadline&&(decide (x.deadline≤99999)&&inB x.state 1 5)):=by
  rw[Bool.eq_iff_iff];simp only[inB,Bool.and_eq_true,decide_eq_true_eq];omega
 rw[e]
theorem l27One_any (x:DRequest) (b off:Nat) (w:World) (c0:w.cell? ⟨b,off,none⟩=some (.string x.id)) (c1:w.cell? ⟨b,off+1,none⟩=some (.string x.applicant)) (c2:w.cell? ⟨b,off+2,none⟩=some (.string x.partner)) (c3:w.cell? ⟨b,off+3,none⟩=some (.int .i64 x.low)) (c4:w.cell? ⟨b,off+4,none⟩=some (.int .i64 x.high)) (c5:w.cell? ⟨b,off+5,none⟩=some (.int .i64 x.filed)) (c6:w.cell? ⟨b,off+6,none⟩=some (.int .i64 x.deadline)) (c7:w.cell? ⟨b,off+7,none⟩=some (.int .i64 x.state)) (k0:x.id.size≤maxLen) (k1:x.applicant.size≤maxLen) (k2:x.partner.size≤maxLen) :
  Calls Tryz.prog 106 #[.pointer (some ⟨b,off,none⟩)] w fun e w'=>e=.returned (.bool (reqS x))∧Below w.heap.size w w':=by
 have hbl:=zcp c0
 dsimp only at hbl
 by_cases h0:zbi x.id=true
 case neg =>
  replace h0:zbi x.id=false:=Bool.eq_false_iff.2 h0;have C0:Hid (∀ W:World,Calls Tryz.prog 130 #[.string x.id] W fun e w'=>e=.returned (.bool false)∧W=w'):=fun W=>by
   have hh:=zaf x.id W k0;rw[h0] at hh;exact hh
  have HE:Hid (reqS x=false):=by show _=_;unfold reqS;simp only[h0]<;>rfl
  go_enter Tryz.func106,Tryz.ntmps106;go_upto_region 1 with (fail);have oB0:=za2 (w0:=w) (show b<w.heap.size by omega);refine zac w.heap.size w (Below.refl _ _) (by kernel_rfl) (by kernel_rfl) ?_
  repeat (go_big_quiet_step (first|(go_at_call 130;with_reducible exact zab (C0.out _))))
  refine wpQuiet_nil ?_;rintro _ ⟨X,rfl⟩;have BE1:=Lib.hid (zad w.heap.size w X);clear oB0;generalize over w.heap.size w X=W1 at *;have BEE:=Lib.hid BE1.out;go_wp2;go_ret;exact⟨by rw[HE.out];rfl,by exact BEE.out⟩
 by_cases h1:zbi x.applicant=true
 case neg =>
  replace h1:zbi x.applicant=false:=Bool.eq_false_iff.2 h1;have C0:Hid (∀ W:World,Calls Tryz.prog 130 #[.string x.id] W fun e w'=>e=.returned (.bool true)∧W=w'):=fun W=>by
   have hh:=zaf x.id W k0;rw[h0] at hh;exact hh
  have C1:Hid (∀ W:World,Calls Tryz.prog 130 #[.string x.applicant] W fun e w'=>e=.returned (.bool false)∧W=w'):=fun W=>by
   have hh:=zaf x.applicant W k1;rw[h1] at hh;exact hh
  have HE:Hid (reqS x=false):=by show _=_;unfold reqS;simp only[h0,h1]<;>rfl
  go_enter Tryz.func106,Tryz.ntmps106;go_upto_region 1 with (fail);have oB0:=za2 (w0:=w) (show b<w.heap.size by omega);refine zac w.heap.size w (Below.refl _ _) (by kernel_rfl) (by kernel_rfl) ?_
  repeat (go_big_quiet_step (first|(go_at_call 130;with_reducible exact zab (C0.out _))|(go_at_call 130;with_reducible exact zab (C1.out _))))
  refine wpQuiet_nil ?_;rintro _ ⟨X,rfl⟩;have BE1:=Lib.hid (zad w.heap.size w X);clear oB0;generalize over w.heap.size w X=W1 at *;have BEE:=Lib.hid BE1.out;go_wp2;go_ret;exact⟨by rw[HE.out];rfl,by exact BEE.out⟩
 by_cases h2:zbi x.partner=true
 case neg =>
  replace h2:zbi x.partner=false:=Bool.eq_false_iff.2 h2;have C0:Hid (∀ W:World,Calls Tryz.prog 130 #[.string x.id] W fun e w'=>e=.returned (.bool true)∧W=w'):=fun W=>by
   have hh:=zaf x.id W k0;rw[h0] at hh;exact hh
  have C1:Hid (∀ W:World,Calls Tryz.prog 130 #[.string x.applicant] W fun e w'=>e=.returned (.bool true)∧W=w'):=fun W=>by
   have hh:=zaf x.applicant W k1;rw[h1] at hh;exact hh
  have C2:Hid (∀ W:World,Calls Tryz.prog 130 #[.string x.partner] W fun e w'=>e=.returned (.bool false)∧W=w'):=fun W=>by
   have hh:=zaf x.partner W k2;rw[h2] at hh;exact hh
  have HE:Hid (reqS x=false):=by show _=_;unfold reqS;simp only[h0,h1,h2]<;>rfl
  go_enter Tryz.func106,Tryz.ntmps106;go_upto_region 1 with (fail);have oB0:=za2 (w0:=w) (show b<w.heap.size by omega);refine zac w.heap.size w (Below.refl _ _) (by kernel_rfl) (by kernel_rfl) ?_
  repeat (go_big_quiet_step (first|(go_at_call 130;with_reducible exact zab (C0.out _))|(go_at_call 130;with_reducible exact zab (C1.out _))|(go_at_call 130;with_reducible exact zab (C2.out _))))
  refine wpQuiet_nil ?_;rintro _ ⟨X,rfl⟩;have BE1:=Lib.hid (zad w.heap.size w X);clear oB0;generalize over w.heap.size w X=W1 at *;have BEE:=Lib.hid BE1.out;go_wp2;go_ret;exact⟨by rw[HE.out];rfl,by exact BEE.out⟩
 by_cases h3:eqS x.applicant x.partner=true
 case pos =>
  have h3l:(x.applicant.toList == x.partner.toList)=true:=h3;have C0:Hid (∀ W:World,Calls Tryz.prog 130 #[.string x.id] W fun e w'=>e=.returned (.bool true)∧W=w'):=fun W=>by
   have hh:=zaf x.id W k0;rw[h0] at hh;exact hh
  have C1:Hid (∀ W:World,Calls Tryz.prog 130 #[.string x.applicant] W fun e w'=>e=.returned (.bool true)∧W=w'):=fun W=>by
   have hh:=zaf x.applicant W k1;rw[h1] at hh;exact hh
  have C2:Hid (∀ W:World,Calls Tryz.prog 130 #[.string x.partner] W fun e w'=>e=.returned (.bool true)∧W=w'):=fun W=>by
   have hh:=zaf x.partner W k2;rw[h2] at hh;exact hh
  have HE:Hid (reqS x=false):=by show _=_;unfold reqS;simp only[h0,h1,h2,h3]<;>rfl
  go_enter Tryz.func106,Tryz.ntmps106;go_upto_region 1 with (fail);have oB0:=za2 (w0:=w) (show b<w.heap.size by omega);refine zac w.heap.size w (Below.refl _ _) (by kernel_rfl) (by kernel_rfl) ?_
  repeat (go_big_quiet_step (first|(go_at_call 130;with_reducible exact zab (C0.out _))|(go_at_call 130;with_reducible exact zab (C1.out _))|(go_at_call 130;with_reducible exact zab (C2.out _))))
  refine wpQuiet_nil ?_;rintro _ ⟨X,rfl⟩;have BE1:=Lib.hid (zad w.heap.size w X);clear oB0;generalize over w.heap.size w X=W1 at *;have BEE:=Lib.hid BE1.out;go_wp2;go_ret;exact⟨by rw[HE.out];rfl,by exact BEE.out⟩
 replace h3:eqS x.applicant x.partner=false:=Bool.eq_false_iff.2 h3;have h3l:(x.applicant.toList == x.partner.toList)=false:=h3
 by_cases h4:inB x.low 1 100000000=true
 case neg =>
  replace h4:inB x.low 1 100000000=false:=Bool.eq_false_iff.2 h4;have C0:Hid (∀ W:World,Calls Tryz.prog 130 #[.string x.id] W fun e w'=>e=.returned (.bool true)∧W=w'):=fun W=>by
   have hh:=zaf x.id W k0;rw[h0] at hh;exact hh
  have C1:Hid (∀ W:World,Calls Tryz.prog 130 #[.string x.applicant] W fun e w'=>e=.returned (.bool true)∧W=w'):=fun W=>by
   have hh:=zaf x.applicant W k1;rw[h1] at hh;exact hh
  have C2:Hid (∀ W:World,Calls Tryz.prog 130 #[.string x.partner] W fun e w'=>e=.returned (.bool true)∧W=w'):=fun W=>by
   have hh:=zaf x.partner W k2;rw[h2] at hh;exact hh
  have C3:Hid (∀ W:World,Calls Tryz.prog 131 #[.int .i64 x.low] W fun e w'=>e=.returned (.bool false)∧W=w'):=fun W=>by
   have hh:=zah x.low W;rw[h4] at hh;exact hh
  have HE:Hid (reqS x=false):=by show _=_;unfold reqS;simp only[h0,h1,h2,h3,h4]<;>rfl
  go_enter Tryz.func106,Tryz.ntmps106;go_upto_region 1 with (fail);have oB0:=za2 (w0:=w) (show b<w.heap.size by omega);refine zac w.heap.size w (Below.refl _ _) (by kernel_rfl) (by kernel_rfl) ?_
  repeat (go_big_quiet_step (first|(go_at_call 130;with_reducible exact zab (C0.out _))|(go_at_call 130;with_reducible exact zab (C1.out _))|(go_at_call 130;with_reducible exact zab (C2.out _))|(go_at_call 131;with_reducible exact zab (C3.out _))))
  refine wpQuiet_nil ?_;rintro _ ⟨X,rfl⟩;have BE1:=Lib.hid (zad w.heap.size w X);clear oB0;generalize over w.heap.size w X=W1 at *;have BE:=Lib.hid BE1.out;have zz:=BE1.out.size;have hbl1:b<W1.heap.size:=by omega
  have d0:=(BE1.out.cell (p:=⟨b,off,none⟩) hbl).trans c0;have d1:=(BE1.out.cell (p:=⟨b,off+1,none⟩) hbl).trans c1;have d2:=(BE1.out.cell (p:=⟨b,off+2,none⟩) hbl).trans c2;have d3:=(BE1.out.cell (p:=⟨b,off+3,none⟩) hbl).trans c3;have d4:=(BE1.out.cell (p:=⟨b,off+4,none⟩) hbl).trans c4;have d5:=(BE1.out.cell (p:=⟨b,off+5,none⟩) hbl).trans c5;have d6:=(BE1.out.cell (p:=⟨b,off+6,none⟩) hbl).trans c6;have d7:=(BE1.out.cell (p:=⟨b,off+7,none⟩) hbl).trans c7;go_upto_region 3 with (fail);have oB0:=za2 (w0:=W1) (show b<W1.heap.size by omega);refine zac W1.heap.size W1 (Below.refl _ _) (by kernel_rfl) (by kernel_rfl) ?_
  repeat (go_big_quiet_step (first|(go_at_call 130;with_reducible exact zab (C0.out _))|(go_at_call 130;with_reducible exact zab (C1.out _))|(go_at_call 130;with_reducible exact zab (C2.out _))|(go_at_call 131;with_reducible exact zab (C3.out _))))
  refine wpQuiet_nil ?_;rintro _ ⟨X,rfl⟩;have BE2:=Lib.hid (zad W1.heap.size W1 X);clear oB0;generalize over W1.heap.size W1 X=W2 at *;have BEE:=Lib.hid (BE1.out.trans (BE2.out.mono (by omega)));go_wp2;go_ret;exact⟨by rw[HE.out];rfl,by exact BEE.out⟩
 by_cases h5:inB x.high 1 100000000=true
 case neg =>
  replace h5:inB x.high 1 100000000=false:=Bool.eq_false_iff.2 h5;have C0:Hid (∀ W:World,Calls Tryz.prog 130 #[.string x.id] W fun e w'=>e=.returned (.bool true)∧W=w'):=fun W=>by
   have hh:=zaf x.id W k0;rw[h0] at hh;exact hh
  have C1:Hid (∀ W:World,Calls Tryz.prog 130 #[.string x.applicant] W fun e w'=>e=.returned (.bool true)∧W=w'):=fun W=>by
   have hh:=zaf x.applicant W k1;rw[h1] at hh;exact hh
  have C2:Hid (∀ W:World,Calls Tryz.prog 130 #[.string x.partner] W fun e w'=>e=.returned (.bool true)∧W=w'):=fun W=>by
   have hh:=zaf x.partner W k2;rw[h2] at hh;exact hh
  have C3:Hid (∀ W:World,Calls Tryz.prog 131 #[.int .i64 x.low] W fun e w'=>e=.returned (.bool true)∧W=w'):=fun W=>by
   have hh:=zah x.low W;rw[h4] at hh;exact hh
  have C4:Hid (∀ W:World,Calls Tryz.prog 131 #[.int .i64 x.high] W fun e w'=>e=.returned (.bool false)∧W=w'):=fun W=>by
   have hh:=zah x.high W;rw[h5] at hh;exact hh
  have HE:Hid (reqS x=false):=by show _=_;unfold reqS;simp only[h0,h1,h2,h3,h4,h5]<;>rfl
  go_enter Tryz.func106,Tryz.ntmps106;go_upto_region 1 with (fail);have oB0:=za2 (w0:=w) (show b<w.heap.size by omega);refine zac w.heap.size w (Below.refl _ _) (by kernel_rfl) (by kernel_rfl) ?_
  repeat (go_big_quiet_step (first|(go_at_call 130;with_reducible exact zab (C0.out _))|(go_at_call 130;with_reducible exact zab (C1.out _))|(go_at_call 130;with_reducible exact zab (C2.out _))|(go_at_call 131;with_reducible exact zab (C3.out _))|(go_at_call 131;with_reducible exact zab (C4.out _))))
  refine wpQuiet_nil ?_;rintro _ ⟨X,rfl⟩;have BE1:=Lib.hid (zad w.heap.size w X);clear oB0;generalize over w.heap.size w X=W1 at *;have BE:=Lib.hid BE1.out;have zz:=BE1.out.size;have hbl1:b<W1.heap.size:=by omega
  have d0:=(BE1.out.cell (p:=⟨b,off,none⟩) hbl).trans c0;have d1:=(BE1.out.cell (p:=⟨b,off+1,none⟩) hbl).trans c1;have d2:=(BE1.out.cell (p:=⟨b,off+2,none⟩) hbl).trans c2;have d3:=(BE1.out.cell (p:=⟨b,off+3,none⟩) hbl).trans c3;have d4:=(BE1.out.cell (p:=⟨b,off+4,none⟩) hbl).trans c4;have d5:=(BE1.out.cell (p:=⟨b,off+5,none⟩) hbl).trans c5;have d6:=(BE1.out.cell (p:=⟨b,off+6,none⟩) hbl).trans c6;have d7:=(BE1.out.cell (p:=⟨b,off+7,none⟩) hbl).trans c7;go_upto_region 3 with (fail);have oB0:=za2 (w0:=W1) (show b<W1.heap.size by omega);refine zac W1.heap.size W1 (Below.refl _ _) (by kernel_rfl) (by kernel_rfl) ?_
  repeat (go_big_quiet_step (first|(go_at_call 130;with_reducible exact zab (C0.out _))|(go_at_call 130;with_reducible exact zab (C1.out _))|(go_at_call 130;with_reducible exact zab (C2.out _))|(go_at_call 131;with_reducible exact zab (C3.out _))|(go_at_call 131;with_reducible exact zab (C4.out _))))
  refine wpQuiet_nil ?_;rintro _ ⟨X,rfl⟩;have BE2:=Lib.hid (zad W1.heap.size W1 X);clear oB0;generalize over W1.heap.size W1 X=W2 at *;have BEE:=Lib.hid (BE1.out.trans (BE2.out.mono (by omega)));go_wp2;go_ret;exact⟨by rw[HE.out];rfl,by exact BEE.out⟩
 by_cases h6:x.low<x.high
 case neg =>
  have hd6:decide (x.low<x.high)=false:=decide_eq_false h6;replace h6:x.high≤x.low:=by omega
  have C0:Hid (∀ W:World,Calls Tryz.prog 130 #[.string x.id] W fun e w'=>e=.returned (.bool true)∧W=w'):=fun W=>by
   have hh:=zaf x.id W k0;rw[h0] at hh;exact hh
  have C1:Hid (∀ W:World,Calls Tryz.prog 130 #[.string x.applicant] W fun e w'=>e=.returned (.bool true)∧W=w'):=fun W=>by
   have hh:=zaf x.applicant W k1;rw[h1] at hh;exact hh
  have C2:Hid (∀ W:World,Calls Tryz.prog 130 #[.string x.partner] W fun e w'=>e=.returned (.bool true)∧W=w'):=fun W=>by
   have hh:=zaf x.partner W k2;rw[h2] at hh;exact hh
  have C3:Hid (∀ W:World,Calls Tryz.prog 131 #[.int .i64 x.low] W fun e w'=>e=.returned (.bool true)∧W=w'):=fun W=>by
   have hh:=zah x.low W;rw[h4] at hh;exact hh
  have C4:Hid (∀ W:World,Calls Tryz.prog 131 #[.int .i64 x.high] W fun e w'=>e=.returned (.bool true)∧W=w'):=fun W=>by
   have hh:=zah x.high W;rw[h5] at hh;exact hh
  have HE:Hid (reqS x=false):=by show _=_;unfold reqS;simp only[h0,h1,h2,h3,h4,h5,hd6]<;>rfl
  go_enter Tryz.func106,Tryz.ntmps106;go_upto_region 1 with (fail);have oB0:=za2 (w0:=w) (show b<w.heap.size by omega);refine zac w.heap.size w (Below.refl _ _) (by kernel_rfl) (by kernel_rfl) ?_
  repeat (go_big_quiet_step (first|(go_at_call 130;with_reducible exact zab (C0.out _))|(go_at_call 130;with_reducible exact zab (C1.out _))|(go_at_call 130;with_reducible exact zab (C2.out _))|(go_at_call 131;with_reducible exact zab (C3.out _))|(go_at_call 131;with_reducible exact zab (C4.out _))))
  refine wpQuiet_nil ?_;rintro _ ⟨X,rfl⟩;have BE1:=Lib.hid (zad w.heap.size w X);clear oB0;generalize over w.heap.size w X=W1 at *;have BE:=Lib.hid BE1.out;have zz:=BE1.out.size;have hbl1:b<W1.heap.size:=by omega
  have d0:=(BE1.out.cell (p:=⟨b,off,none⟩) hbl).trans c0;have d1:=(BE1.out.cell (p:=⟨b,off+1,none⟩) hbl).trans c1;have d2:=(BE1.out.cell (p:=⟨b,off+2,none⟩) hbl).trans c2;have d3:=(BE1.out.cell (p:=⟨b,off+3,none⟩) hbl).trans c3;have d4:=(BE1.out.cell (p:=⟨b,off+4,none⟩) hbl).trans c4;have d5:=(BE1.out.cell (p:=⟨b,off+5,none⟩) hbl).trans c5;have d6:=(BE1.out.cell (p:=⟨b,off+6,none⟩) hbl).trans c6;have d7:=(BE1.out.cell (p:=⟨b,off+7,none⟩) hbl).trans c7;go_upto_region 3 with (fail);have oB0:=za2 (w0:=W1) (show b<W1.heap.size by omega);refine zac W1.heap.size W1 (Below.refl _ _) (by kernel_rfl) (by kernel_rfl) ?_
  repeat (go_big_quiet_step (first|(go_at_call 130;with_reducible exact zab (C0.out _))|(go_at_call 130;with_reducible exact zab (C1.out _))|(go_at_call 130;with_reducible exact zab (C2.out _))|(go_at_call 131;with_reducible exact zab (C3.out _))|(go_at_call 131;with_reducible exact zab (C4.out _))))
  refine wpQuiet_nil ?_;rintro _ ⟨X,rfl⟩;have BE2:=Lib.hid (zad W1.heap.size W1 X);clear oB0;generalize over W1.heap.size W1 X=W2 at *;have BEE:=Lib.hid (BE1.out.trans (BE2.out.mono (by omega)));go_wp2;go_ret;exact⟨by rw[HE.out];rfl,by exact BEE.out⟩
 have hd6:decide (x.low<x.high)=true:=decide_eq_true h6
 by_cases h7:inB x.filed 0 99999=true
 case neg =>
  replace h7:inB x.filed 0 99999=false:=Bool.eq_false_iff.2 h7;have C0:Hid (∀ W:World,Calls Tryz.prog 130 #[.string x.id] W fun e w'=>e=.returned (.bool true)∧W=w'):=fun W=>by
   have hh:=zaf x.id W k0;rw[h0] at hh;exact hh
  have C1:Hid (∀ W:World,Calls Tryz.prog 130 #[.string x.applicant] W fun e w'=>e=.returned (.bool true)∧W=w'):=fun W=>by
   have hh:=zaf x.applicant W k1;rw[h1] at hh;exact hh
  have C2:Hid (∀ W:World,Calls Tryz.prog 130 #[.string x.partner] W fun e w'=>e=.returned (.bool true)∧W=w'):=fun W=>by
   have hh:=zaf x.partner W k2;rw[h2] at hh;exact hh
  have C3:Hid (∀ W:World,Calls Tryz.prog 131 #[.int .i64 x.low] W fun e w'=>e=.returned (.bool true)∧W=w'):=fun W=>by
   have hh:=zah x.low W;rw[h4] at hh;exact hh
  have C4:Hid (∀ W:World,Calls Tryz.prog 131 #[.int .i64 x.high] W fun e w'=>e=.returned (.bool true)∧W=w'):=fun W=>by
   have hh:=zah x.high W;rw[h5] at hh;exact hh
  have C5:Hid (∀ W:World,Calls Tryz.prog 132 #[.int .i64 x.filed] W fun e w'=>e=.returned (.bool false)∧W=w'):=fun W=>by
   have hh:=zbd x.filed W;rw[h7] at hh;exact hh
  have HE:Hid (reqS x=false):=by show _=_;unfold reqS;simp only[h0,h1,h2,h3,h4,h5,hd6,h7]<;>rfl
  go_enter Tryz.func106,Tryz.ntmps106;go_upto_region 1 with (fail);have oB0:=za2 (w0:=w) (show b<w.heap.size by omega);refine zac w.heap.size w (Below.refl _ _) (by kernel_rfl) (by kernel_rfl) ?_
  repeat (go_big_quiet_step (first|(go_at_call 130;with_reducible exact zab (C0.out _))|(go_at_call 130;with_reducible exact zab (C1.out _))|(go_at_call 130;with_reducible exact zab (C2.out _))|(go_at_call 131;with_reducible exact zab (C3.out _))|(go_at_call 131;with_reducible exact zab (C4.out _))|(go_at_call 132;with_reducible exact zab (C5.out _))))
  refine wpQuiet_nil ?_;rintro _ ⟨X,rfl⟩;have BE1:=Lib.hid (zad w.heap.size w X);clear oB0;generalize over w.heap.size w X=W1 at *;have BE:=Lib.hid BE1.out;have zz:=BE1.out.size;have hbl1:b<W1.heap.size:=by omega
  have d0:=(BE1.out.cell (p:=⟨b,off,none⟩) hbl).trans c0;have d1:=(BE1.out.cell (p:=⟨b,off+1,none⟩) hbl).trans c1;have d2:=(BE1.out.cell (p:=⟨b,off+2,none⟩) hbl).trans c2;have d3:=(BE1.out.cell (p:=⟨b,off+3,none⟩) hbl).trans c3;have d4:=(BE1.out.cell (p:=⟨b,off+4,none⟩) hbl).trans c4;have d5:=(BE1.out.cell (p:=⟨b,off+5,none⟩) hbl).trans c5;have d6:=(BE1.out.cell (p:=⟨b,off+6,none⟩) hbl).trans c6;have d7:=(BE1.out.cell (p:=⟨b,off+7,none⟩) hbl).trans c7;go_upto_region 3 with (fail);have oB0:=za2 (w0:=W1) (show b<W1.heap.size by omega);refine zac W1.heap.size W1 (Below.refl _ _) (by kernel_rfl) (by kernel_rfl) ?_
  repeat (go_big_quiet_step (first|(go_at_call 130;with_reducible exact zab (C0.out _))|(go_at_call 130;with_reducible exact zab (C1.out _))|(go_at_call 130;with_reducible exact zab (C2.out _))|(go_at_call 131;with_reducible exact zab (C3.out _))|(go_at_call 131;with_reducible exact zab (C4.out _))|(go_at_call 132;with_reducible exact zab (C5.out _))))
  refine wpQuiet_nil ?_;rintro _ ⟨X,rfl⟩;have BE2:=Lib.hid (zad W1.heap.size W1 X);clear oB0;generalize over W1.heap.size W1 X=W2 at *;have BEE:=Lib.hid (BE1.out.trans (BE2.out.mono (by omega)));go_wp2;go_ret;exact⟨by rw[HE.out];rfl,by exact BEE.out⟩
 by_cases h8:inB x.deadline 0 99999=true
 case neg =>
  replace h8:inB x.deadline 0 99999=false:=Bool.eq_false_iff.2 h8;have C0:Hid (∀ W:World,Calls Tryz.prog 130 #[.string x.id] W fun e w'=>e=.returned (.bool true)∧W=w'):=fun W=>by
   have hh:=zaf x.id W k0;rw[h0] at hh;exact hh
  have C1:Hid (∀ W:World,Calls Tryz.prog 130 #[.string x.applicant] W fun e w'=>e=.returned (.bool true)∧W=w'):=fun W=>by
   have hh:=zaf x.applicant W k1;rw[h1] at hh;exact hh
  have C2:Hid (∀ W:World,Calls Tryz.prog 130 #[.string x.partner] W fun e w'=>e=.returned (.bool true)∧W=w'):=fun W=>by
   have hh:=zaf x.partner W k2;rw[h2] at hh;exact hh
  have C3:Hid (∀ W:World,Calls Tryz.prog 131 #[.int .i64 x.low] W fun e w'=>e=.returned (.bool true)∧W=w'):=fun W=>by
   have hh:=zah x.low W;rw[h4] at hh;exact hh
  have C4:Hid (∀ W:World,Calls Tryz.prog 131 #[.int .i64 x.high] W fun e w'=>e=.returned (.bool true)∧W=w'):=fun W=>by
   have hh:=zah x.high W;rw[h5] at hh;exact hh
  have C5:Hid (∀ W:World,Calls Tryz.prog 132 #[.int .i64 x.filed] W fun e w'=>e=.returned (.bool true)∧W=w'):=fun W=>by
   have hh:=zbd x.filed W;rw[h7] at hh;exact hh
  have C6:Hid (∀ W:World,Calls Tryz.prog 132 #[.int .i64 x.deadline] W fun e w'=>e=.returned (.bool false)∧W=w'):=fun W=>by
   have hh:=zbd x.deadline W;rw[h8] at hh;exact hh
  have HE:Hid (reqS x=false):=by show _=_;unfold reqS;simp only[h0,h1,h2,h3,h4,h5,hd6,h7,h8]<;>rfl
  go_enter Tryz.func106,Tryz.ntmps106;go_upto_region 1 with (fail);have oB0:=za2 (w0:=w) (show b<w.heap.size by omega);refine zac w.heap.size w (Below.refl _ _) (by kernel_rfl) (by kernel_rfl) ?_
  repeat (go_big_quiet_step (first|(go_at_call 130;with_reducible exact zab (C0.out _))|(go_at_call 130;with_reducible exact zab (C1.out _))|(go_at_call 130;with_reducible exact zab (C2.out _))|(go_at_call 131;with_reducible exact zab (C3.out _))|(go_at_call 131;with_reducible exact zab (C4.out _))|(go_at_call 132;with_reducible exact zab (C5.out _))|(go_at_call 132;with_reducible exact zab (C6.out _))))
  refine wpQuiet_nil ?_;rintro _ ⟨X,rfl⟩;have BE1:=Lib.hid (zad w.heap.size w X);clear oB0;generalize over w.heap.size w X=W1 at *;have BE:=Lib.hid BE1.out;have zz:=BE1.out.size;have hbl1:b<W1.heap.size:=by omega
  have d0:=(BE1.out.cell (p:=⟨b,off,none⟩) hbl).trans c0;have d1:=(BE1.out.cell (p:=⟨b,off+1,none⟩) hbl).trans c1;have d2:=(BE1.out.cell (p:=⟨b,off+2,none⟩) hbl).trans c2;have d3:=(BE1.out.cell (p:=⟨b,off+3,none⟩) hbl).trans c3;have d4:=(BE1.out.cell (p:=⟨b,off+4,none⟩) hbl).trans c4;have d5:=(BE1.out.cell (p:=⟨b,off+5,none⟩) hbl).trans c5;have d6:=(BE1.out.cell (p:=⟨b,off+6,none⟩) hbl).trans c6;have d7:=(BE1.out.cell (p:=⟨b,off+7,none⟩) hbl).trans c7;go_upto_region 3 with (fail);have oB0:=za2 (w0:=W1) (show b<W1.heap.size by omega);refine zac W1.heap.size W1 (Below.refl _ _) (by kernel_rfl) (by kernel_rfl) ?_
  repeat (go_big_quiet_step (first|(go_at_call 130;with_reducible exact zab (C0.out _))|(go_at_call 130;with_reducible exact zab (C1.out _))|(go_at_call 130;with_reducible exact zab (C2.out _))|(go_at_call 131;with_reducible exact zab (C3.out _))|(go_at_call 131;with_reducible exact zab (C4.out _))|(go_at_call 132;with_reducible exact zab (C5.out _))|(go_at_call 132;with_reducible exact zab (C6.out _))))
  refine wpQuiet_nil ?_;rintro _ ⟨X,rfl⟩;have BE2:=Lib.hid (zad W1.heap.size W1 X);clear oB0;generalize over W1.heap.size W1 X=W2 at *;have BEE:=Lib.hid (BE1.out.trans (BE2.out.mono (by omega)));go_wp2;go_ret;exact⟨by rw[HE.out];rfl,by exact BEE.out⟩
 by_cases h9:x.filed≤x.deadline
 case neg =>
  have hd9:decide (x.filed≤x.deadline)=false:=decide_eq_false h9;replace h9:x.deadline<x.filed:=by omega
  have C0:Hid (∀ W:World,Calls Tryz.prog 130 #[.string x.id] W fun e w'=>e=.returned (.bool true)∧W=w'):=fun W=>by
   have hh:=zaf x.id W k0;rw[h0] at hh;exact hh
  have C1:Hid (∀ W:World,Calls Tryz.prog 130 #[.string x.applicant] W fun e w'=>e=.returned (.bool true)∧W=w'):=fun W=>by
   have hh:=zaf x.applicant W k1;rw[h1] at hh;exact hh
  have C2:Hid (∀ W:World,Calls Tryz.prog 130 #[.string x.partner] W fun e w'=>e=.returned (.bool true)∧W=w'):=fun W=>by
   have hh:=zaf x.partner W k2;rw[h2] at hh;exact hh
  have C3:Hid (∀ W:World,Calls Tryz.prog 131 #[.int .i64 x.low] W fun e w'=>e=.returned (.bool true)∧W=w'):=fun W=>by
   have hh:=zah x.low W;rw[h4] at hh;exact hh
  have C4:Hid (∀ W:World,Calls Tryz.prog 131 #[.int .i64 x.high] W fun e w'=>e=.returned (.bool true)∧W=w'):=fun W=>by
   have hh:=zah x.high W;rw[h5] at hh;exact hh
  have C5:Hid (∀ W:World,Calls Tryz.prog 132 #[.int .i64 x.filed] W fun e w'=>e=.returned (.bool true)∧W=w'):=fun W=>by
   have hh:=zbd x.filed W;rw[h7] at hh;exact hh
  have C6:Hid (∀ W:World,Calls Tryz.prog 132 #[.int .i64 x.deadline] W fun e w'=>e=.returned (.bool true)∧W=w'):=fun W=>by
   have hh:=zbd x.deadline W;rw[h8] at hh;exact hh
  have HE:Hid (reqS x=false):=by show _=_;unfold reqS;simp only[h0,h1,h2,h3,h4,h5,hd6,h7,h8,hd9]<;>rfl
  go_enter Tryz.func106,Tryz.ntmps106;go_upto_region 1 with (fail);have oB0:=za2 (w0:=w) (show b<w.heap.size by omega);refine zac w.heap.size w (Below.refl _ _) (by kernel_rfl) (by kernel_rfl) ?_
  repeat (go_big_quiet_step (first|(go_at_call 130;with_reducible exact zab (C0.out _))|(go_at_call 130;with_reducible exact zab (C1.out _))|(go_at_call 130;with_reducible exact zab (C2.out _))|(go_at_call 131;with_reducible exact zab (C3.out _))|(go_at_call 131;with_reducible exact zab (C4.out _))|(go_at_call 132;with_reducible exact zab (C5.out _))|(go_at_call 132;with_reducible exact zab (C6.out _))))
  refine wpQuiet_nil ?_;rintro _ ⟨X,rfl⟩;have BE1:=Lib.hid (zad w.heap.size w X);clear oB0;generalize over w.heap.size w X=W1 at *;have BE:=Lib.hid BE1.out;have zz:=BE1.out.size;have hbl1:b<W1.heap.size:=by omega
  have d0:=(BE1.out.cell (p:=⟨b,off,none⟩) hbl).trans c0;have d1:=(BE1.out.cell (p:=⟨b,off+1,none⟩) hbl).trans c1;have d2:=(BE1.out.cell (p:=⟨b,off+2,none⟩) hbl).trans c2;have d3:=(BE1.out.cell (p:=⟨b,off+3,none⟩) hbl).trans c3;have d4:=(BE1.out.cell (p:=⟨b,off+4,none⟩) hbl).trans c4;have d5:=(BE1.out.cell (p:=⟨b,off+5,none⟩) hbl).trans c5;have d6:=(BE1.out.cell (p:=⟨b,off+6,none⟩) hbl).trans c6;have d7:=(BE1.out.cell (p:=⟨b,off+7,none⟩) hbl).trans c7;go_upto_region 3 with (fail);have oB0:=za2 (w0:=W1) (show b<W1.heap.size by omega);refine zac W1.heap.size W1 (Below.refl _ _) (by kernel_rfl) (by kernel_rfl) ?_
  repeat (go_big_quiet_step (first|(go_at_call 130;with_reducible exact zab (C0.out _))|(go_at_call 130;with_reducible exact zab (C1.out _))|(go_at_call 130;with_reducible exact zab (C2.out _))|(go_at_call 131;with_reducible exact zab (C3.out _))|(go_at_call 131;with_reducible exact zab (C4.out _))|(go_at_call 132;with_reducible exact zab (C5.out _))|(go_at_call 132;with_reducible exact zab (C6.out _))))
  refine wpQuiet_nil ?_;rintro _ ⟨X,rfl⟩;have BE2:=Lib.hid (zad W1.heap.size W1 X);clear oB0;generalize over W1.heap.size W1 X=W2 at *;have BEE:=Lib.hid (BE1.out.trans (BE2.out.mono (by omega)));go_wp2;go_ret;exact⟨by rw[HE.out];rfl,by exact BEE.out⟩
 have hd9:decide (x.filed≤x.deadline)=true:=decide_eq_true h9
 by_cases h10:inB x.state 1 5=true
 case neg =>
  replace h10:inB x.state 1 5=false:=Bool.eq_false_iff.2 h10;have C0:Hid (∀ W:World,Calls Tryz.prog 130 #[.string x.id] W fun e w'=>e=.returned (.bool true)∧W=w'):=fun W=>by
   have hh:=zaf x.id W k0;rw[h0] at hh;exact hh
  have C1:Hid (∀ W:World,Calls Tryz.prog 130 #[.string x.applicant] W fun e w'=>e=.returned (.bool true)∧W=w'):=fun W=>by
   have hh:=zaf x.applicant W k1;rw[h1] at hh;exact hh
  have C2:Hid (∀ W:World,Calls Tryz.prog 130 #[.string x.partner] W fun e w'=>e=.returned (.bool true)∧W=w'):=fun W=>by
   have hh:=zaf x.partner W k2;rw[h2] at hh;exact hh
  have C3:Hid (∀ W:World,Calls Tryz.prog 131 #[.int .i64 x.low] W fun e w'=>e=.returned (.bool true)∧W=w'):=fun W=>by
   have hh:=zah x.low W;rw[h4] at hh;exact hh
  have C4:Hid (∀ W:World,Calls Tryz.prog 131 #[.int .i64 x.high] W fun e w'=>e=.returned (.bool true)∧W=w'):=fun W=>by
   have hh:=zah x.high W;rw[h5] at hh;exact hh
  have C5:Hid (∀ W:World,Calls Tryz.prog 132 #[.int .i64 x.filed] W fun e w'=>e=.returned (.bool true)∧W=w'):=fun W=>by
   have hh:=zbd x.filed W;rw[h7] at hh;exact hh
  have C6:Hid (∀ W:World,Calls Tryz.prog 132 #[.int .i64 x.deadline] W fun e w'=>e=.returned (.bool true)∧W=w'):=fun W=>by
   have hh:=zbd x.deadline W;rw[h8] at hh;exact hh
  have C7:Hid (∀ W:World,Calls Tryz.prog 133 #[.int .i64 x.state,.int .i64 1,.int .i64 5] W fun e w'=>e=.returned (.bool false)∧W=w'):=fun W=>by
   have hh:=l00In_any x.state 1 5 W;rw[h10] at hh;exact hh
  have HE:Hid (reqS x=false):=by show _=_;unfold reqS;simp only[h0,h1,h2,h3,h4,h5,hd6,h7,h8,hd9,h10]<;>rfl
  go_enter Tryz.func106,Tryz.ntmps106;go_upto_region 1 with (fail);have oB0:=za2 (w0:=w) (show b<w.heap.size by omega);refine zac w.heap.size w (Below.refl _ _) (by kernel_rfl) (by kernel_rfl) ?_
  repeat (go_big_quiet_step (first|(go_at_call 130;with_reducible exact zab (C0.out _))|(go_at_call 130;with_reducible exact zab (C1.out _))|(go_at_call 130;with_reducible exact zab (C2.out _))|(go_at_call 131;with_reducible exact zab (C3.out _))|(go_at_call 131;with_reducible exact zab (C4.out _))|(go_at_call 132;with_reducible exact zab (C5.out _))|(go_at_call 132;with_reducible exact zab (C6.out _))|(go_at_call 133;with_reducible exact zab (C7.out _))))
  refine wpQuiet_nil ?_;rintro _ ⟨X,rfl⟩;have BE1:=Lib.hid (zad w.heap.size w X);clear oB0;generalize over w.heap.size w X=W1 at *;have BE:=Lib.hid BE1.out;have zz:=BE1.out.size;have hbl1:b<W1.heap.size:=by omega
  have d0:=(BE1.out.cell (p:=⟨b,off,none⟩) hbl).trans c0;have d1:=(BE1.out.cell (p:=⟨b,off+1,none⟩) hbl).trans c1;have d2:=(BE1.out.cell (p:=⟨b,off+2,none⟩) hbl).trans c2;have d3:=(BE1.out.cell (p:=⟨b,off+3,none⟩) hbl).trans c3;have d4:=(BE1.out.cell (p:=⟨b,off+4,none⟩) hbl).trans c4;have d5:=(BE1.out.cell (p:=⟨b,off+5,none⟩) hbl).trans c5;have d6:=(BE1.out.cell (p:=⟨b,off+6,none⟩) hbl).trans c6;have d7:=(BE1.out.cell (p:=⟨b,off+7,none⟩) hbl).trans c7;go_upto_region 3 with (fail);have oB0:=za2 (w0:=W1) (show b<W1.heap.size by omega);refine zac W1.heap.size W1 (Below.refl _ _) (by kernel_rfl) (by kernel_rfl) ?_
  repeat (go_big_quiet_step (first|(go_at_call 130;with_reducible exact zab (C0.out _))|(go_at_call 130;with_reducible exact zab (C1.out _))|(go_at_call 130;with_reducible exact zab (C2.out _))|(go_at_call 131;with_reducible exact zab (C3.out _))|(go_at_call 131;with_reducible exact zab (C4.out _))|(go_at_call 132;with_reducible exact zab (C5.out _))|(go_at_call 132;with_reducible exact zab (C6.out _))|(go_at_call 133;with_reducible exact zab (C7.out _))))
  refine wpQuiet_nil ?_;rintro _ ⟨X,rfl⟩;have BE2:=Lib.hid (zad W1.heap.size W1 X);clear oB0;generalize over W1.heap.size W1 X=W2 at *;have BEE:=Lib.hid (BE1.out.trans (BE2.out.mono (by omega)));go_wp2;go_ret;exact⟨by rw[HE.out];rfl,by exact BEE.out⟩
 have C0:Hid (∀ W:World,Calls Tryz.prog 130 #[.string x.id] W fun e w'=>e=.returned (.bool true)∧W=w'):=fun W=>by
  have hh:=zaf x.id W k0;rw[h0] at hh;exact hh
 have C1:Hid (∀ W:World,Calls Tryz.prog 130 #[.string x.applicant] W fun e w'=>e=.returned (.bool true)∧W=w'):=fun W=>by
  have hh:=zaf x.applicant W k1;rw[h1] at hh;exact hh
 have C2:Hid (∀ W:World,Calls Tryz.prog 130 #[.string x.partner] W fun e w'=>e=.returned (.bool true)∧W=w'):=fun W=>by
  have hh:=zaf x.partner W k2;rw[h2] at hh;exact hh
 have C3:Hid (∀ W:World,Calls Tryz.prog 131 #[.int .i64 x.low] W fun e w'=>e=.returned (.bool true)∧W=w'):=fun W=>by
  have hh:=zah x.low W;rw[h4] at hh;exact hh
 have C4:Hid (∀ W:World,Calls Tryz.prog 131 #[.int .i64 x.high] W fun e w'=>e=.returned (.bool true)∧W=w'):=fun W=>by
  have hh:=zah x.high W;rw[h5] at hh;exact hh
 have C5:Hid (∀ W:World,Calls Tryz.prog 132 #[.int .i64 x.filed] W fun e w'=>e=.returned (.bool true)∧W=w'):=fun W=>by
  have hh:=zbd x.filed W;rw[h7] at hh;exact hh
 have C6:Hid (∀ W:World,Calls Tryz.prog 132 #[.int .i64 x.deadline] W fun e w'=>e=.returned (.bool true)∧W=w'):=fun W=>by
  have hh:=zbd x.deadline W;rw[h8] at hh;exact hh
 have C7:Hid (∀ W:World,Calls Tryz.prog 133 #[.int .i64 x.state,.int .i64 1,.int .i64 5] W fun e w'=>e=.returned (.bool true)∧W=w'):=fun W=>by
  have hh:=l00In_any x.state 1 5 W;rw[h10] at hh;exact hh
 have HE:Hid (reqS x=true):=by show _=_;unfold reqS;simp only[h0,h1,h2,h3,h4,h5,hd6,h7,h8,hd9,h10]<;>rfl
 go_enter Tryz.func106,Tryz.ntmps106;go_upto_region 1 with (fail);have oB0:=za2 (w0:=w) (show b<w.heap.size by omega);refine zac w.heap.size w (Below.refl _ _) (by kernel_rfl) (by kernel_rfl) ?_
 repeat (go_big_quiet_step (first|(go_at_call 130;with_reducible exact zab (C0.out _))|(go_at_call 130;with_reducible exact zab (C1.out _))|(go_at_call 130;with_reducible exact zab (C2.out _))|(go_at_call 131;with_reducible exact zab (C3.out _))|(go_at_call 131;with_reducible exact zab (C4.out _))|(go_at_call 132;with_reducible exact zab (C5.out _))|(go_at_call 132;with_reducible exact zab (C6.out _))|(go_at_call 133;with_reducible exact zab (C7.out _))))
 refine wpQuiet_nil ?_;rintro _ ⟨X,rfl⟩;have BE1:=Lib.hid (zad w.heap.size w X);clear oB0;generalize over w.heap.size w X=W1 at *;have BE:=Lib.hid BE1.out;have zz:=BE1.out.size;have hbl1:b<W1.heap.size:=by omega
 have d0:=(BE1.out.cell (p:=⟨b,off,none⟩) hbl).trans c0;have d1:=(BE1.out.cell (p:=⟨b,off+1,none⟩) hbl).trans c1;have d2:=(BE1.out.cell (p:=⟨b,off+2,none⟩) hbl).trans c2;have d3:=(BE1.out.cell (p:=⟨b,off+3,none⟩) hbl).trans c3;have d4:=(BE1.out.cell (p:=⟨b,off+4,none⟩) hbl).trans c4;have d5:=(BE1.out.cell (p:=⟨b,off+5,none⟩) hbl).trans c5;have d6:=(BE1.out.cell (p:=⟨b,off+6,none⟩) hbl).trans c6;have d7:=(BE1.out.cell (p:=⟨b,off+7,none⟩) hbl).trans c7;go_upto_region 3 with (fail);have oB0:=za2 (w0:=W1) (show b<W1.heap.size by omega);refine zac W1.heap.size W1 (Below.refl _ _) (by kernel_rfl) (by kernel_rfl) ?_
 repeat (go_big_quiet_step (first|(go_at_call 130;with_reducible exact zab (C0.out _))|(go_at_call 130;with_reducible exact zab (C1.out _))|(go_at_call 130;with_reducible exact zab (C2.out _))|(go_at_call 131;with_reducible exact zab (C3.out _))|(go_at_call 131;with_reducible exact zab (C4.out _))|(go_at_call 132;with_reducible exact zab (C5.out _))|(go_at_call 132;with_reducible exact zab (C6.out _))|(go_at_call 133;with_reducible exact zab (C7.out _))))
 refine wpQuiet_nil ?_;rintro _ ⟨X,rfl⟩;have BE2:=Lib.hid (zad W1.heap.size W1 X);clear oB0;generalize over W1.heap.size W1 X=W2 at *;have BEE:=Lib.hid (BE1.out.trans (BE2.out.mono (by omega)));go_wp2;go_ret;exact⟨by rw[HE.out];rfl,by exact BEE.out⟩
theorem zav (l:List DRequest) (v:Value) (B:Nat) (w:World) (h:Rd B w (DRequest.sT l) v) (hB:B≤w.heap.size) (hk:∀ x ∈ l,x.ok) (hn:l.length≤1099511627776) :
  Calls Tryz.prog 18 #[v] w fun e w'=>e=.returned (.bool (za6 l))∧Below w.heap.size w w':=by
 obtain⟨a,c,rfl,hnc,hcm,hcells⟩:=DRequest.rd h;clear h;have HCL:=Lib.hid hcells;clear hcells
 by_cases hlim:l.length≤24
 case neg =>
  have hx:24<l.length:=by omega
  have hx2:(24:Int)<(l.length:Int):=by omega
  have HE:Hid (za6 l=false):=by show _=_;unfold za6;rw[decide_eq_false hlim];simp
  go_enter Tryz.func18,Tryz.ntmps18;go_wp2;go_ret;exact⟨by rw[HE.out];rfl,Below.refl _ _⟩
 have hli:(l.length:Int)≤24:=by omega
 have HE:Hid (za6 l=rowOk reqB zam l):=by show _=_;unfold za6;rw[decide_eq_true hlim];simp
 go_enter Tryz.func18,Tryz.ntmps18;go_wp2;go_loopw [10] (fun i wr=>∃ (k:Nat),k≤l.length∧i=.int .i64 k∧(∀ j,j<k→upOk reqB zam l j=true)∧Below w.heap.size w wr) (fun i wr=>l.length-(intOf i).toNat)
 case atStart=>exact⟨0,Nat.zero_le _,rfl,fun j hj=>absurd hj (by omega),Below.refl _ _⟩
 case round =>
  obtain⟨k,hk1,rfl,hno,hb⟩:=hrel;have HN:=Lib.hid hno;have HB:=Lib.hid hb;have zb:=hb.size;clear hno hb
  by_cases hlt:k<l.length
  ·obtain⟨b,off,ea,hbl,hat⟩:=HCL.out (by omega)
   subst ea;obtain⟨s0,s1,s2,s3,s4,s5,s6,s7⟩:=hat k hlt;have hok:=hk _ (List.getElem_mem hlt);have ks0:=hok.id;have ks1:=hok.applicant;have ks2:=hok.partner;have hbw:b<w.heap.size:=by omega
   rw[← bat HB.out b _ hbw] at s0 s1 s2 s3 s4 s5 s6 s7;have sp:0<k→wr.cell? ⟨b,off+(k-1)*8,none⟩=some (.string (za1 l (k-1)).id):=fun h=>by
    have t:=(hat (k-1) (by omega)).1;rw[← bat HB.out b _ hbw,zaw (show k-1<l.length by omega)] at t;exact t
   have SP:=Lib.hid sp;clear sp hat;have HUN:Hid (reqB (za1 l k)=false→rowOk reqB zam l=false):=fun h=>zct hlt (upOk_not hlt (by rw[zaw hlt];exact h))
   have HUZ:Hid (k=0→reqB (za1 l k)=true→upOk reqB zam l k=true):=fun e h=>by subst e;rw[upOk_zero hlt,zaw hlt];exact h
   have HUP:Hid (0<k→upOk reqB zam l k=(reqB (za1 l k)&&zam (za1 l (k-1)) (za1 l k))):=fun h=>by rw[upOk_pos h hlt,zaw hlt,zaw (show k-1<l.length by omega)]
   rw[zaw hlt] at s0 s1 s2 s3 s4 s5 s6 s7 ks0 ks1 ks2;generalize hA:za1 l k=A at *;generalize hP:za1 l (k-1)=P at *;clear hA hP hok;have i1:(0:Int)≤(k:Int):=by omega
   have i2:(k:Int)<(l.length:Int):=by omega
   have yb:b<wr.heap.size:=by omega
   have HV:Hid (∀ W:World,Calls Tryz.prog 46 #[.agg #[.string A.id,.string A.applicant,.string A.partner,.int .i64 A.low,.int .i64 A.high,.int .i64 A.filed,.int .i64 A.deadline,.int .i64 A.state]] W fun e w'=>e=.returned (.bool (reqB A))∧Below W.heap.size W w'):=fun W=>zb1 A ks0 ks1 ks2 W
   go_wp2;have b1:Below wr.heap.size wr (wr.alloc (.cells #[.string A.id,.string A.applicant,.string A.partner,.int .i64 A.low,.int .i64 A.high,.int .i64 A.filed,.int .i64 A.deadline,.int .i64 A.state] 45)):=(Below.refl _ _).alloc (Nat.le_refl _) _;have f0:(wr.alloc (.cells #[.string A.id,.string A.applicant,.string A.partner,.int .i64 A.low,.int .i64 A.high,.int .i64 A.filed,.int .i64 A.deadline,.int .i64 A.state] 45)).cell? ⟨wr.heap.size,0,none⟩=some (.string A.id):=by simp[go_sem]
   have f1:(wr.alloc (.cells #[.string A.id,.string A.applicant,.string A.partner,.int .i64 A.low,.int .i64 A.high,.int .i64 A.filed,.int .i64 A.deadline,.int .i64 A.state] 45)).cell? ⟨wr.heap.size,1,none⟩=some (.string A.applicant):=by simp[go_sem]
   have f2:(wr.alloc (.cells #[.string A.id,.string A.applicant,.string A.partner,.int .i64 A.low,.int .i64 A.high,.int .i64 A.filed,.int .i64 A.deadline,.int .i64 A.state] 45)).cell? ⟨wr.heap.size,2,none⟩=some (.string A.partner):=by simp[go_sem]
   have f3:(wr.alloc (.cells #[.string A.id,.string A.applicant,.string A.partner,.int .i64 A.low,.int .i64 A.high,.int .i64 A.filed,.int .i64 A.deadline,.int .i64 A.state] 45)).cell? ⟨wr.heap.size,3,none⟩=some (.int .i64 A.low):=by simp[go_sem]
   have f4:(wr.alloc (.cells #[.string A.id,.string A.applicant,.string A.partner,.int .i64 A.low,.int .i64 A.high,.int .i64 A.filed,.int .i64 A.deadline,.int .i64 A.state] 45)).cell? ⟨wr.heap.size,4,none⟩=some (.int .i64 A.high):=by simp[go_sem]
   have f5:(wr.alloc (.cells #[.string A.id,.string A.applicant,.string A.partner,.int .i64 A.low,.int .i64 A.high,.int .i64 A.filed,.int .i64 A.deadline,.int .i64 A.state] 45)).cell? ⟨wr.heap.size,5,none⟩=some (.int .i64 A.filed):=by simp[go_sem]
   have f6:(wr.alloc (.cells #[.string A.id,.string A.applicant,.string A.partner,.int .i64 A.low,.int .i64 A.high,.int .i64 A.filed,.int .i64 A.deadline,.int .i64 A.state] 45)).cell? ⟨wr.heap.size,6,none⟩=some (.int .i64 A.deadline):=by simp[go_sem]
   have f7:(wr.alloc (.cells #[.string A.id,.string A.applicant,.string A.partner,.int .i64 A.low,.int .i64 A.high,.int .i64 A.filed,.int .i64 A.deadline,.int .i64 A.state] 45)).cell? ⟨wr.heap.size,7,none⟩=some (.int .i64 A.state):=by simp[go_sem]
   have fz:wr.heap.size<(wr.alloc (.cells #[.string A.id,.string A.applicant,.string A.partner,.int .i64 A.low,.int .i64 A.high,.int .i64 A.filed,.int .i64 A.deadline,.int .i64 A.state] 45)).heap.size:=by simp
   generalize hW1:(wr.alloc (.cells #[.string A.id,.string A.applicant,.string A.partner,.int .i64 A.low,.int .i64 A.high,.int .i64 A.filed,.int .i64 A.deadline,.int .i64 A.state] 45))=W1 at *;have BH:=Lib.hid (HB.out.trans (b1.mono (by omega)));have B1:=Lib.hid b1;have zz:=b1.size;clear b1 hW1
   by_cases c1:reqB A=true
   case neg =>
    replace c1:reqB A=false:=Bool.eq_false_iff.2 c1;have HF:Hid (rowOk reqB zam l=false):=HUN.out c1;have oX:=za2 (w0:=W1) fz;have oB:=za2 (w0:=W1) (show b<W1.heap.size by omega);rw[c1] at HV;refine zac W1.heap.size W1 (Below.refl _ _) (by kernel_rfl) (by kernel_rfl) ?_
    repeat (go_big_quiet_step ((go_at_call 46;exact za8 (Nat.le_refl _) (HV.out _))))
    refine wpQuiet_nil ?_;rintro _ ⟨X,rfl⟩;have hX:=zad W1.heap.size W1 X;clear oB oX;generalize over W1.heap.size W1 X=w2 at *;have BF:=Lib.hid (BH.out.trans (hX.mono (by omega)));clear hX;have HQ:Hid (za6 l=false):=by show _=_;rw[HE.out];exact HF.out
    go_wp2;go_ret;exact⟨by rw[HQ.out];rfl,BF.out⟩
   have HM:Hid (reqB A=true):=c1
   by_cases c3:0<k
   case neg =>
    have i8:decide (0<k)=false:=by simpa using c3
    have HF:Hid (upOk reqB zam l k=true):=HUZ.out (by omega) HM.out;have oX:=za2 (w0:=W1) fz;have oB:=za2 (w0:=W1) (show b<W1.heap.size by omega);rw[c1] at HV;refine zac W1.heap.size W1 (Below.refl _ _) (by kernel_rfl) (by kernel_rfl) ?_
    repeat (go_big_quiet_step ((go_at_call 46;exact za8 (Nat.le_refl _) (HV.out _))))
    refine wpQuiet_nil ?_;rintro _ ⟨X,rfl⟩;have hX:=zad W1.heap.size W1 X;clear oB oX;generalize over W1.heap.size W1 X=w2 at *;have BF:=Lib.hid (BH.out.trans (hX.mono (by omega)));clear hX;go_wp2;go_roundw
    case rel=>exact⟨k+1,by omega,by go_num,upTo_succ HN.out (HF.out),BF.out⟩
    case measure=>simp[intOf];omega
   have i3:IntKind.i64.wrap ((k:Int)-1)=(k:Int)-1:=IntWalk.i64_in _ (by omega);have i4:(0:Int)≤(k:Int)-1:=by omega
   have i6:(k:Int)-1<(l.length:Int):=by omega
   have i7:(1:Int)≤(k:Int):=by omega
   have i8:decide (0<k)=true:=by simpa using c3
   have i5:((k:Int)-1).toNat=k-1:=by omega
   by_cases c4:ltS P.id A.id=true
   case neg =>
    replace c4:ltS P.id A.id=false:=Bool.eq_false_iff.2 c4;have le4:=geS_of_not c4;have HF:Hid (rowOk reqB zam l=false):=zct hlt (by rw[HUP.out c3,show zam P A=false from c4];simp);have fp:=(bat B1.out b _ yb).trans (SP.out c3);have oX:=za2 (w0:=W1) fz;have oB:=za2 (w0:=W1) (show b<W1.heap.size by omega);rw[c1] at HV;refine zac W1.heap.size W1 (Below.refl _ _) (by kernel_rfl) (by kernel_rfl) ?_
    repeat (go_big_quiet_step ((go_at_call 46;exact za8 (Nat.le_refl _) (HV.out _))))
    refine wpQuiet_nil ?_;rintro _ ⟨X,rfl⟩;have hX:=zad W1.heap.size W1 X;clear oB oX;generalize over W1.heap.size W1 X=w2 at *;have BF:=Lib.hid (BH.out.trans (hX.mono (by omega)));clear hX;clear i3 i5;have HQ:Hid (za6 l=false):=by show _=_;rw[HE.out];exact HF.out
    go_wp2;go_ret;exact⟨by rw[HQ.out];rfl,BF.out⟩
   have le4:=geS_of_lt c4;have HF:Hid (upOk reqB zam l k=true):=by show _=_;rw[HUP.out c3,Bool.and_eq_true];exact⟨HM.out,c4⟩
   have fp:=(bat B1.out b _ yb).trans (SP.out c3);have oX:=za2 (w0:=W1) fz;have oB:=za2 (w0:=W1) (show b<W1.heap.size by omega);rw[c1] at HV;refine zac W1.heap.size W1 (Below.refl _ _) (by kernel_rfl) (by kernel_rfl) ?_
   repeat (go_big_quiet_step ((go_at_call 46;exact za8 (Nat.le_refl _) (HV.out _))))
   refine wpQuiet_nil ?_;rintro _ ⟨X,rfl⟩;have hX:=zad W1.heap.size W1 X;clear oB oX;generalize over W1.heap.size W1 X=w2 at *;have BF:=Lib.hid (BH.out.trans (hX.mono (by omega)));clear hX;clear i3 i5;go_wp2;go_roundw
   case rel=>exact⟨k+1,by omega,by go_num,upTo_succ HN.out (HF.out),BF.out⟩
   case measure=>simp[intOf];omega
  ·obtain rfl:k=l.length:=by omega
   have HR:Hid (rowOk reqB zam l=true):=rowOk_true HN.out;have HQ:Hid (za6 l=true):=by show _=_;rw[HE.out];exact HR.out
   go_wp2;go_ret;exact⟨by rw[HQ.out];rfl,HB.out⟩
theorem sl27Ok_any (l:List DRequest) (v:Value) (B:Nat) (w:World) (h:Rd B w (DRequest.sT l) v) (hB:B≤w.heap.size) (hk:∀ x ∈ l,x.ok) (hn:l.length≤1099511627776) :
  Calls Tryz.prog 105 #[v] w fun e w'=>e=.returned (.bool (za6 l))∧Below w.heap.size w w':=by
 obtain⟨a,c,rfl,hnc,hcm,hcells⟩:=DRequest.rd h;clear h;have HCL:=Lib.hid hcells;clear hcells;have hli:(l.length:Int)≤1099511627776:=by omega
 go_enter Tryz.func105,Tryz.ntmps105;go_wp2;go_loopw [3] (fun i wr=>∃ (k:Nat),k≤l.length∧i=.int .i64 k∧(∀ j,j<k→upOk reqB zam l j=true)∧Below w.heap.size w wr) (fun i wr=>l.length-(intOf i).toNat)
 case atStart=>exact⟨0,Nat.zero_le _,rfl,fun j hj=>absurd hj (by omega),Below.refl _ _⟩
 case round =>
  obtain⟨k,hk1,rfl,hno,hb⟩:=hrel;have HN:=Lib.hid hno;have HB:=Lib.hid hb;have zb:=hb.size;clear hno hb
  by_cases hlt:k<l.length
  ·obtain⟨b,off,ea,hbl,hat⟩:=HCL.out (by omega)
   subst ea;obtain⟨s0,s1,s2,s3,s4,s5,s6,s7⟩:=hat k hlt;have hok:=hk _ (List.getElem_mem hlt);have ks0:=hok.id;have ks1:=hok.applicant;have ks2:=hok.partner;have hbw:b<w.heap.size:=by omega
   rw[← bat HB.out b _ hbw] at s0 s1 s2 s3 s4 s5 s6 s7;have sp:0<k→wr.cell? ⟨b,off+(k-1)*8,none⟩=some (.string (za1 l (k-1)).id):=fun h=>by
    have t:=(hat (k-1) (by omega)).1;rw[← bat HB.out b _ hbw,zaw (show k-1<l.length by omega)] at t;exact t
   have SP:=Lib.hid sp;clear sp hat;have HUN:Hid (reqB (za1 l k)=false→rowOk reqB zam l=false):=fun h=>zct hlt (upOk_not hlt (by rw[zaw hlt];exact h))
   have HUZ:Hid (k=0→reqB (za1 l k)=true→upOk reqB zam l k=true):=fun e h=>by subst e;rw[upOk_zero hlt,zaw hlt];exact h
   have HUP:Hid (0<k→upOk reqB zam l k=(reqB (za1 l k)&&zam (za1 l (k-1)) (za1 l k))):=fun h=>by rw[upOk_pos h hlt,zaw hlt,zaw (show k-1<l.length by omega)]
   rw[zaw hlt] at s0 s1 s2 s3 s4 s5 s6 s7 ks0 ks1 ks2;generalize hA:za1 l k=A at *;generalize hP:za1 l (k-1)=P at *;clear hA hP hok;have i1:(0:Int)≤(k:Int):=by omega
   have i2:(k:Int)<(l.length:Int):=by omega
   have yb:b<wr.heap.size:=by omega
   have HV:Hid (∀ W:World,Below wr.heap.size wr W→Calls Tryz.prog 106 #[.pointer (some ⟨b,off+k*8,none⟩)] W fun e w'=>e=.returned (.bool (reqB A))∧Below W.heap.size W w'):=fun W hW=>by have t:=l27One_any A b (off+k*8) W ((bat hW b _ yb).trans s0) ((bat hW b _ yb).trans s1) ((bat hW b _ yb).trans s2) ((bat hW b _ yb).trans s3) ((bat hW b _ yb).trans s4) ((bat hW b _ yb).trans s5) ((bat hW b _ yb).trans s6) ((bat hW b _ yb).trans s7) ks0 ks1 ks2;rw[reqS_eq] at t;exact t
   by_cases c1:reqB A=true
   case neg =>
    replace c1:reqB A=false:=Bool.eq_false_iff.2 c1;have HF:Hid (rowOk reqB zam l=false):=HUN.out c1;have oB:=za2 (w0:=wr) (show b<wr.heap.size by omega);rw[c1] at HV;go_wp2;refine zac wr.heap.size wr (Below.refl _ _) (by kernel_rfl) (by kernel_rfl) ?_
    repeat (go_big_quiet_step ((go_at_call 106;exact za8 (Nat.le_refl _) (HV.out _ (zad _ _ _)))))
    refine wpQuiet_nil ?_;rintro _ ⟨X,rfl⟩;have hX:=zad wr.heap.size wr X;clear oB;generalize over wr.heap.size wr X=w2 at *;have BF:=Lib.hid (HB.out.trans (hX.mono (by omega)));clear hX;have HQ:Hid (za6 l=false):=by show _=_;unfold za6;rw[HF.out];simp
    go_wp2;go_ret;exact⟨by rw[HQ.out];rfl,BF.out⟩
   have HM:Hid (reqB A=true):=c1
   by_cases c3:0<k
   case neg =>
    have i8:decide (0<k)=false:=by simpa using c3
    have HF:Hid (upOk reqB zam l k=true):=HUZ.out (by omega) HM.out;have oB:=za2 (w0:=wr) (show b<wr.heap.size by omega);rw[c1] at HV;go_wp2;refine zac wr.heap.size wr (Below.refl _ _) (by kernel_rfl) (by kernel_rfl) ?_
    repeat (go_big_quiet_step ((go_at_call 106;exact za8 (Nat.le_refl _) (HV.out _ (zad _ _ _)))))
    refine wpQuiet_nil ?_;rintro _ ⟨X,rfl⟩;have hX:=zad wr.heap.size wr X;clear oB;generalize over wr.heap.size wr X=w2 at *;have BF:=Lib.hid (HB.out.trans (hX.mono (by omega)));clear hX;go_wp2;go_roundw
    case rel=>exact⟨k+1,by omega,by go_num,upTo_succ HN.out (HF.out),BF.out⟩
    case measure=>simp[intOf];omega
   have i3:IntKind.i64.wrap ((k:Int)-1)=(k:Int)-1:=IntWalk.i64_in _ (by omega);have i4:(0:Int)≤(k:Int)-1:=by omega
   have i6:(k:Int)-1<(l.length:Int):=by omega
   have i7:(1:Int)≤(k:Int):=by omega
   have i8:decide (0<k)=true:=by simpa using c3
   have i5:((k:Int)-1).toNat=k-1:=by omega
   by_cases c4:ltS P.id A.id=true
   case neg =>
    replace c4:ltS P.id A.id=false:=Bool.eq_false_iff.2 c4;have le4:Op.bytesLess P.id.toList A.id.toList=false:=c4;have HF:Hid (rowOk reqB zam l=false):=zct hlt (by rw[HUP.out c3,show zam P A=false from c4];simp);have fp:=SP.out c3;have oB:=za2 (w0:=wr) (show b<wr.heap.size by omega);rw[c1] at HV;go_wp2;refine zac wr.heap.size wr (Below.refl _ _) (by kernel_rfl) (by kernel_rfl) ?_
    repeat (go_big_quiet_step ((go_at_call 106;exact za8 (Nat.le_refl _) (HV.out _ (zad _ _ _)))))
    refine wpQuiet_nil ?_;rintro _ ⟨X,rfl⟩;have hX:=zad wr.heap.size wr X;clear oB;generalize over wr.heap.size wr X=w2 at *;have BF:=Lib.hid (HB.out.trans (hX.mono (by omega)));clear hX;clear i3 i5;have HQ:Hid (za6 l=false):=by show _=_;unfold za6;rw[HF.out];simp
    go_wp2;go_ret;exact⟨by rw[HQ.out];rfl,BF.out⟩
   have le4:Op.bytesLess P.id.toList A.id.toList=true:=c4;have HF:Hid (upOk reqB zam l k=true):=by show _=_;rw[HUP.out c3,Bool.and_eq_true];exact⟨HM.out,c4⟩
   have fp:=SP.out c3;have oB:=za2 (w0:=wr) (show b<wr.heap.size by omega);rw[c1] at HV;go_wp2;refine zac wr.heap.size wr (Below.refl _ _) (by kernel_rfl) (by kernel_rfl) ?_
   repeat (go_big_quiet_step ((go_at_call 106;exact za8 (Nat.le_refl _) (HV.out _ (zad _ _ _)))))
   refine wpQuiet_nil ?_;rintro _ ⟨X,rfl⟩;have hX:=zad wr.heap.size wr X;clear oB;generalize over wr.heap.size wr X=w2 at *;have BF:=Lib.hid (HB.out.trans (hX.mono (by omega)));clear hX;clear i3 i5;go_wp2;go_roundw
   case rel=>exact⟨k+1,by omega,by go_num,upTo_succ HN.out (HF.out),BF.out⟩
   case measure=>simp[intOf];omega
  ·obtain rfl:k=l.length:=by omega
   have HR:Hid (rowOk reqB zam l=true):=rowOk_true HN.out
   by_cases hlim:l.length≤24
   ·have hlj:(l.length:Int)≤24:=by omega
    have HQ:Hid (za6 l=true):=by show _=_;unfold za6;rw[HR.out,decide_eq_true hlim];rfl
    go_wp2;go_ret;exact⟨by rw[HQ.out];rfl,HB.out⟩
   ·have hlj:24<l.length:=by omega
    have hlk:(24:Int)<(l.length:Int):=by omega
    have HQ:Hid (za6 l=false):=by show _=_;unfold za6;rw[HR.out,decide_eq_false hlim];rfl
    have HZ:Hid (decide ((l.length:Int)≤24)=false):=decide_eq_false (by omega);go_wp2;go_ret;exact⟨by rw[HQ.out,← HZ.out];rfl,HB.out⟩
end Go.Proofs.YtpodllefipleiaaGreatDoor
