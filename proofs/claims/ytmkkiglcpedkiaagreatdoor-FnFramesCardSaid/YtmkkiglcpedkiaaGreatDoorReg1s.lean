/- Contract: a change is valid, for the reference. Conditions: bounded lengths. -/
import Derived.Test.YtmkkiglcpedkiaaGreatDoorRegW
import Derived.Deep.DeepCutAuto
set_option linter.unusedVariables false
set_option linter.unusedSimpArgs false
namespace Go.Proofs.YtmkkiglcpedkiaaGreatDoor
open Go.RowKit
section
set_option maxHeartbeats 8000000
set_option maxRecDepth 100000
theorem l28Change_ee (day:Int) (key old new:ByteArray) (b off:Nat) (w:World) (c0:w.cell? ⟨b,off,none⟩=some (.int .i64 day)) (c1:w.cell? ⟨b,off+1,none⟩=some (.string key)) (c2:w.cell? ⟨b,off+2,none⟩=some (.string old)) (c3:w.cell? ⟨b,off+3,none⟩=some (.string new)) (hbl:b<w.heap.size) (kk:key.size≤maxLen) (ko:old.size≤maxLen) (kn:new.size≤maxLen) (he:eqS old emptyS=true) (hn:eqS new emptyS=true) :
  Calls Tryz.prog 77 #[.pointer (some ⟨b,off,none⟩)] w fun e w'=>e=.returned (.bool (changeB ⟨day,key,old,new⟩))∧Below w.heap.size w w':=by
 have hd:eqS old new=true:=by rw[emptyS_of he,emptyS_of hn];exact eqS_refl _
 have HE0:Hid (∀ v,changeB ⟨day,key,old,new⟩=v→changeB ⟨day,key,old,new⟩=v):=fun _ h=>h
 have HDY:Hid (∀ W:World,Calls Tryz.prog 60 #[.int .i64 day] W fun e w'=>e=.returned (.bool (dayB day))∧W=w'):=fun W=>l28Day_any day W
 have HNM:Hid (∀ W:World,Calls Tryz.prog 58 #[.string key] W fun e w'=>e=.returned (.bool (nameB key))∧W=w'):=fun W=>l01Name_any key W kk
 have HVO:Hid (∀ W:World,Calls Tryz.prog 59 #[.string old] W fun e w'=>e=.returned (.bool (valueB old))∧W=w'):=fun W=>l28Value_any old W ko
 have HVN:Hid (∀ W:World,Calls Tryz.prog 59 #[.string new] W fun e w'=>e=.returned (.bool (valueB new))∧W=w'):=fun W=>l28Value_any new W kn
 have HCH:Hid (changeB ⟨day,key,old,new⟩=(dayB day&&(nameB key&&(true&&(true&&false))))):=by
  show _=_
  unfold changeB;simp only[he,hn,hd,Bool.and_false,Bool.false_and,Bool.and_true,Bool.true_and,Bool.and_self,Bool.or_true,Bool.true_or,Bool.or_false,Bool.false_or,Bool.not_true,Bool.not_false]
 generalize changeB ⟨day,key,old,new⟩=CH at *;clear HE0;generalize dayB day=DY at *;generalize nameB key=NM at *;generalize valueB old=VO at *;generalize valueB new=VN at *;obtain rfl:=emptyS_of he;obtain rfl:=emptyS_of hn;clear he hn hd;have oB:=overC (w0:=w) hbl;go_enter Tryz.func77,Tryz.ntmps77;go_upto_region 1 with (fail);refine wp_region_over w.heap.size w (Below.refl _ _) (by kernel_rfl) (by kernel_rfl) ?_
 repeat (go_big_quiet_step (first|(go_at_call 60;exact over_same (HDY.out _))|(go_at_call 58;exact over_same (HNM.out _))|(go_at_call 59;with_reducible exact over_same (HVO.out _))|(go_at_call 59;with_reducible exact over_same (HVN.out _))))
 cases DY
 case false =>
  repeat (go_big_quiet_step (first|(go_at_call 60;exact over_same (HDY.out _))|(go_at_call 58;exact over_same (HNM.out _))|(go_at_call 59;with_reducible exact over_same (HVO.out _))|(go_at_call 59;with_reducible exact over_same (HVN.out _))))
  refine wpQuiet_nil ?_;rintro _ ⟨X,rfl⟩;have HX:=Lib.hid (over_below w.heap.size w X);clear oB;generalize over w.heap.size w X=w2 at *;go_wp2;go_ret;exact⟨by rw[HCH.out];rfl,HX.out⟩
 repeat (go_big_quiet_step (first|(go_at_call 60;exact over_same (HDY.out _))|(go_at_call 58;exact over_same (HNM.out _))|(go_at_call 59;with_reducible exact over_same (HVO.out _))|(go_at_call 59;with_reducible exact over_same (HVN.out _))))
 cases NM
 case false =>
  repeat (go_big_quiet_step (first|(go_at_call 60;exact over_same (HDY.out _))|(go_at_call 58;exact over_same (HNM.out _))|(go_at_call 59;with_reducible exact over_same (HVO.out _))|(go_at_call 59;with_reducible exact over_same (HVN.out _))))
  refine wpQuiet_nil ?_;rintro _ ⟨X,rfl⟩;have HX:=Lib.hid (over_below w.heap.size w X);clear oB;generalize over w.heap.size w X=w2 at *;go_wp2;go_ret;exact⟨by rw[HCH.out];rfl,HX.out⟩
 repeat (go_big_quiet_step (first|(go_at_call 60;exact over_same (HDY.out _))|(go_at_call 58;exact over_same (HNM.out _))|(go_at_call 59;with_reducible exact over_same (HVO.out _))|(go_at_call 59;with_reducible exact over_same (HVN.out _))))
 refine wpQuiet_nil ?_;rintro _ ⟨X,rfl⟩;have HX:=Lib.hid (over_below w.heap.size w X);clear oB;generalize over w.heap.size w X=w2 at *;go_wp2;go_ret;exact⟨by rw[HCH.out];rfl,HX.out⟩
theorem l28Change_en (day:Int) (key old new:ByteArray) (b off:Nat) (w:World) (c0:w.cell? ⟨b,off,none⟩=some (.int .i64 day)) (c1:w.cell? ⟨b,off+1,none⟩=some (.string key)) (c2:w.cell? ⟨b,off+2,none⟩=some (.string old)) (c3:w.cell? ⟨b,off+3,none⟩=some (.string new)) (hbl:b<w.heap.size) (kk:key.size≤maxLen) (ko:old.size≤maxLen) (kn:new.size≤maxLen) (he:eqS old emptyS=true) (hn:eqS new emptyS=false) :
  Calls Tryz.prog 77 #[.pointer (some ⟨b,off,none⟩)] w fun e w'=>e=.returned (.bool (changeB ⟨day,key,old,new⟩))∧Below w.heap.size w w':=by
 have hd:eqS old new=false:=by rw[eqS_false];intro e;rw[← e,he] at hn;cases hn
 have HE0:Hid (∀ v,changeB ⟨day,key,old,new⟩=v→changeB ⟨day,key,old,new⟩=v):=fun _ h=>h
 have HDY:Hid (∀ W:World,Calls Tryz.prog 60 #[.int .i64 day] W fun e w'=>e=.returned (.bool (dayB day))∧W=w'):=fun W=>l28Day_any day W
 have HNM:Hid (∀ W:World,Calls Tryz.prog 58 #[.string key] W fun e w'=>e=.returned (.bool (nameB key))∧W=w'):=fun W=>l01Name_any key W kk
 have HVO:Hid (∀ W:World,Calls Tryz.prog 59 #[.string old] W fun e w'=>e=.returned (.bool (valueB old))∧W=w'):=fun W=>l28Value_any old W ko
 have HVN:Hid (∀ W:World,Calls Tryz.prog 59 #[.string new] W fun e w'=>e=.returned (.bool (valueB new))∧W=w'):=fun W=>l28Value_any new W kn
 have HCH:Hid (changeB ⟨day,key,old,new⟩=(dayB day&&(nameB key&&(true&&(valueB new&&true))))):=by
  show _=_
  unfold changeB;simp only[he,hn,hd,Bool.and_false,Bool.false_and,Bool.and_true,Bool.true_and,Bool.and_self,Bool.or_true,Bool.true_or,Bool.or_false,Bool.false_or,Bool.not_true,Bool.not_false]
 generalize changeB ⟨day,key,old,new⟩=CH at *;clear HE0;generalize dayB day=DY at *;generalize nameB key=NM at *;generalize valueB old=VO at *;generalize valueB new=VN at *;obtain rfl:=emptyS_of he;obtain⟨n1,n2,n3⟩:=eqS_empty_list hn;clear he hn hd;have oB:=overC (w0:=w) hbl;go_enter Tryz.func77,Tryz.ntmps77;go_upto_region 1 with (fail);refine wp_region_over w.heap.size w (Below.refl _ _) (by kernel_rfl) (by kernel_rfl) ?_
 repeat (go_big_quiet_step (first|(go_at_call 60;exact over_same (HDY.out _))|(go_at_call 58;exact over_same (HNM.out _))|(go_at_call 59;with_reducible exact over_same (HVO.out _))|(go_at_call 59;with_reducible exact over_same (HVN.out _))))
 cases DY
 case false =>
  repeat (go_big_quiet_step (first|(go_at_call 60;exact over_same (HDY.out _))|(go_at_call 58;exact over_same (HNM.out _))|(go_at_call 59;with_reducible exact over_same (HVO.out _))|(go_at_call 59;with_reducible exact over_same (HVN.out _))))
  refine wpQuiet_nil ?_;rintro _ ⟨X,rfl⟩;have HX:=Lib.hid (over_below w.heap.size w X);clear oB;generalize over w.heap.size w X=w2 at *;go_wp2;go_ret;exact⟨by rw[HCH.out];rfl,HX.out⟩
 repeat (go_big_quiet_step (first|(go_at_call 60;exact over_same (HDY.out _))|(go_at_call 58;exact over_same (HNM.out _))|(go_at_call 59;with_reducible exact over_same (HVO.out _))|(go_at_call 59;with_reducible exact over_same (HVN.out _))))
 cases NM
 case false =>
  repeat (go_big_quiet_step (first|(go_at_call 60;exact over_same (HDY.out _))|(go_at_call 58;exact over_same (HNM.out _))|(go_at_call 59;with_reducible exact over_same (HVO.out _))|(go_at_call 59;with_reducible exact over_same (HVN.out _))))
  refine wpQuiet_nil ?_;rintro _ ⟨X,rfl⟩;have HX:=Lib.hid (over_below w.heap.size w X);clear oB;generalize over w.heap.size w X=w2 at *;go_wp2;go_ret;exact⟨by rw[HCH.out];rfl,HX.out⟩
 repeat (go_big_quiet_step (first|(go_at_call 60;exact over_same (HDY.out _))|(go_at_call 58;exact over_same (HNM.out _))|(go_at_call 59;with_reducible exact over_same (HVO.out _))|(go_at_call 59;with_reducible exact over_same (HVN.out _))))
 cases VN
 case false =>
  repeat (go_big_quiet_step (first|(go_at_call 60;exact over_same (HDY.out _))|(go_at_call 58;exact over_same (HNM.out _))|(go_at_call 59;with_reducible exact over_same (HVO.out _))|(go_at_call 59;with_reducible exact over_same (HVN.out _))))
  refine wpQuiet_nil ?_;rintro _ ⟨X,rfl⟩;have HX:=Lib.hid (over_below w.heap.size w X);clear oB;generalize over w.heap.size w X=w2 at *;go_wp2;go_ret;exact⟨by rw[HCH.out];rfl,HX.out⟩
 repeat (go_big_quiet_step (first|(go_at_call 60;exact over_same (HDY.out _))|(go_at_call 58;exact over_same (HNM.out _))|(go_at_call 59;with_reducible exact over_same (HVO.out _))|(go_at_call 59;with_reducible exact over_same (HVN.out _))))
 refine wpQuiet_nil ?_;rintro _ ⟨X,rfl⟩;have HX:=Lib.hid (over_below w.heap.size w X);clear oB;generalize over w.heap.size w X=w2 at *;go_wp2;go_ret;exact⟨by rw[HCH.out];rfl,HX.out⟩
theorem l28Change_ne (day:Int) (key old new:ByteArray) (b off:Nat) (w:World) (c0:w.cell? ⟨b,off,none⟩=some (.int .i64 day)) (c1:w.cell? ⟨b,off+1,none⟩=some (.string key)) (c2:w.cell? ⟨b,off+2,none⟩=some (.string old)) (c3:w.cell? ⟨b,off+3,none⟩=some (.string new)) (hbl:b<w.heap.size) (kk:key.size≤maxLen) (ko:old.size≤maxLen) (kn:new.size≤maxLen) (he:eqS old emptyS=false) (hn:eqS new emptyS=true) :
  Calls Tryz.prog 77 #[.pointer (some ⟨b,off,none⟩)] w fun e w'=>e=.returned (.bool (changeB ⟨day,key,old,new⟩))∧Below w.heap.size w w':=by
 have hd:eqS old new=false:=by rw[eqS_false];intro e;rw[e,hn] at he;cases he
 have HE0:Hid (∀ v,changeB ⟨day,key,old,new⟩=v→changeB ⟨day,key,old,new⟩=v):=fun _ h=>h
 have HDY:Hid (∀ W:World,Calls Tryz.prog 60 #[.int .i64 day] W fun e w'=>e=.returned (.bool (dayB day))∧W=w'):=fun W=>l28Day_any day W
 have HNM:Hid (∀ W:World,Calls Tryz.prog 58 #[.string key] W fun e w'=>e=.returned (.bool (nameB key))∧W=w'):=fun W=>l01Name_any key W kk
 have HVO:Hid (∀ W:World,Calls Tryz.prog 59 #[.string old] W fun e w'=>e=.returned (.bool (valueB old))∧W=w'):=fun W=>l28Value_any old W ko
 have HVN:Hid (∀ W:World,Calls Tryz.prog 59 #[.string new] W fun e w'=>e=.returned (.bool (valueB new))∧W=w'):=fun W=>l28Value_any new W kn
 have HCH:Hid (changeB ⟨day,key,old,new⟩=(dayB day&&(nameB key&&(valueB old&&(true&&true))))):=by
  show _=_
  unfold changeB;simp only[he,hn,hd,Bool.and_false,Bool.false_and,Bool.and_true,Bool.true_and,Bool.and_self,Bool.or_true,Bool.true_or,Bool.or_false,Bool.false_or,Bool.not_true,Bool.not_false]
 generalize changeB ⟨day,key,old,new⟩=CH at *;clear HE0;generalize dayB day=DY at *;generalize nameB key=NM at *;generalize valueB old=VO at *;generalize valueB new=VN at *;obtain rfl:=emptyS_of hn;obtain⟨n1,n2,n3⟩:=eqS_empty_list he;clear he hn hd;have oB:=overC (w0:=w) hbl;go_enter Tryz.func77,Tryz.ntmps77;go_upto_region 1 with (fail);refine wp_region_over w.heap.size w (Below.refl _ _) (by kernel_rfl) (by kernel_rfl) ?_
 repeat (go_big_quiet_step (first|(go_at_call 60;exact over_same (HDY.out _))|(go_at_call 58;exact over_same (HNM.out _))|(go_at_call 59;with_reducible exact over_same (HVO.out _))|(go_at_call 59;with_reducible exact over_same (HVN.out _))))
 cases DY
 case false =>
  repeat (go_big_quiet_step (first|(go_at_call 60;exact over_same (HDY.out _))|(go_at_call 58;exact over_same (HNM.out _))|(go_at_call 59;with_reducible exact over_same (HVO.out _))|(go_at_call 59;with_reducible exact over_same (HVN.out _))))
  refine wpQuiet_nil ?_;rintro _ ⟨X,rfl⟩;have HX:=Lib.hid (over_below w.heap.size w X);clear oB;generalize over w.heap.size w X=w2 at *;go_wp2;go_ret;exact⟨by rw[HCH.out];rfl,HX.out⟩
 repeat (go_big_quiet_step (first|(go_at_call 60;exact over_same (HDY.out _))|(go_at_call 58;exact over_same (HNM.out _))|(go_at_call 59;with_reducible exact over_same (HVO.out _))|(go_at_call 59;with_reducible exact over_same (HVN.out _))))
 cases NM
 case false =>
  repeat (go_big_quiet_step (first|(go_at_call 60;exact over_same (HDY.out _))|(go_at_call 58;exact over_same (HNM.out _))|(go_at_call 59;with_reducible exact over_same (HVO.out _))|(go_at_call 59;with_reducible exact over_same (HVN.out _))))
  refine wpQuiet_nil ?_;rintro _ ⟨X,rfl⟩;have HX:=Lib.hid (over_below w.heap.size w X);clear oB;generalize over w.heap.size w X=w2 at *;go_wp2;go_ret;exact⟨by rw[HCH.out];rfl,HX.out⟩
 repeat (go_big_quiet_step (first|(go_at_call 60;exact over_same (HDY.out _))|(go_at_call 58;exact over_same (HNM.out _))|(go_at_call 59;with_reducible exact over_same (HVO.out _))|(go_at_call 59;with_reducible exact over_same (HVN.out _))))
 cases VO
 case false =>
  repeat (go_big_quiet_step (first|(go_at_call 60;exact over_same (HDY.out _))|(go_at_call 58;exact over_same (HNM.out _))|(go_at_call 59;with_reducible exact over_same (HVO.out _))|(go_at_call 59;with_reducible exact over_same (HVN.out _))))
  refine wpQuiet_nil ?_;rintro _ ⟨X,rfl⟩;have HX:=Lib.hid (over_below w.heap.size w X);clear oB;generalize over w.heap.size w X=w2 at *;go_wp2;go_ret;exact⟨by rw[HCH.out];rfl,HX.out⟩
 repeat (go_big_quiet_step (first|(go_at_call 60;exact over_same (HDY.out _))|(go_at_call 58;exact over_same (HNM.out _))|(go_at_call 59;with_reducible exact over_same (HVO.out _))|(go_at_call 59;with_reducible exact over_same (HVN.out _))))
 refine wpQuiet_nil ?_;rintro _ ⟨X,rfl⟩;have HX:=Lib.hid (over_below w.heap.size w X);clear oB;generalize over w.heap.size w X=w2 at *;go_wp2;go_ret;exact⟨by rw[HCH.out];rfl,HX.out⟩
theorem l28Change_nq (day:Int) (key old new:ByteArray) (b off:Nat) (w:World) (c0:w.cell? ⟨b,off,none⟩=some (.int .i64 day)) (c1:w.cell? ⟨b,off+1,none⟩=some (.string key)) (c2:w.cell? ⟨b,off+2,none⟩=some (.string old)) (c3:w.cell? ⟨b,off+3,none⟩=some (.string new)) (hbl:b<w.heap.size) (kk:key.size≤maxLen) (ko:old.size≤maxLen) (kn:new.size≤maxLen) (he:eqS old emptyS=false) (hn:eqS new emptyS=false) (hd:eqS old new=true) :
  Calls Tryz.prog 77 #[.pointer (some ⟨b,off,none⟩)] w fun e w'=>e=.returned (.bool (changeB ⟨day,key,old,new⟩))∧Below w.heap.size w w':=by
 have HE0:Hid (∀ v,changeB ⟨day,key,old,new⟩=v→changeB ⟨day,key,old,new⟩=v):=fun _ h=>h
 have HDY:Hid (∀ W:World,Calls Tryz.prog 60 #[.int .i64 day] W fun e w'=>e=.returned (.bool (dayB day))∧W=w'):=fun W=>l28Day_any day W
 have HNM:Hid (∀ W:World,Calls Tryz.prog 58 #[.string key] W fun e w'=>e=.returned (.bool (nameB key))∧W=w'):=fun W=>l01Name_any key W kk
 have HVO:Hid (∀ W:World,Calls Tryz.prog 59 #[.string old] W fun e w'=>e=.returned (.bool (valueB old))∧W=w'):=fun W=>l28Value_any old W ko
 have HVN:Hid (∀ W:World,Calls Tryz.prog 59 #[.string new] W fun e w'=>e=.returned (.bool (valueB new))∧W=w'):=fun W=>l28Value_any new W kn
 have HCH:Hid (changeB ⟨day,key,old,new⟩=(dayB day&&(nameB key&&(valueB old&&(valueB new&&false))))):=by
  show _=_
  unfold changeB;simp only[he,hn,hd,Bool.and_false,Bool.false_and,Bool.and_true,Bool.true_and,Bool.and_self,Bool.or_true,Bool.true_or,Bool.or_false,Bool.false_or,Bool.not_true,Bool.not_false]
 generalize changeB ⟨day,key,old,new⟩=CH at *;clear HE0;generalize dayB day=DY at *;generalize nameB key=NM at *;generalize valueB old=VO at *;generalize valueB new=VN at *;obtain⟨n1,n2,n3⟩:=eqS_empty_list he;obtain⟨m1,m2,m3⟩:=eqS_empty_list hn;clear he hn;have d2:(old.toList == new.toList)=true:=hd;have d3:(old.toList != new.toList)=false:=by rw[bne,d2];rfl
 clear hd;have oB:=overC (w0:=w) hbl;go_enter Tryz.func77,Tryz.ntmps77;go_upto_region 1 with (fail);refine wp_region_over w.heap.size w (Below.refl _ _) (by kernel_rfl) (by kernel_rfl) ?_
 repeat (go_big_quiet_step (first|(go_at_call 60;exact over_same (HDY.out _))|(go_at_call 58;exact over_same (HNM.out _))|(go_at_call 59;with_reducible exact over_same (HVO.out _))|(go_at_call 59;with_reducible exact over_same (HVN.out _))))
 cases DY
 case false =>
  repeat (go_big_quiet_step (first|(go_at_call 60;exact over_same (HDY.out _))|(go_at_call 58;exact over_same (HNM.out _))|(go_at_call 59;with_reducible exact over_same (HVO.out _))|(go_at_call 59;with_reducible exact over_same (HVN.out _))))
  refine wpQuiet_nil ?_;rintro _ ⟨X,rfl⟩;have HX:=Lib.hid (over_below w.heap.size w X);clear oB;generalize over w.heap.size w X=w2 at *;go_wp2;go_ret;exact⟨by rw[HCH.out];rfl,HX.out⟩
 repeat (go_big_quiet_step (first|(go_at_call 60;exact over_same (HDY.out _))|(go_at_call 58;exact over_same (HNM.out _))|(go_at_call 59;with_reducible exact over_same (HVO.out _))|(go_at_call 59;with_reducible exact over_same (HVN.out _))))
 cases NM
 case false =>
  repeat (go_big_quiet_step (first|(go_at_call 60;exact over_same (HDY.out _))|(go_at_call 58;exact over_same (HNM.out _))|(go_at_call 59;with_reducible exact over_same (HVO.out _))|(go_at_call 59;with_reducible exact over_same (HVN.out _))))
  refine wpQuiet_nil ?_;rintro _ ⟨X,rfl⟩;have HX:=Lib.hid (over_below w.heap.size w X);clear oB;generalize over w.heap.size w X=w2 at *;go_wp2;go_ret;exact⟨by rw[HCH.out];rfl,HX.out⟩
 repeat (go_big_quiet_step (first|(go_at_call 60;exact over_same (HDY.out _))|(go_at_call 58;exact over_same (HNM.out _))|(go_at_call 59;with_reducible exact over_same (HVO.out _))|(go_at_call 59;with_reducible exact over_same (HVN.out _))))
 cases VO
 case false =>
  repeat (go_big_quiet_step (first|(go_at_call 60;exact over_same (HDY.out _))|(go_at_call 58;exact over_same (HNM.out _))|(go_at_call 59;with_reducible exact over_same (HVO.out _))|(go_at_call 59;with_reducible exact over_same (HVN.out _))))
  refine wpQuiet_nil ?_;rintro _ ⟨X,rfl⟩;have HX:=Lib.hid (over_below w.heap.size w X);clear oB;generalize over w.heap.size w X=w2 at *;go_wp2;go_ret;exact⟨by rw[HCH.out];rfl,HX.out⟩
 repeat (go_big_quiet_step (first|(go_at_call 60;exact over_same (HDY.out _))|(go_at_call 58;exact over_same (HNM.out _))|(go_at_call 59;with_reducible exact over_same (HVO.out _))|(go_at_call 59;with_reducible exact over_same (HVN.out _))))
 cases VN
 case false =>
  repeat (go_big_quiet_step (first|(go_at_call 60;exact over_same (HDY.out _))|(go_at_call 58;exact over_same (HNM.out _))|(go_at_call 59;with_reducible exact over_same (HVO.out _))|(go_at_call 59;with_reducible exact over_same (HVN.out _))))
  refine wpQuiet_nil ?_;rintro _ ⟨X,rfl⟩;have HX:=Lib.hid (over_below w.heap.size w X);clear oB;generalize over w.heap.size w X=w2 at *;go_wp2;go_ret;exact⟨by rw[HCH.out];rfl,HX.out⟩
 repeat (go_big_quiet_step (first|(go_at_call 60;exact over_same (HDY.out _))|(go_at_call 58;exact over_same (HNM.out _))|(go_at_call 59;with_reducible exact over_same (HVO.out _))|(go_at_call 59;with_reducible exact over_same (HVN.out _))))
 refine wpQuiet_nil ?_;rintro _ ⟨X,rfl⟩;have HX:=Lib.hid (over_below w.heap.size w X);clear oB;generalize over w.heap.size w X=w2 at *;go_wp2;go_ret;exact⟨by rw[HCH.out];rfl,HX.out⟩
theorem l28Change_nd (day:Int) (key old new:ByteArray) (b off:Nat) (w:World) (c0:w.cell? ⟨b,off,none⟩=some (.int .i64 day)) (c1:w.cell? ⟨b,off+1,none⟩=some (.string key)) (c2:w.cell? ⟨b,off+2,none⟩=some (.string old)) (c3:w.cell? ⟨b,off+3,none⟩=some (.string new)) (hbl:b<w.heap.size) (kk:key.size≤maxLen) (ko:old.size≤maxLen) (kn:new.size≤maxLen) (he:eqS old emptyS=false) (hn:eqS new emptyS=false) (hd:eqS old new=false) :
  Calls Tryz.prog 77 #[.pointer (some ⟨b,off,none⟩)] w fun e w'=>e=.returned (.bool (changeB ⟨day,key,old,new⟩))∧Below w.heap.size w w':=by
 have HE0:Hid (∀ v,changeB ⟨day,key,old,new⟩=v→changeB ⟨day,key,old,new⟩=v):=fun _ h=>h
 have HDY:Hid (∀ W:World,Calls Tryz.prog 60 #[.int .i64 day] W fun e w'=>e=.returned (.bool (dayB day))∧W=w'):=fun W=>l28Day_any day W
 have HNM:Hid (∀ W:World,Calls Tryz.prog 58 #[.string key] W fun e w'=>e=.returned (.bool (nameB key))∧W=w'):=fun W=>l01Name_any key W kk
 have HVO:Hid (∀ W:World,Calls Tryz.prog 59 #[.string old] W fun e w'=>e=.returned (.bool (valueB old))∧W=w'):=fun W=>l28Value_any old W ko
 have HVN:Hid (∀ W:World,Calls Tryz.prog 59 #[.string new] W fun e w'=>e=.returned (.bool (valueB new))∧W=w'):=fun W=>l28Value_any new W kn
 have HCH:Hid (changeB ⟨day,key,old,new⟩=(dayB day&&(nameB key&&(valueB old&&(valueB new&&true))))):=by
  show _=_
  unfold changeB;simp only[he,hn,hd,Bool.and_false,Bool.false_and,Bool.and_true,Bool.true_and,Bool.and_self,Bool.or_true,Bool.true_or,Bool.or_false,Bool.false_or,Bool.not_true,Bool.not_false]
 generalize changeB ⟨day,key,old,new⟩=CH at *;clear HE0;generalize dayB day=DY at *;generalize nameB key=NM at *;generalize valueB old=VO at *;generalize valueB new=VN at *;obtain⟨n1,n2,n3⟩:=eqS_empty_list he;obtain⟨m1,m2,m3⟩:=eqS_empty_list hn;clear he hn;have d2:(old.toList == new.toList)=false:=hd;have d3:(old.toList != new.toList)=true:=by rw[bne,d2];rfl
 clear hd;have oB:=overC (w0:=w) hbl;go_enter Tryz.func77,Tryz.ntmps77;go_upto_region 1 with (fail);refine wp_region_over w.heap.size w (Below.refl _ _) (by kernel_rfl) (by kernel_rfl) ?_
 repeat (go_big_quiet_step (first|(go_at_call 60;exact over_same (HDY.out _))|(go_at_call 58;exact over_same (HNM.out _))|(go_at_call 59;with_reducible exact over_same (HVO.out _))|(go_at_call 59;with_reducible exact over_same (HVN.out _))))
 cases DY
 case false =>
  repeat (go_big_quiet_step (first|(go_at_call 60;exact over_same (HDY.out _))|(go_at_call 58;exact over_same (HNM.out _))|(go_at_call 59;with_reducible exact over_same (HVO.out _))|(go_at_call 59;with_reducible exact over_same (HVN.out _))))
  refine wpQuiet_nil ?_;rintro _ ⟨X,rfl⟩;have HX:=Lib.hid (over_below w.heap.size w X);clear oB;generalize over w.heap.size w X=w2 at *;go_wp2;go_ret;exact⟨by rw[HCH.out];rfl,HX.out⟩
 repeat (go_big_quiet_step (first|(go_at_call 60;exact over_same (HDY.out _))|(go_at_call 58;exact over_same (HNM.out _))|(go_at_call 59;with_reducible exact over_same (HVO.out _))|(go_at_call 59;with_reducible exact over_same (HVN.out _))))
 cases NM
 case false =>
  repeat (go_big_quiet_step (first|(go_at_call 60;exact over_same (HDY.out _))|(go_at_call 58;exact over_same (HNM.out _))|(go_at_call 59;with_reducible exact over_same (HVO.out _))|(go_at_call 59;with_reducible exact over_same (HVN.out _))))
  refine wpQuiet_nil ?_;rintro _ ⟨X,rfl⟩;have HX:=Lib.hid (over_below w.heap.size w X);clear oB;generalize over w.heap.size w X=w2 at *;go_wp2;go_ret;exact⟨by rw[HCH.out];rfl,HX.out⟩
 repeat (go_big_quiet_step (first|(go_at_call 60;exact over_same (HDY.out _))|(go_at_call 58;exact over_same (HNM.out _))|(go_at_call 59;with_reducible exact over_same (HVO.out _))|(go_at_call 59;with_reducible exact over_same (HVN.out _))))
 cases VO
 case false =>
  repeat (go_big_quiet_step (first|(go_at_call 60;exact over_same (HDY.out _))|(go_at_call 58;exact over_same (HNM.out _))|(go_at_call 59;with_reducible exact over_same (HVO.out _))|(go_at_call 59;with_reducible exact over_same (HVN.out _))))
  refine wpQuiet_nil ?_;rintro _ ⟨X,rfl⟩;have HX:=Lib.hid (over_below w.heap.size w X);clear oB;generalize over w.heap.size w X=w2 at *;go_wp2;go_ret;exact⟨by rw[HCH.out];rfl,HX.out⟩
 repeat (go_big_quiet_step (first|(go_at_call 60;exact over_same (HDY.out _))|(go_at_call 58;exact over_same (HNM.out _))|(go_at_call 59;with_reducible exact over_same (HVO.out _))|(go_at_call 59;with_reducible exact over_same (HVN.out _))))
 cases VN
 case false =>
  repeat (go_big_quiet_step (first|(go_at_call 60;exact over_same (HDY.out _))|(go_at_call 58;exact over_same (HNM.out _))|(go_at_call 59;with_reducible exact over_same (HVO.out _))|(go_at_call 59;with_reducible exact over_same (HVN.out _))))
  refine wpQuiet_nil ?_;rintro _ ⟨X,rfl⟩;have HX:=Lib.hid (over_below w.heap.size w X);clear oB;generalize over w.heap.size w X=w2 at *;go_wp2;go_ret;exact⟨by rw[HCH.out];rfl,HX.out⟩
 repeat (go_big_quiet_step (first|(go_at_call 60;exact over_same (HDY.out _))|(go_at_call 58;exact over_same (HNM.out _))|(go_at_call 59;with_reducible exact over_same (HVO.out _))|(go_at_call 59;with_reducible exact over_same (HVN.out _))))
 refine wpQuiet_nil ?_;rintro _ ⟨X,rfl⟩;have HX:=Lib.hid (over_below w.heap.size w X);clear oB;generalize over w.heap.size w X=w2 at *;go_wp2;go_ret;exact⟨by rw[HCH.out];rfl,HX.out⟩
theorem l28Change_any (c:DChange) (b off:Nat) (w:World) (c0:w.cell? ⟨b,off,none⟩=some (.int .i64 c.day)) (c1:w.cell? ⟨b,off+1,none⟩=some (.string c.key)) (c2:w.cell? ⟨b,off+2,none⟩=some (.string c.old_)) (c3:w.cell? ⟨b,off+3,none⟩=some (.string c.new_)) (hbl:b<w.heap.size) (kk:c.key.size≤maxLen) (ko:c.old_.size≤maxLen) (kn:c.new_.size≤maxLen) :
  Calls Tryz.prog 77 #[.pointer (some ⟨b,off,none⟩)] w fun e w'=>e=.returned (.bool (changeB c))∧Below w.heap.size w w':=by
 obtain⟨day,key,old,new⟩:=c
 cases he:eqS old emptyS
 case true =>
  cases hn:eqS new emptyS
  case true=>exact l28Change_ee day key old new b off w c0 c1 c2 c3 hbl kk ko kn he hn
  case false=>exact l28Change_en day key old new b off w c0 c1 c2 c3 hbl kk ko kn he hn
 case false =>
  cases hn:eqS new emptyS
  case true=>exact l28Change_ne day key old new b off w c0 c1 c2 c3 hbl kk ko kn he hn
  case false =>
   cases hd:eqS old new
   case true=>exact l28Change_nq day key old new b off w c0 c1 c2 c3 hbl kk ko kn he hn hd
   case false=>exact l28Change_nd day key old new b off w c0 c1 c2 c3 hbl kk ko kn he hn hd
end
end Go.Proofs.YtmkkiglcpedkiaaGreatDoor
