-- Written by a program of this session; it walks the functions that the law reaches.
import Derived.Test.YtanhbfhmgmjdgaaQx0
import Derived.Test.YtanhbfhmgmjdgaaQx24
namespace Go.Proofs.Ytanhbfhmgmjdgaa.Q
open Go.RowKit Go.Proofs.YtanhbfhmgmjdgaaW.PrintWords Go.Proofs.YtanhbfhmgmjdgaaW.PrintLast Go.Proofs.YtanhbfhmgmjdgaaW.PrintMore
attribute [local go_sem] max2_int min2_int max_two min_two max_three min_three max_four min_four   -- for this text's walks alone
set_option linter.unusedVariables false
set_option linter.unusedSimpArgs false
set_option maxRecDepth 100000
set_option maxHeartbeats 8000000

/-! ### impl_GoodInstance: function 7 -/
def impl_GoodInstance.f (k:Nat) (l0_0:List (S88)) (l0_1:List (S75)) (a0_2:Bool) (a0_3:Int) (a0_4:Int) (a0_5:Int) (a0_6:Int) (a0_7:ByteArray) (l0_8:List (S72)) (a0_9:Bool) (a0_10:Int):Option (Bool):=(impl_CheckModule.f k l0_0 l0_1 a0_2 a0_3 a0_4 a0_5).bind fun bt435=>(if bt435.1=0 then ((impl_GoodState.f k l0_0 l0_1 a0_2 a0_3 a0_4 a0_5 a0_6 a0_7 l0_8).bind fun t438=>(if t438=true then (if a0_10≥0 then (some (decide (a0_10≤1000000000))) else (some false)) else (some false))) else (some false))
theorem impl_GoodInstance.calls (k:Nat) (A0_0:Option Addr) (c0_0:Nat) (l0_0:List (S88)) (A0_1:Option Addr) (c0_1:Nat) (l0_1:List (S75)) (a0_2:Bool) (a0_3:Int) (a0_4:Int) (a0_5:Int) (a0_6:Int) (a0_7:ByteArray) (A0_8:Option Addr) (c0_8:Nat) (l0_8:List (S72)) (a0_9:Bool) (a0_10:Int) (r:Bool) (w:World) (hr0_0:Kd.C k88 w A0_0 l0_0.length l0_0) (hc0_0:l0_0.length≤c0_0) (hr0_1:Kd.C k75 w A0_1 l0_1.length l0_1) (hc0_1:l0_1.length≤c0_1) (hr0_8:Kd.C k72 w A0_8 l0_8.length l0_8) (hc0_8:l0_8.length≤c0_8) (h:impl_GoodInstance.f k l0_0 l0_1 a0_2 a0_3 a0_4 a0_5 a0_6 a0_7 l0_8 a0_9 a0_10=some r):
  Calls Try.prog 7 #[.agg #[.slice A0_0 l0_0.length c0_0,.slice A0_1 l0_1.length c0_1,.bool a0_2,.int .i64 a0_3,.int .i64 a0_4,.int .i64 a0_5,.int .i64 a0_6,.string a0_7,.slice A0_8 l0_8.length c0_8,.bool a0_9,.int .i64 a0_10]] w fun e w'=>e=.returned (.bool r)∧Below w.heap.size w w':=by
 have hu44:=Try.underlying44
 have hu38:=Try.underlying38
 have hu42:=Try.underlying42
 have HR0_0:=A_ hr0_0
 have HC0_0:=A_ hc0_0
 clear hr0_0 hc0_0
 have HR0_1:=A_ hr0_1
 have HC0_1:=A_ hc0_1
 clear hr0_1 hc0_1
 have HR0_8:=A_ hr0_8
 have HC0_8:=A_ hc0_8
 clear hr0_8 hc0_8
 have HB:=A_ (Below.refl w.heap.size w)
 have H:((impl_CheckModule.f k l0_0 l0_1 a0_2 a0_3 a0_4 a0_5).bind fun bt435=>(if bt435.1=0 then ((impl_GoodState.f k l0_0 l0_1 a0_2 a0_3 a0_4 a0_5 a0_6 a0_7 l0_8).bind fun t438=>(if t438=true then (if a0_10≥0 then (some (decide (a0_10≤1000000000))) else (some false)) else (some false))) else (some false)))=some r:=h
 clear h
 replace H:=Option.bind_eq_some_iff.mp H
 obtain⟨⟨t435,t436,t437⟩,A20,H⟩:=H
 try dsimp only at H
 have A2:=A_ A20
 clear A20
 revert H
 refine iE_ (fun c3b0 c3b1 H=>?_) (fun c3 c3b0 c3b1 H=>?_)
 replace H:=bA_ H
 obtain⟨t438,A4,H⟩:=H
 by_cases c5:t438=true
 case neg=>
  replace c5:=Bool.eq_false_iff.mpr c5
  subst c5
  replace H:=iF_ H
  obtain rfl:=Option.some.inj H
  clear H
  go_enter Try.func7,Try.ntmps7
  go_wp2_with (first|((with_reducible refine gd_ 1 rfl ?_);refine bx_ #[.slice A0_0 l0_0.length c0_0,.slice A0_1 l0_1.length c0_1,.bool a0_2,.int .i64 a0_3,.int .i64 a0_4,.int .i64 a0_5,.int .i64 a0_6,.string a0_7,.slice A0_8 l0_8.length c0_8,.bool a0_9,.int .i64 a0_10] 44 ?_;intro gb434 hg w19 hbox hb;have BK434:=A_ hbox;have GW434:=gw_ hg HB;have GE434:=GW434;replace HB:=bs_ HB hb;clear hb hbox hg;have hcz20_0:w19.cell? ⟨gb434,0,none⟩=some (.slice A0_0 l0_0.length c0_0):=(blk_cell BK434.out 0).trans rfl;have hcz20_1:w19.cell? ⟨gb434,1,none⟩=some (.slice A0_1 l0_1.length c0_1):=(blk_cell BK434.out 1).trans rfl;have hcz20_2:w19.cell? ⟨gb434,2,none⟩=some (.bool a0_2):=(blk_cell BK434.out 2).trans rfl;have hcz20_3:w19.cell? ⟨gb434,3,none⟩=some (.int .i64 a0_3):=(blk_cell BK434.out 3).trans rfl;have hcz20_4:w19.cell? ⟨gb434,4,none⟩=some (.int .i64 a0_4):=(blk_cell BK434.out 4).trans rfl;have hcz20_5:w19.cell? ⟨gb434,5,none⟩=some (.int .i64 a0_5):=(blk_cell BK434.out 5).trans rfl;have hcz20_6:w19.cell? ⟨gb434,6,none⟩=some (.int .i64 a0_6):=(blk_cell BK434.out 6).trans rfl;have hcz20_7:w19.cell? ⟨gb434,7,none⟩=some (.string a0_7):=(blk_cell BK434.out 7).trans rfl;have hcz20_8:w19.cell? ⟨gb434,8,none⟩=some (.slice A0_8 l0_8.length c0_8):=(blk_cell BK434.out 8).trans rfl;have hcz20_9:w19.cell? ⟨gb434,9,none⟩=some (.bool a0_9):=(blk_cell BK434.out 9).trans rfl;have hcz20_10:w19.cell? ⟨gb434,10,none⟩=some (.int .i64 a0_10):=(blk_cell BK434.out 10).trans rfl;have hfz20_0:=blk_frozen BK434.out 0;have hfz20_1:=blk_frozen BK434.out 1;have hfz20_2:=blk_frozen BK434.out 2;have hfz20_3:=blk_frozen BK434.out 3;have hfz20_4:=blk_frozen BK434.out 4;have hfz20_5:=blk_frozen BK434.out 5;have hfz20_6:=blk_frozen BK434.out 6;have hfz20_7:=blk_frozen BK434.out 7;have hfz20_8:=blk_frozen BK434.out 8;have hfz20_9:=blk_frozen BK434.out 9;have hfz20_10:=blk_frozen BK434.out 10)|((with_reducible refine gc_ 14 rfl ?_);refine gm_ (some 9) Try.func14 (impl_CheckModule.calls k _ _ l0_0 _ _ l0_1 a0_2 a0_3 a0_4 a0_5 t435 t436 t437 _ (cb_ HR0_0 HB) HC0_0.out (cb_ HR0_1 HB) HC0_1.out A2.out) ?_;intro w21 hb;replace BK434:=kb_ BK434 hb;replace HB:=bs_ HB hb;(try clear hb);have hcz22_0:w21.cell? ⟨gb434,0,none⟩=some (.slice A0_0 l0_0.length c0_0):=(blk_cell BK434.out 0).trans rfl;have hcz22_1:w21.cell? ⟨gb434,1,none⟩=some (.slice A0_1 l0_1.length c0_1):=(blk_cell BK434.out 1).trans rfl;have hcz22_2:w21.cell? ⟨gb434,2,none⟩=some (.bool a0_2):=(blk_cell BK434.out 2).trans rfl;have hcz22_3:w21.cell? ⟨gb434,3,none⟩=some (.int .i64 a0_3):=(blk_cell BK434.out 3).trans rfl;have hcz22_4:w21.cell? ⟨gb434,4,none⟩=some (.int .i64 a0_4):=(blk_cell BK434.out 4).trans rfl;have hcz22_5:w21.cell? ⟨gb434,5,none⟩=some (.int .i64 a0_5):=(blk_cell BK434.out 5).trans rfl;have hcz22_6:w21.cell? ⟨gb434,6,none⟩=some (.int .i64 a0_6):=(blk_cell BK434.out 6).trans rfl;have hcz22_7:w21.cell? ⟨gb434,7,none⟩=some (.string a0_7):=(blk_cell BK434.out 7).trans rfl;have hcz22_8:w21.cell? ⟨gb434,8,none⟩=some (.slice A0_8 l0_8.length c0_8):=(blk_cell BK434.out 8).trans rfl;have hcz22_9:w21.cell? ⟨gb434,9,none⟩=some (.bool a0_9):=(blk_cell BK434.out 9).trans rfl;have hcz22_10:w21.cell? ⟨gb434,10,none⟩=some (.int .i64 a0_10):=(blk_cell BK434.out 10).trans rfl;have hfz22_0:=blk_frozen BK434.out 0;have hfz22_1:=blk_frozen BK434.out 1;have hfz22_2:=blk_frozen BK434.out 2;have hfz22_3:=blk_frozen BK434.out 3;have hfz22_4:=blk_frozen BK434.out 4;have hfz22_5:=blk_frozen BK434.out 5;have hfz22_6:=blk_frozen BK434.out 6;have hfz22_7:=blk_frozen BK434.out 7;have hfz22_8:=blk_frozen BK434.out 8;have hfz22_9:=blk_frozen BK434.out 9;have hfz22_10:=blk_frozen BK434.out 10)|(go_at_call 15;(with_reducible refine(impl_GoodState.calls k _ _ l0_0 _ _ l0_1 a0_2 a0_3 a0_4 a0_5 a0_6 a0_7 _ _ l0_8 false _ ?side1 ?side2 ?side3 ?side4 ?side5 ?side6 A4.out).mono ?_);(case side1=>exact cb_ HR0_0 HB);(case side2=>exact HC0_0.out);(case side3=>exact cb_ HR0_1 HB);(case side4=>exact HC0_1.out);(case side5=>exact cb_ HR0_8 HB);(case side6=>exact HC0_8.out);rintro e w23 ⟨rfl,hb⟩;replace BK434:=kb_ BK434 hb;replace HB:=bs_ HB hb;(try clear hb);(try clear hb2);(try clear hk);(try clear hi)))
  go_ret
  exact⟨rr_,bw HB.out⟩
 subst c5
 replace H:=iT_ H
 revert H
 refine iL_ (fun c6b0 H=>?_) (fun c6b0 H=>?_)
 all_goals
  obtain rfl:=Option.some.inj H
  clear H
  go_enter Try.func7,Try.ntmps7
  go_wp2_with (first|((with_reducible refine gd_ 1 rfl ?_);refine bx_ #[.slice A0_0 l0_0.length c0_0,.slice A0_1 l0_1.length c0_1,.bool a0_2,.int .i64 a0_3,.int .i64 a0_4,.int .i64 a0_5,.int .i64 a0_6,.string a0_7,.slice A0_8 l0_8.length c0_8,.bool a0_9,.int .i64 a0_10] 44 ?_;intro gb434 hg w7 hbox hb;have BK434:=A_ hbox;have GW434:=gw_ hg HB;have GE434:=GW434;replace HB:=bs_ HB hb;clear hb hbox hg;have hcz8_0:w7.cell? ⟨gb434,0,none⟩=some (.slice A0_0 l0_0.length c0_0):=(blk_cell BK434.out 0).trans rfl;have hcz8_1:w7.cell? ⟨gb434,1,none⟩=some (.slice A0_1 l0_1.length c0_1):=(blk_cell BK434.out 1).trans rfl;have hcz8_2:w7.cell? ⟨gb434,2,none⟩=some (.bool a0_2):=(blk_cell BK434.out 2).trans rfl;have hcz8_3:w7.cell? ⟨gb434,3,none⟩=some (.int .i64 a0_3):=(blk_cell BK434.out 3).trans rfl;have hcz8_4:w7.cell? ⟨gb434,4,none⟩=some (.int .i64 a0_4):=(blk_cell BK434.out 4).trans rfl;have hcz8_5:w7.cell? ⟨gb434,5,none⟩=some (.int .i64 a0_5):=(blk_cell BK434.out 5).trans rfl;have hcz8_6:w7.cell? ⟨gb434,6,none⟩=some (.int .i64 a0_6):=(blk_cell BK434.out 6).trans rfl;have hcz8_7:w7.cell? ⟨gb434,7,none⟩=some (.string a0_7):=(blk_cell BK434.out 7).trans rfl;have hcz8_8:w7.cell? ⟨gb434,8,none⟩=some (.slice A0_8 l0_8.length c0_8):=(blk_cell BK434.out 8).trans rfl;have hcz8_9:w7.cell? ⟨gb434,9,none⟩=some (.bool a0_9):=(blk_cell BK434.out 9).trans rfl;have hcz8_10:w7.cell? ⟨gb434,10,none⟩=some (.int .i64 a0_10):=(blk_cell BK434.out 10).trans rfl;have hfz8_0:=blk_frozen BK434.out 0;have hfz8_1:=blk_frozen BK434.out 1;have hfz8_2:=blk_frozen BK434.out 2;have hfz8_3:=blk_frozen BK434.out 3;have hfz8_4:=blk_frozen BK434.out 4;have hfz8_5:=blk_frozen BK434.out 5;have hfz8_6:=blk_frozen BK434.out 6;have hfz8_7:=blk_frozen BK434.out 7;have hfz8_8:=blk_frozen BK434.out 8;have hfz8_9:=blk_frozen BK434.out 9;have hfz8_10:=blk_frozen BK434.out 10)|((with_reducible refine gc_ 14 rfl ?_);refine gm_ (some 9) Try.func14 (impl_CheckModule.calls k _ _ l0_0 _ _ l0_1 a0_2 a0_3 a0_4 a0_5 t435 t436 t437 _ (cb_ HR0_0 HB) HC0_0.out (cb_ HR0_1 HB) HC0_1.out A2.out) ?_;intro w9 hb;replace BK434:=kb_ BK434 hb;replace HB:=bs_ HB hb;(try clear hb);have hcz10_0:w9.cell? ⟨gb434,0,none⟩=some (.slice A0_0 l0_0.length c0_0):=(blk_cell BK434.out 0).trans rfl;have hcz10_1:w9.cell? ⟨gb434,1,none⟩=some (.slice A0_1 l0_1.length c0_1):=(blk_cell BK434.out 1).trans rfl;have hcz10_2:w9.cell? ⟨gb434,2,none⟩=some (.bool a0_2):=(blk_cell BK434.out 2).trans rfl;have hcz10_3:w9.cell? ⟨gb434,3,none⟩=some (.int .i64 a0_3):=(blk_cell BK434.out 3).trans rfl;have hcz10_4:w9.cell? ⟨gb434,4,none⟩=some (.int .i64 a0_4):=(blk_cell BK434.out 4).trans rfl;have hcz10_5:w9.cell? ⟨gb434,5,none⟩=some (.int .i64 a0_5):=(blk_cell BK434.out 5).trans rfl;have hcz10_6:w9.cell? ⟨gb434,6,none⟩=some (.int .i64 a0_6):=(blk_cell BK434.out 6).trans rfl;have hcz10_7:w9.cell? ⟨gb434,7,none⟩=some (.string a0_7):=(blk_cell BK434.out 7).trans rfl;have hcz10_8:w9.cell? ⟨gb434,8,none⟩=some (.slice A0_8 l0_8.length c0_8):=(blk_cell BK434.out 8).trans rfl;have hcz10_9:w9.cell? ⟨gb434,9,none⟩=some (.bool a0_9):=(blk_cell BK434.out 9).trans rfl;have hcz10_10:w9.cell? ⟨gb434,10,none⟩=some (.int .i64 a0_10):=(blk_cell BK434.out 10).trans rfl;have hfz10_0:=blk_frozen BK434.out 0;have hfz10_1:=blk_frozen BK434.out 1;have hfz10_2:=blk_frozen BK434.out 2;have hfz10_3:=blk_frozen BK434.out 3;have hfz10_4:=blk_frozen BK434.out 4;have hfz10_5:=blk_frozen BK434.out 5;have hfz10_6:=blk_frozen BK434.out 6;have hfz10_7:=blk_frozen BK434.out 7;have hfz10_8:=blk_frozen BK434.out 8;have hfz10_9:=blk_frozen BK434.out 9;have hfz10_10:=blk_frozen BK434.out 10)|(go_at_call 15;(with_reducible refine(impl_GoodState.calls k _ _ l0_0 _ _ l0_1 a0_2 a0_3 a0_4 a0_5 a0_6 a0_7 _ _ l0_8 true _ ?side1 ?side2 ?side3 ?side4 ?side5 ?side6 A4.out).mono ?_);(case side1=>exact cb_ HR0_0 HB);(case side2=>exact HC0_0.out);(case side3=>exact cb_ HR0_1 HB);(case side4=>exact HC0_1.out);(case side5=>exact cb_ HR0_8 HB);(case side6=>exact HC0_8.out);rintro e w11 ⟨rfl,hb⟩;replace BK434:=kb_ BK434 hb;replace HB:=bs_ HB hb;(try clear hb);(try clear hb2);(try clear hk);(try clear hi);have hcz12_0:w11.cell? ⟨gb434,0,none⟩=some (.slice A0_0 l0_0.length c0_0):=(blk_cell BK434.out 0).trans rfl;have hcz12_1:w11.cell? ⟨gb434,1,none⟩=some (.slice A0_1 l0_1.length c0_1):=(blk_cell BK434.out 1).trans rfl;have hcz12_2:w11.cell? ⟨gb434,2,none⟩=some (.bool a0_2):=(blk_cell BK434.out 2).trans rfl;have hcz12_3:w11.cell? ⟨gb434,3,none⟩=some (.int .i64 a0_3):=(blk_cell BK434.out 3).trans rfl;have hcz12_4:w11.cell? ⟨gb434,4,none⟩=some (.int .i64 a0_4):=(blk_cell BK434.out 4).trans rfl;have hcz12_5:w11.cell? ⟨gb434,5,none⟩=some (.int .i64 a0_5):=(blk_cell BK434.out 5).trans rfl;have hcz12_6:w11.cell? ⟨gb434,6,none⟩=some (.int .i64 a0_6):=(blk_cell BK434.out 6).trans rfl;have hcz12_7:w11.cell? ⟨gb434,7,none⟩=some (.string a0_7):=(blk_cell BK434.out 7).trans rfl;have hcz12_8:w11.cell? ⟨gb434,8,none⟩=some (.slice A0_8 l0_8.length c0_8):=(blk_cell BK434.out 8).trans rfl;have hcz12_9:w11.cell? ⟨gb434,9,none⟩=some (.bool a0_9):=(blk_cell BK434.out 9).trans rfl;have hcz12_10:w11.cell? ⟨gb434,10,none⟩=some (.int .i64 a0_10):=(blk_cell BK434.out 10).trans rfl;have hfz12_0:=blk_frozen BK434.out 0;have hfz12_1:=blk_frozen BK434.out 1;have hfz12_2:=blk_frozen BK434.out 2;have hfz12_3:=blk_frozen BK434.out 3;have hfz12_4:=blk_frozen BK434.out 4;have hfz12_5:=blk_frozen BK434.out 5;have hfz12_6:=blk_frozen BK434.out 6;have hfz12_7:=blk_frozen BK434.out 7;have hfz12_8:=blk_frozen BK434.out 8;have hfz12_9:=blk_frozen BK434.out 9;have hfz12_10:=blk_frozen BK434.out 10))
  go_ret
  exact⟨rr_,bw HB.out⟩

/-! ### laws_eqIntS: function 69 -/
def laws_eqIntS.l0:Nat→List Int→List Int→Int→Option (Bool)
 |0,_,_,_=>none
 |k+1,x0,x1,x5=>if x5<(x0.length:Int) then (if 0≤x5 then (if x5<(x1.length:Int) then (if (rd x0 x5)=(rd x1 x5) then (laws_eqIntS.l0 k x0 x1 (wrap64 (x5+1))) else (some false)) else (none)) else (none)) else (some true)
def laws_eqIntS.f (k:Nat) (l0:List Int) (l1:List Int):Option (Bool):=if (l0.length:Int)=(l1.length:Int) then (laws_eqIntS.l0 k l0 l1 0) else (some false)
theorem laws_eqIntS.calls (k:Nat) (A0:Option Addr) (c0:Nat) (l0:List Int) (A1:Option Addr) (c1:Nat) (l1:List Int) (r:Bool) (w:World) (hr0:Kd.C (Kd.int .i64) w A0 l0.length l0) (hc0:l0.length≤c0) (hr1:Kd.C (Kd.int .i64) w A1 l1.length l1) (hc1:l1.length≤c1) (h:laws_eqIntS.f k l0 l1=some r):
  Calls Try.prog 69 #[.slice A0 l0.length c0,.slice A1 l1.length c1] w fun e w'=>e=.returned (.bool r)∧Drawn0 w w':=by
 have HR0:=A_ hr0
 have HC0:=A_ hc0
 clear hr0 hc0
 have HR1:=A_ hr1
 have HC1:=A_ hc1
 clear hr1 hc1
 have H:(if (l0.length:Int)=(l1.length:Int) then (laws_eqIntS.l0 k l0 l1 0) else (some false))=some r:=h
 clear h
 by_cases c3:(l0.length:Int)=(l1.length:Int)
 ·
  rw[if_pos c3] at H
  obtain⟨c3b0,c3b1⟩:=eT_ c3
  have c3b2:(l0.length==l1.length)=true:=by first|simpa using c3|(simp at c3 ⊢;omega)
  clear c3
  have H':=A_ H
  clear H
  go_enter Try.func69,Try.ntmps69
  go_wp2
  repeat (go_quiet (fail);try go_wp2)
  (try simp only[Act.put,List.setIfInBounds_toArray,List.set_cons_zero,List.set_cons_succ])
  go_loopg [5] k (fun kq v5 w'=>∃ (x5_1:Int),v5=.int .i64 x5_1∧Aside0 (laws_eqIntS.l0 kq l0 l1 x5_1=some r)∧Aside0 (kq≤k)∧Drawn0 w w')
  case atStart=>exact⟨(0),rs_,H',⟨Nat.le_refl _⟩,dr_⟩
  case round=>
   clear H'
   try clear c1 c3 c3b0 c3b1 c3b2
   obtain⟨x5_1,rfl,HA,HK1,⟨m1,rfl⟩⟩:=hrel
   cases gk with
   |zero=>exact absurd HA.out (by simp[laws_eqIntS.l0])
   |succ k1=>
    have H:=HA.out
    clear HA
    simp only[laws_eqIntS.l0] at H
    revert H
    refine iL_ (fun c4b0 H=>?_) (fun c4b0 H=>?_)
    ·
     replace H:=id_ H
     obtain⟨c5b0,H⟩:=H
     replace H:=id_ H
     obtain⟨c6b0,H⟩:=H
     revert H
     refine iE_ (fun c7b0 c7b1 H=>?_) (fun c7 c7b0 c7b1 H=>?_)
     ·
      have H':=A_ H
      clear H
      have p439:0≤(x5_1:Int):=od_
      have q439:x5_1<(l0.length:Int):=od_
      obtain⟨ad439,e439,hx439_0⟩:=Kd.at_int HR0.out x5_1 p439 q439
      cases e439
      replace p439:=eq_true p439
      replace q439:=eq_true q439
      have p440:0≤(x5_1:Int):=od_
      have q440:x5_1<(l1.length:Int):=od_
      obtain⟨ad440,e440,hx440_0⟩:=Kd.at_int HR1.out x5_1 p440 q440
      cases e440
      replace p440:=eq_true p440
      replace q440:=eq_true q440
      go_wp2
      repeat (go_quiet (fail);try go_wp2)
      go_roundg k1
      case measure=>have:=HK1.out;omega
      case rel=>exact⟨(wrap64 (x5_1+1)),rs_,H',⟨by have:=HK1.out;omega⟩,dr_⟩
     obtain rfl:=Option.some.inj H
     clear H
     have p439:0≤(x5_1:Int):=od_
     have q439:x5_1<(l0.length:Int):=od_
     obtain⟨ad439,e439,hx439_0⟩:=Kd.at_int HR0.out x5_1 p439 q439
     cases e439
     replace p439:=eq_true p439
     replace q439:=eq_true q439
     have p440:0≤(x5_1:Int):=od_
     have q440:x5_1<(l1.length:Int):=od_
     obtain⟨ad440,e440,hx440_0⟩:=Kd.at_int HR1.out x5_1 p440 q440
     cases e440
     replace p440:=eq_true p440
     replace q440:=eq_true q440
     go_wp2
     repeat (go_quiet (fail);try go_wp2)
     go_ret
     exact⟨rs_,dr_⟩
    obtain rfl:=Option.some.inj H
    clear H
    go_wp2
    repeat (go_quiet (fail);try go_wp2)
    go_ret
    exact⟨rs_,dr_⟩
 rw[if_neg c3] at H
 obtain⟨c3b0,c3b1⟩:=eF_ c3
 have c3b2:(l0.length==l1.length)=false:=by first|simpa using c3|(simp at c3 ⊢;omega)
 obtain rfl:=Option.some.inj H
 clear H
 go_enter Try.func69,Try.ntmps69
 go_wp2
 repeat (go_quiet (fail);try go_wp2)
 go_ret
 exact⟨rs_,dr_⟩

/-! ### laws_eqIns: function 92 -/
def laws_eqIns.f (a0_0:Int) (a0_1:Int) (a1_0:Int) (a1_1:Int):Option (Bool):=if a0_0=a1_0 then (if a0_1=a1_1 then (some true) else (some false)) else (some false)
theorem laws_eqIns.calls (a0_0:Int) (a0_1:Int) (a1_0:Int) (a1_1:Int) (r:Bool) (w:World) (h:laws_eqIns.f a0_0 a0_1 a1_0 a1_1=some r):
  Calls Try.prog 92 #[.agg #[.int .i64 a0_0,.int .i64 a0_1],.agg #[.int .i64 a1_0,.int .i64 a1_1]] w fun e w'=>e=.returned (.bool r)∧Below w.heap.size w w':=by
 have hu103:=Try.underlying103
 have HB:=A_ (Below.refl w.heap.size w)
 have H:(if a0_0=a1_0 then (if a0_1=a1_1 then (some true) else (some false)) else (some false))=some r:=h
 clear h
 revert H
 refine iE_ (fun c3b0 c3b1 H=>?_) (fun c3 c3b0 c3b1 H=>?_)
 revert H
 refine iE_ (fun c4b0 c4b1 H=>?_) (fun c4 c4b0 c4b1 H=>?_)
 all_goals
  obtain rfl:=Option.some.inj H
  clear H
  go_enter Try.func92,Try.ntmps92
  go_wp2_with (first|((with_reducible refine gd_ 2 rfl ?_);refine bx_ #[.int .i64 a0_0,.int .i64 a0_1] 103 ?_;intro gb441 hg w5 hbox hb;have BK441:=A_ hbox;have GW441:=gw_ hg HB;have GE441:=GW441;replace HB:=bs_ HB hb;clear hb hbox hg)|((with_reducible refine gd_ 3 rfl ?_);refine bx_ #[.int .i64 a1_0,.int .i64 a1_1] 103 ?_;intro gb442 hg w6 hbox hb;have BK442:=A_ hbox;have GW442:=gw_ hg HB;have GE442:=GW442;obtain⟨NB441_442,NB442_441⟩:=nb_ BK441 hg;replace BK441:=kb_ BK441 hb;replace HB:=bs_ HB hb;clear hb hbox hg;have hnb7:=NB441_442.out;have hnc7:=NB442_441.out;obtain⟨hcz8_0,hcz8_1⟩:=cs2_ BK441.out;obtain⟨hfz8_0,hfz8_1⟩:=fz2_ BK441.out;obtain⟨hcz9_0,hcz9_1⟩:=cs2_ BK442.out;obtain⟨hfz9_0,hfz9_1⟩:=fz2_ BK442.out))
  go_ret
  exact⟨rr_,bw HB.out⟩

/-! ### laws_eqInsS: function 70 -/
def laws_eqInsS.l0:Nat→List (S103)→List (S103)→Int→Option (Bool)
 |0,_,_,_=>none
 |k+1,x0,x1,x5=>if x5<(x0.length:Int) then (if 0≤x5 then (if x5<(x1.length:Int) then ((laws_eqIns.f ((rd_T103 x0 x5).f0) ((rd_T103 x0 x5).f1) ((rd_T103 x1 x5).f0) ((rd_T103 x1 x5).f1)).bind fun t445=>(if t445=true then (laws_eqInsS.l0 k x0 x1 (wrap64 (x5+1))) else (some false))) else (none)) else (none)) else (some true)
def laws_eqInsS.f (k:Nat) (l0:List (S103)) (l1:List (S103)):Option (Bool):=if (l0.length:Int)=(l1.length:Int) then (laws_eqInsS.l0 k l0 l1 0) else (some false)
def laws_eqInsS.T6:Bool × List (List Nat × List Nat):=(true,[([],[]),([],[]),([0,1],[0,1]),([2],[2]),([],[]),([],[]),([4,5],[4,5]),([6],[6]),([3,7],[3,7]),([8],[8])])
def laws_eqInsS.B6:List Nat:=[0,0,3,7,0,0,48,112,255,511]
theorem laws_eqInsS.tab6:rtab .any (opsOf Try.f70 6)=laws_eqInsS.T6:=by kernel_rfl
theorem laws_eqInsS.bits6:waitsOk laws_eqInsS.T6.2 laws_eqInsS.B6=true:=by kernel_rfl
theorem laws_eqInsS.calls (k:Nat) (A0:Option Addr) (c0:Nat) (l0:List (S103)) (A1:Option Addr) (c1:Nat) (l1:List (S103)) (r:Bool) (w:World) (hr0:Kd.C k103 w A0 l0.length l0) (hc0:l0.length≤c0) (hr1:Kd.C k103 w A1 l1.length l1) (hc1:l1.length≤c1) (h:laws_eqInsS.f k l0 l1=some r):
  Calls Try.prog 70 #[.slice A0 l0.length c0,.slice A1 l1.length c1] w fun e w'=>e=.returned (.bool r)∧Below w.heap.size w w':=by
 have hu103:=Try.underlying103
 have HR0:=A_ hr0
 have HC0:=A_ hc0
 clear hr0 hc0
 have HR1:=A_ hr1
 have HC1:=A_ hc1
 clear hr1 hc1
 have HB:=A_ (Below.refl w.heap.size w)
 have H:(if (l0.length:Int)=(l1.length:Int) then (laws_eqInsS.l0 k l0 l1 0) else (some false))=some r:=h
 clear h
 by_cases c3:(l0.length:Int)=(l1.length:Int)
 ·
  rw[if_pos c3] at H
  obtain⟨c3b0,c3b1⟩:=eT_ c3
  have c3b2:(l0.length==l1.length)=true:=by first|simpa using c3|(simp at c3 ⊢;omega)
  clear c3
  have H':=A_ H
  clear H
  go_enter Try.func70,Try.ntmps70
  go_wp2
  (try simp only[Act.put,List.setIfInBounds_toArray,List.set_cons_zero,List.set_cons_succ])
  go_loopg [5] k (fun kq v5 w'=>∃ (x5_1:Int),v5=.int .i64 x5_1∧Aside0 (laws_eqInsS.l0 kq l0 l1 x5_1=some r)∧Aside0 (kq≤k)∧Aside0 (Below w.heap.size w w'))
  case atStart=>exact⟨(0),rs_,H',⟨Nat.le_refl _⟩,⟨bw HB.out⟩⟩
  case round=>
   clear H'
   try clear c1 c3 c3b0 c3b1 c3b2
   obtain⟨x5_1,rfl,HA,HK1,HB⟩:=hrel
   cases gk with
   |zero=>exact absurd HA.out (by simp[laws_eqInsS.l0])
   |succ k1=>
    have H:=HA.out
    clear HA
    simp only[laws_eqInsS.l0] at H
    revert H
    refine iL_ (fun c4b0 H=>?_) (fun c4b0 H=>?_)
    ·
     replace H:=id_ H
     obtain⟨c5b0,H⟩:=H
     replace H:=id_ H
     obtain⟨c6b0,H⟩:=H
     replace H:=bA_ H
     obtain⟨t445,A7,H⟩:=H
     revert H
     refine iB_ (fun c8 H=>?_) (fun c8 H=>?_)<;>subst c8
     ·
      have H':=A_ H
      clear H
      try go_wp2
      have n0_:=A_ (below_drew1 HB.out)
      clear HB
      have HB:=n0_
      clear n0_
      have p443:0≤(x5_1:Int):=od_
      have q443:x5_1<(l0.length:Int):=od_
      obtain⟨ad443,e443,hx443_0,hx443_1⟩:=at_T103 HR0.out x5_1 p443 q443
      have hw443_1:=hx443_1
      have hw443_0:=hx443_0
      cases e443
      replace hx443_0:=cl_ HB.out hx443_0
      replace hx443_1:=cl_ HB.out hx443_1
      replace p443:=eq_true p443
      replace q443:=eq_true q443
      have p444:0≤(x5_1:Int):=od_
      have q444:x5_1<(l1.length:Int):=od_
      obtain⟨ad444,e444,hx444_0,hx444_1⟩:=at_T103 HR1.out x5_1 p444 q444
      have hw444_1:=hx444_1
      have hw444_0:=hx444_0
      cases e444
      replace hx444_0:=cl_ HB.out hx444_0
      replace hx444_1:=cl_ HB.out hx444_1
      replace p444:=eq_true p444
      replace q444:=eq_true q444
      refine sS 10 (fun w'=>w'.cell? (ad443.add ((x5_1).toNat*2))=some (.int .i64 ((rd_T103 l0 x5_1).f0))∧w'.cell? ⟨(ad443.add ((x5_1).toNat*2)).block,(ad443.add ((x5_1).toNat*2)).off+1,none⟩=some (.int .i64 ((rd_T103 l0 x5_1).f1))∧w'.cell? (ad444.add ((x5_1).toNat*2))=some (.int .i64 ((rd_T103 l1 x5_1).f0))∧w'.cell? ⟨(ad444.add ((x5_1).toNat*2)).block,(ad444.add ((x5_1).toNat*2)).off+1,none⟩=some (.int .i64 ((rd_T103 l1 x5_1).f1))) [] ⟨(ce_ HB hw443_0),(ce_ HB hw443_1),(ce_ HB hw444_0),(ce_ HB hw444_1)⟩ laws_eqInsS.tab6 laws_eqInsS.bits6 (fun hHeld HT_ HW_=>?_)
      generalize wr.drew=w9 at HB hx443_0 hx443_1 hx444_0 hx444_1 hHeld ⊢
      refine pS HT_ 0 17 ?_
      refine pS HT_ 1 18 ?_
      refine pS HT_ 2 19 ?_
      refine pS HT_ 4 21 ?_
      refine pS HT_ 5 22 ?_
      refine pS HT_ 6 23 ?_
      refine tS HT_ HW_ 3 20 hHeld ?_
      refine tS HT_ HW_ 7 24 hHeld ?_
      refine oS HT_ 8 (some 25) (fun K hK=>?_)
      refine goes_ Try.func92 (by kernel_rfl) rfl #[.agg #[.int .i64 ((rd_T103 l0 x5_1).f0),.int .i64 ((rd_T103 l0 x5_1).f1)],.agg #[.int .i64 ((rd_T103 l1 x5_1).f0),.int .i64 ((rd_T103 l1 x5_1).f1)]] (by rfl) rfl rfl ar ?_
      with_reducible refine(laws_eqIns.calls ((rd_T103 l0 x5_1).f0) ((rd_T103 l0 x5_1).f1) ((rd_T103 l1 x5_1).f0) ((rd_T103 l1 x5_1).f1) true _ A7.out).mono ?_
      rintro e w10 ⟨rfl,hb⟩
      refine⟨_,rfl,?_⟩
      have n0_:=A_ (below_step (bw HB.out) hb)
      clear HB
      have HB:=n0_
      clear n0_
      (try clear hb)
      (try clear hb2)
      (try clear hk)
      (try clear hi)
      refine hK.out _ _ ⟨(ce_ HB hw443_0),(ce_ HB hw443_1),(ce_ HB hw444_0),(ce_ HB hw444_1)⟩ (fun hHeld=>?_)
      clear hK K
      refine nS (some 25) ?_
      refine pS HT_ 9 26 ?_
      refine dS HT_ ?_
      try go_wp2
      go_roundg k1
      case measure=>have:=HK1.out;omega
      case rel=>exact⟨(wrap64 (x5_1+1)),rs_,H',⟨by have:=HK1.out;omega⟩,⟨bw HB.out⟩⟩
     obtain rfl:=Option.some.inj H
     clear H
     try go_wp2
     have n0_:=A_ (below_drew1 HB.out)
     clear HB
     have HB:=n0_
     clear n0_
     have p443:0≤(x5_1:Int):=od_
     have q443:x5_1<(l0.length:Int):=od_
     obtain⟨ad443,e443,hx443_0,hx443_1⟩:=at_T103 HR0.out x5_1 p443 q443
     have hw443_1:=hx443_1
     have hw443_0:=hx443_0
     cases e443
     replace hx443_0:=cl_ HB.out hx443_0
     replace hx443_1:=cl_ HB.out hx443_1
     replace p443:=eq_true p443
     replace q443:=eq_true q443
     have p444:0≤(x5_1:Int):=od_
     have q444:x5_1<(l1.length:Int):=od_
     obtain⟨ad444,e444,hx444_0,hx444_1⟩:=at_T103 HR1.out x5_1 p444 q444
     have hw444_1:=hx444_1
     have hw444_0:=hx444_0
     cases e444
     replace hx444_0:=cl_ HB.out hx444_0
     replace hx444_1:=cl_ HB.out hx444_1
     replace p444:=eq_true p444
     replace q444:=eq_true q444
     refine sS 10 (fun w'=>w'.cell? (ad443.add ((x5_1).toNat*2))=some (.int .i64 ((rd_T103 l0 x5_1).f0))∧w'.cell? ⟨(ad443.add ((x5_1).toNat*2)).block,(ad443.add ((x5_1).toNat*2)).off+1,none⟩=some (.int .i64 ((rd_T103 l0 x5_1).f1))∧w'.cell? (ad444.add ((x5_1).toNat*2))=some (.int .i64 ((rd_T103 l1 x5_1).f0))∧w'.cell? ⟨(ad444.add ((x5_1).toNat*2)).block,(ad444.add ((x5_1).toNat*2)).off+1,none⟩=some (.int .i64 ((rd_T103 l1 x5_1).f1))) [] ⟨(ce_ HB hw443_0),(ce_ HB hw443_1),(ce_ HB hw444_0),(ce_ HB hw444_1)⟩ laws_eqInsS.tab6 laws_eqInsS.bits6 (fun hHeld HT_ HW_=>?_)
     generalize wr.drew=w11 at HB hx443_0 hx443_1 hx444_0 hx444_1 hHeld ⊢
     refine pS HT_ 0 17 ?_
     refine pS HT_ 1 18 ?_
     refine pS HT_ 2 19 ?_
     refine pS HT_ 4 21 ?_
     refine pS HT_ 5 22 ?_
     refine pS HT_ 6 23 ?_
     refine tS HT_ HW_ 3 20 hHeld ?_
     refine tS HT_ HW_ 7 24 hHeld ?_
     refine oS HT_ 8 (some 25) (fun K hK=>?_)
     refine goes_ Try.func92 (by kernel_rfl) rfl #[.agg #[.int .i64 ((rd_T103 l0 x5_1).f0),.int .i64 ((rd_T103 l0 x5_1).f1)],.agg #[.int .i64 ((rd_T103 l1 x5_1).f0),.int .i64 ((rd_T103 l1 x5_1).f1)]] (by rfl) rfl rfl ar ?_
     with_reducible refine(laws_eqIns.calls ((rd_T103 l0 x5_1).f0) ((rd_T103 l0 x5_1).f1) ((rd_T103 l1 x5_1).f0) ((rd_T103 l1 x5_1).f1) false _ A7.out).mono ?_
     rintro e w12 ⟨rfl,hb⟩
     refine⟨_,rfl,?_⟩
     have n0_:=A_ (below_step (bw HB.out) hb)
     clear HB
     have HB:=n0_
     clear n0_
     (try clear hb)
     (try clear hb2)
     (try clear hk)
     (try clear hi)
     refine hK.out _ _ ⟨(ce_ HB hw443_0),(ce_ HB hw443_1),(ce_ HB hw444_0),(ce_ HB hw444_1)⟩ (fun hHeld=>?_)
     clear hK K
     refine nS (some 25) ?_
     refine pS HT_ 9 26 ?_
     refine dS HT_ ?_
     try go_wp2
     go_ret
     exact⟨rr_,bw HB.out⟩
    obtain rfl:=Option.some.inj H
    clear H
    go_wp2
    go_ret
    exact⟨rr_,bw HB.out⟩
 rw[if_neg c3] at H
 obtain⟨c3b0,c3b1⟩:=eF_ c3
 have c3b2:(l0.length==l1.length)=false:=by first|simpa using c3|(simp at c3 ⊢;omega)
 obtain rfl:=Option.some.inj H
 clear H
 go_enter Try.func70,Try.ntmps70
 go_wp2
 go_ret
 exact⟨rr_,bw HB.out⟩

/-! ### laws_eqFunc: function 49 -/
def laws_eqFunc.f (k:Nat) (l0_0:List Int) (a0_1:Int) (l0_2:List Int) (l0_3:List (S103)) (l1_0:List Int) (a1_1:Int) (l1_2:List Int) (l1_3:List (S103)):Option (Bool):=(laws_eqIntS.f k l0_0 l1_0).bind fun t448=>(if t448=true then (if a0_1=a1_1 then ((laws_eqIntS.f k l0_2 l1_2).bind fun t449=>(if t449=true then ((laws_eqInsS.f k l0_3 l1_3).bind fun t450=>(if t450=true then (some true) else (some false))) else (some false))) else (some false)) else (some false))
theorem laws_eqFunc.calls (k:Nat) (A0_0:Option Addr) (c0_0:Nat) (l0_0:List Int) (a0_1:Int) (A0_2:Option Addr) (c0_2:Nat) (l0_2:List Int) (A0_3:Option Addr) (c0_3:Nat) (l0_3:List (S103)) (A1_0:Option Addr) (c1_0:Nat) (l1_0:List Int) (a1_1:Int) (A1_2:Option Addr) (c1_2:Nat) (l1_2:List Int) (A1_3:Option Addr) (c1_3:Nat) (l1_3:List (S103)) (r:Bool) (w:World) (hr0_0:Kd.C (Kd.int .i64) w A0_0 l0_0.length l0_0) (hc0_0:l0_0.length≤c0_0) (hr0_2:Kd.C (Kd.int .i64) w A0_2 l0_2.length l0_2) (hc0_2:l0_2.length≤c0_2) (hr0_3:Kd.C k103 w A0_3 l0_3.length l0_3) (hc0_3:l0_3.length≤c0_3) (hr1_0:Kd.C (Kd.int .i64) w A1_0 l1_0.length l1_0) (hc1_0:l1_0.length≤c1_0) (hr1_2:Kd.C (Kd.int .i64) w A1_2 l1_2.length l1_2) (hc1_2:l1_2.length≤c1_2) (hr1_3:Kd.C k103 w A1_3 l1_3.length l1_3) (hc1_3:l1_3.length≤c1_3) (h:laws_eqFunc.f k l0_0 a0_1 l0_2 l0_3 l1_0 a1_1 l1_2 l1_3=some r):
  Calls Try.prog 49 #[.agg #[.slice A0_0 l0_0.length c0_0,.int .i64 a0_1,.slice A0_2 l0_2.length c0_2,.slice A0_3 l0_3.length c0_3],.agg #[.slice A1_0 l1_0.length c1_0,.int .i64 a1_1,.slice A1_2 l1_2.length c1_2,.slice A1_3 l1_3.length c1_3]] w fun e w'=>e=.returned (.bool r)∧Below w.heap.size w w':=by
 have hu88:=Try.underlying88
 have HR0_0:=A_ hr0_0
 have HC0_0:=A_ hc0_0
 clear hr0_0 hc0_0
 have HR0_2:=A_ hr0_2
 have HC0_2:=A_ hc0_2
 clear hr0_2 hc0_2
 have HR0_3:=A_ hr0_3
 have HC0_3:=A_ hc0_3
 clear hr0_3 hc0_3
 have HR1_0:=A_ hr1_0
 have HC1_0:=A_ hc1_0
 clear hr1_0 hc1_0
 have HR1_2:=A_ hr1_2
 have HC1_2:=A_ hc1_2
 clear hr1_2 hc1_2
 have HR1_3:=A_ hr1_3
 have HC1_3:=A_ hc1_3
 clear hr1_3 hc1_3
 have HB:=A_ (Below.refl w.heap.size w)
 have H:((laws_eqIntS.f k l0_0 l1_0).bind fun t448=>(if t448=true then (if a0_1=a1_1 then ((laws_eqIntS.f k l0_2 l1_2).bind fun t449=>(if t449=true then ((laws_eqInsS.f k l0_3 l1_3).bind fun t450=>(if t450=true then (some true) else (some false))) else (some false))) else (some false)) else (some false)))=some r:=h
 clear h
 replace H:=bA_ H
 obtain⟨t448,A3,H⟩:=H
 revert H
 refine iB_ (fun c4 H=>?_) (fun c4 H=>?_)<;>subst c4
 revert H
 refine iE_ (fun c5b0 c5b1 H=>?_) (fun c5 c5b0 c5b1 H=>?_)
 replace H:=bA_ H
 obtain⟨t449,A6,H⟩:=H
 revert H
 refine iB_ (fun c7 H=>?_) (fun c7 H=>?_)<;>subst c7
 replace H:=bA_ H
 obtain⟨t450,A8,H⟩:=H
 revert H
 refine iB_ (fun c9 H=>?_) (fun c9 H=>?_)<;>subst c9
 all_goals
  obtain rfl:=Option.some.inj H
  clear H
  go_enter Try.func49,Try.ntmps49
  go_wp2_with (first|((with_reducible refine gd_ 2 rfl ?_);refine bx_ #[.slice A0_0 l0_0.length c0_0,.int .i64 a0_1,.slice A0_2 l0_2.length c0_2,.slice A0_3 l0_3.length c0_3] 88 ?_;intro gb446 hg w10 hbox hb;have BK446:=A_ hbox;have GW446:=gw_ hg HB;have GE446:=GW446;replace HB:=bs_ HB hb;clear hb hbox hg)|((with_reducible refine gd_ 3 rfl ?_);refine bx_ #[.slice A1_0 l1_0.length c1_0,.int .i64 a1_1,.slice A1_2 l1_2.length c1_2,.slice A1_3 l1_3.length c1_3] 88 ?_;intro gb447 hg w11 hbox hb;have BK447:=A_ hbox;have GW447:=gw_ hg HB;have GE447:=GW447;obtain⟨NB446_447,NB447_446⟩:=nb_ BK446 hg;replace BK446:=kb_ BK446 hb;replace HB:=bs_ HB hb;clear hb hbox hg;have hnb12:=NB446_447.out;have hnc12:=NB447_446.out;obtain⟨hcz13_0,hcz13_1,hcz13_2,hcz13_3⟩:=cs4_ BK446.out;obtain⟨hfz13_0,hfz13_1,hfz13_2,hfz13_3⟩:=fz4_ BK446.out;obtain⟨hcz14_0,hcz14_1,hcz14_2,hcz14_3⟩:=cs4_ BK447.out;obtain⟨hfz14_0,hfz14_1,hfz14_2,hfz14_3⟩:=fz4_ BK447.out)|((with_reducible refine gc_ 69 rfl ?_);refine gn_ (some 9) Try.func69 (laws_eqIntS.calls k _ _ l0_0 _ _ l1_0 true _ (cb_ HR0_0 HB) HC0_0.out (cb_ HR1_0 HB) HC1_0.out A3.out) ?_;intro nd)|((with_reducible refine gc_ 69 rfl ?_);refine gn_ (some 20) Try.func69 (laws_eqIntS.calls k _ _ l0_2 _ _ l1_2 true _ (cb_ HR0_2 HB) HC0_2.out (cb_ HR1_2 HB) HC1_2.out A6.out) ?_;intro nd)|((with_reducible refine gc_ 70 rfl ?_);refine gm_ (some 26) Try.func70 (laws_eqInsS.calls k _ _ l0_3 _ _ l1_3 true _ (cb_ HR0_3 HB) HC0_3.out (cb_ HR1_3 HB) HC1_3.out A8.out) ?_;intro w15 hb;replace BK446:=kb_ BK446 hb;replace BK447:=kb_ BK447 hb;replace HB:=bs_ HB hb;(try clear hb))|((with_reducible refine gc_ 70 rfl ?_);refine gm_ (some 26) Try.func70 (laws_eqInsS.calls k _ _ l0_3 _ _ l1_3 false _ (cb_ HR0_3 HB) HC0_3.out (cb_ HR1_3 HB) HC1_3.out A8.out) ?_;intro w15 hb;replace BK446:=kb_ BK446 hb;replace BK447:=kb_ BK447 hb;replace HB:=bs_ HB hb;(try clear hb))|((with_reducible refine gc_ 69 rfl ?_);refine gn_ (some 20) Try.func69 (laws_eqIntS.calls k _ _ l0_2 _ _ l1_2 false _ (cb_ HR0_2 HB) HC0_2.out (cb_ HR1_2 HB) HC1_2.out A6.out) ?_;intro nd)|((with_reducible refine gc_ 69 rfl ?_);refine gn_ (some 9) Try.func69 (laws_eqIntS.calls k _ _ l0_0 _ _ l1_0 false _ (cb_ HR0_0 HB) HC0_0.out (cb_ HR1_0 HB) HC1_0.out A3.out) ?_;intro nd))
  go_ret
  exact⟨rr_,bw HB.out⟩

/-! ### laws_eqFuncS: function 33 -/
def laws_eqFuncS.l0:Nat→List (S88)→List (S88)→Int→Option (Bool)
 |0,_,_,_=>none
 |k+1,x0,x1,x5=>if x5<(x0.length:Int) then (if 0≤x5 then (if x5<(x1.length:Int) then ((laws_eqFunc.f k ((rd_T88 x0 x5).f0) ((rd_T88 x0 x5).f1) ((rd_T88 x0 x5).f2) ((rd_T88 x0 x5).f3) ((rd_T88 x1 x5).f0) ((rd_T88 x1 x5).f1) ((rd_T88 x1 x5).f2) ((rd_T88 x1 x5).f3)).bind fun t453=>(if t453=true then (laws_eqFuncS.l0 k x0 x1 (wrap64 (x5+1))) else (some false))) else (none)) else (none)) else (some true)
def laws_eqFuncS.f (k:Nat) (l0:List (S88)) (l1:List (S88)):Option (Bool):=if (l0.length:Int)=(l1.length:Int) then (laws_eqFuncS.l0 k l0 l1 0) else (some false)
def laws_eqFuncS.T6:Bool × List (List Nat × List Nat):=(true,[([],[]),([],[]),([0,1],[0,1]),([2],[2]),([],[]),([],[]),([4,5],[4,5]),([6],[6]),([3,7],[3,7]),([8],[8])])
def laws_eqFuncS.B6:List Nat:=[0,0,3,7,0,0,48,112,255,511]
theorem laws_eqFuncS.tab6:rtab .any (opsOf Try.f33 6)=laws_eqFuncS.T6:=by kernel_rfl
theorem laws_eqFuncS.bits6:waitsOk laws_eqFuncS.T6.2 laws_eqFuncS.B6=true:=by kernel_rfl
theorem laws_eqFuncS.calls (k:Nat) (A0:Option Addr) (c0:Nat) (l0:List (S88)) (A1:Option Addr) (c1:Nat) (l1:List (S88)) (r:Bool) (w:World) (hr0:Kd.C k88 w A0 l0.length l0) (hc0:l0.length≤c0) (hr1:Kd.C k88 w A1 l1.length l1) (hc1:l1.length≤c1) (h:laws_eqFuncS.f k l0 l1=some r):
  Calls Try.prog 33 #[.slice A0 l0.length c0,.slice A1 l1.length c1] w fun e w'=>e=.returned (.bool r)∧Below w.heap.size w w':=by
 have hu88:=Try.underlying88
 have HR0:=A_ hr0
 have HC0:=A_ hc0
 clear hr0 hc0
 have HR1:=A_ hr1
 have HC1:=A_ hc1
 clear hr1 hc1
 have HB:=A_ (Below.refl w.heap.size w)
 have H:(if (l0.length:Int)=(l1.length:Int) then (laws_eqFuncS.l0 k l0 l1 0) else (some false))=some r:=h
 clear h
 by_cases c3:(l0.length:Int)=(l1.length:Int)
 ·
  rw[if_pos c3] at H
  obtain⟨c3b0,c3b1⟩:=eT_ c3
  have c3b2:(l0.length==l1.length)=true:=by first|simpa using c3|(simp at c3 ⊢;omega)
  clear c3
  have H':=A_ H
  clear H
  go_enter Try.func33,Try.ntmps33
  go_wp2
  (try simp only[Act.put,List.setIfInBounds_toArray,List.set_cons_zero,List.set_cons_succ])
  go_loopg [5] k (fun kq v5 w'=>∃ (x5_1:Int),v5=.int .i64 x5_1∧Aside0 (laws_eqFuncS.l0 kq l0 l1 x5_1=some r)∧Aside0 (kq≤k)∧Aside0 (Below w.heap.size w w'))
  case atStart=>exact⟨(0),rs_,H',⟨Nat.le_refl _⟩,⟨bw HB.out⟩⟩
  case round=>
   clear H'
   try clear c1 c3 c3b0 c3b1 c3b2
   obtain⟨x5_1,rfl,HA,HK1,HB⟩:=hrel
   cases gk with
   |zero=>exact absurd HA.out (by simp[laws_eqFuncS.l0])
   |succ k1=>
    have H:=HA.out
    clear HA
    simp only[laws_eqFuncS.l0] at H
    revert H
    refine iL_ (fun c4b0 H=>?_) (fun c4b0 H=>?_)
    ·
     replace H:=id_ H
     obtain⟨c5b0,H⟩:=H
     replace H:=id_ H
     obtain⟨c6b0,H⟩:=H
     replace H:=bA_ H
     obtain⟨t453,A7,H⟩:=H
     revert H
     refine iB_ (fun c8 H=>?_) (fun c8 H=>?_)<;>subst c8
     ·
      have H':=A_ H
      clear H
      try go_wp2
      have n0_:=A_ (below_drew1 HB.out)
      clear HB
      have HB:=n0_
      clear n0_
      have p451:0≤(x5_1:Int):=od_
      have q451:x5_1<(l0.length:Int):=od_
      obtain⟨ad451,A451_0,c451_0,A451_2,c451_2,A451_3,c451_3,e451,hx451_0,hx451_1,hx451_2,hx451_3,hl451_0,hi451_0,hl451_2,hi451_2,hl451_3,hi451_3⟩:=at_T88 HR0.out x5_1 p451 q451
      have hw451_3:=hx451_3
      have hw451_2:=hx451_2
      have hw451_1:=hx451_1
      have hw451_0:=hx451_0
      cases e451
      replace hx451_0:=cl_ HB.out hx451_0
      replace hx451_1:=cl_ HB.out hx451_1
      replace hx451_2:=cl_ HB.out hx451_2
      replace hx451_3:=cl_ HB.out hx451_3
      have HR451_0:=A_ hi451_0
      have HC451_0:=A_ hl451_0
      clear hi451_0 hl451_0
      have HR451_2:=A_ hi451_2
      have HC451_2:=A_ hl451_2
      clear hi451_2 hl451_2
      have HR451_3:=A_ hi451_3
      have HC451_3:=A_ hl451_3
      clear hi451_3 hl451_3
      replace p451:=eq_true p451
      replace q451:=eq_true q451
      have p452:0≤(x5_1:Int):=od_
      have q452:x5_1<(l1.length:Int):=od_
      obtain⟨ad452,A452_0,c452_0,A452_2,c452_2,A452_3,c452_3,e452,hx452_0,hx452_1,hx452_2,hx452_3,hl452_0,hi452_0,hl452_2,hi452_2,hl452_3,hi452_3⟩:=at_T88 HR1.out x5_1 p452 q452
      have hw452_3:=hx452_3
      have hw452_2:=hx452_2
      have hw452_1:=hx452_1
      have hw452_0:=hx452_0
      cases e452
      replace hx452_0:=cl_ HB.out hx452_0
      replace hx452_1:=cl_ HB.out hx452_1
      replace hx452_2:=cl_ HB.out hx452_2
      replace hx452_3:=cl_ HB.out hx452_3
      have HR452_0:=A_ hi452_0
      have HC452_0:=A_ hl452_0
      clear hi452_0 hl452_0
      have HR452_2:=A_ hi452_2
      have HC452_2:=A_ hl452_2
      clear hi452_2 hl452_2
      have HR452_3:=A_ hi452_3
      have HC452_3:=A_ hl452_3
      clear hi452_3 hl452_3
      replace p452:=eq_true p452
      replace q452:=eq_true q452
      refine sS 10 (fun w'=>w'.cell? (ad451.add ((x5_1).toNat*4))=some (.slice A451_0 ((rd_T88 l0 x5_1).f0).length c451_0)∧w'.cell? ⟨(ad451.add ((x5_1).toNat*4)).block,(ad451.add ((x5_1).toNat*4)).off+1,none⟩=some (.int .i64 ((rd_T88 l0 x5_1).f1))∧w'.cell? ⟨(ad451.add ((x5_1).toNat*4)).block,(ad451.add ((x5_1).toNat*4)).off+2,none⟩=some (.slice A451_2 ((rd_T88 l0 x5_1).f2).length c451_2)∧w'.cell? ⟨(ad451.add ((x5_1).toNat*4)).block,(ad451.add ((x5_1).toNat*4)).off+3,none⟩=some (.slice A451_3 ((rd_T88 l0 x5_1).f3).length c451_3)∧w'.cell? (ad452.add ((x5_1).toNat*4))=some (.slice A452_0 ((rd_T88 l1 x5_1).f0).length c452_0)∧w'.cell? ⟨(ad452.add ((x5_1).toNat*4)).block,(ad452.add ((x5_1).toNat*4)).off+1,none⟩=some (.int .i64 ((rd_T88 l1 x5_1).f1))∧w'.cell? ⟨(ad452.add ((x5_1).toNat*4)).block,(ad452.add ((x5_1).toNat*4)).off+2,none⟩=some (.slice A452_2 ((rd_T88 l1 x5_1).f2).length c452_2)∧w'.cell? ⟨(ad452.add ((x5_1).toNat*4)).block,(ad452.add ((x5_1).toNat*4)).off+3,none⟩=some (.slice A452_3 ((rd_T88 l1 x5_1).f3).length c452_3)) [] ⟨(ce_ HB hw451_0),(ce_ HB hw451_1),(ce_ HB hw451_2),(ce_ HB hw451_3),(ce_ HB hw452_0),(ce_ HB hw452_1),(ce_ HB hw452_2),(ce_ HB hw452_3)⟩ laws_eqFuncS.tab6 laws_eqFuncS.bits6 (fun hHeld HT_ HW_=>?_)
      generalize wr.drew=w9 at HB HR451_0 HR451_2 HR451_3 HR452_0 HR452_2 HR452_3 hx451_0 hx451_1 hx451_2 hx451_3 hx452_0 hx452_1 hx452_2 hx452_3 hHeld ⊢
      refine pS HT_ 0 17 ?_
      refine pS HT_ 1 18 ?_
      refine pS HT_ 2 19 ?_
      refine pS HT_ 4 21 ?_
      refine pS HT_ 5 22 ?_
      refine pS HT_ 6 23 ?_
      refine tS HT_ HW_ 3 20 hHeld ?_
      refine tS HT_ HW_ 7 24 hHeld ?_
      refine oS HT_ 8 (some 25) (fun K hK=>?_)
      refine goes_ Try.func49 (by kernel_rfl) rfl #[.agg #[.slice A451_0 ((rd_T88 l0 x5_1).f0).length c451_0,.int .i64 ((rd_T88 l0 x5_1).f1),.slice A451_2 ((rd_T88 l0 x5_1).f2).length c451_2,.slice A451_3 ((rd_T88 l0 x5_1).f3).length c451_3],.agg #[.slice A452_0 ((rd_T88 l1 x5_1).f0).length c452_0,.int .i64 ((rd_T88 l1 x5_1).f1),.slice A452_2 ((rd_T88 l1 x5_1).f2).length c452_2,.slice A452_3 ((rd_T88 l1 x5_1).f3).length c452_3]] (by rfl) rfl rfl ar ?_
      with_reducible refine(laws_eqFunc.calls k1 _ _ ((rd_T88 l0 x5_1).f0) ((rd_T88 l0 x5_1).f1) _ _ ((rd_T88 l0 x5_1).f2) _ _ ((rd_T88 l0 x5_1).f3) _ _ ((rd_T88 l1 x5_1).f0) ((rd_T88 l1 x5_1).f1) _ _ ((rd_T88 l1 x5_1).f2) _ _ ((rd_T88 l1 x5_1).f3) true _ ?side1 ?side2 ?side3 ?side4 ?side5 ?side6 ?side7 ?side8 ?side9 ?side10 ?side11 ?side12 A7.out).mono ?_
      (case side1=>repeat (first|exact(Kd.C_below HR451_0.out HB.out)|(with_reducible refine Kd.C_alloc ?_ _)|(with_reducible refine Kd.C_drewN ?_ _)|(with_reducible refine Kd.C_drew ?_)))
      (case side2=>exact HC451_0.out)
      (case side3=>repeat (first|exact(Kd.C_below HR451_2.out HB.out)|(with_reducible refine Kd.C_alloc ?_ _)|(with_reducible refine Kd.C_drewN ?_ _)|(with_reducible refine Kd.C_drew ?_)))
      (case side4=>exact HC451_2.out)
      (case side5=>repeat (first|exact(Kd.C_below HR451_3.out HB.out)|(with_reducible refine Kd.C_alloc ?_ _)|(with_reducible refine Kd.C_drewN ?_ _)|(with_reducible refine Kd.C_drew ?_)))
      (case side6=>exact HC451_3.out)
      (case side7=>repeat (first|exact(Kd.C_below HR452_0.out HB.out)|(with_reducible refine Kd.C_alloc ?_ _)|(with_reducible refine Kd.C_drewN ?_ _)|(with_reducible refine Kd.C_drew ?_)))
      (case side8=>exact HC452_0.out)
      (case side9=>repeat (first|exact(Kd.C_below HR452_2.out HB.out)|(with_reducible refine Kd.C_alloc ?_ _)|(with_reducible refine Kd.C_drewN ?_ _)|(with_reducible refine Kd.C_drew ?_)))
      (case side10=>exact HC452_2.out)
      (case side11=>repeat (first|exact(Kd.C_below HR452_3.out HB.out)|(with_reducible refine Kd.C_alloc ?_ _)|(with_reducible refine Kd.C_drewN ?_ _)|(with_reducible refine Kd.C_drew ?_)))
      (case side12=>exact HC452_3.out)
      rintro e w10 ⟨rfl,hb⟩
      refine⟨_,rfl,?_⟩
      have n0_:=A_ (below_step (bw HB.out) hb)
      clear HB
      have HB:=n0_
      clear n0_
      (try clear hb)
      (try clear hb2)
      (try clear hk)
      (try clear hi)
      refine hK.out _ _ ⟨(ce_ HB hw451_0),(ce_ HB hw451_1),(ce_ HB hw451_2),(ce_ HB hw451_3),(ce_ HB hw452_0),(ce_ HB hw452_1),(ce_ HB hw452_2),(ce_ HB hw452_3)⟩ (fun hHeld=>?_)
      clear hK K
      refine nS (some 25) ?_
      refine pS HT_ 9 26 ?_
      refine dS HT_ ?_
      try go_wp2
      go_roundg k1
      case measure=>have:=HK1.out;omega
      case rel=>exact⟨(wrap64 (x5_1+1)),rs_,H',⟨by have:=HK1.out;omega⟩,⟨bw HB.out⟩⟩
     obtain rfl:=Option.some.inj H
     clear H
     try go_wp2
     have n0_:=A_ (below_drew1 HB.out)
     clear HB
     have HB:=n0_
     clear n0_
     have p451:0≤(x5_1:Int):=od_
     have q451:x5_1<(l0.length:Int):=od_
     obtain⟨ad451,A451_0,c451_0,A451_2,c451_2,A451_3,c451_3,e451,hx451_0,hx451_1,hx451_2,hx451_3,hl451_0,hi451_0,hl451_2,hi451_2,hl451_3,hi451_3⟩:=at_T88 HR0.out x5_1 p451 q451
     have hw451_3:=hx451_3
     have hw451_2:=hx451_2
     have hw451_1:=hx451_1
     have hw451_0:=hx451_0
     cases e451
     replace hx451_0:=cl_ HB.out hx451_0
     replace hx451_1:=cl_ HB.out hx451_1
     replace hx451_2:=cl_ HB.out hx451_2
     replace hx451_3:=cl_ HB.out hx451_3
     have HR451_0:=A_ hi451_0
     have HC451_0:=A_ hl451_0
     clear hi451_0 hl451_0
     have HR451_2:=A_ hi451_2
     have HC451_2:=A_ hl451_2
     clear hi451_2 hl451_2
     have HR451_3:=A_ hi451_3
     have HC451_3:=A_ hl451_3
     clear hi451_3 hl451_3
     replace p451:=eq_true p451
     replace q451:=eq_true q451
     have p452:0≤(x5_1:Int):=od_
     have q452:x5_1<(l1.length:Int):=od_
     obtain⟨ad452,A452_0,c452_0,A452_2,c452_2,A452_3,c452_3,e452,hx452_0,hx452_1,hx452_2,hx452_3,hl452_0,hi452_0,hl452_2,hi452_2,hl452_3,hi452_3⟩:=at_T88 HR1.out x5_1 p452 q452
     have hw452_3:=hx452_3
     have hw452_2:=hx452_2
     have hw452_1:=hx452_1
     have hw452_0:=hx452_0
     cases e452
     replace hx452_0:=cl_ HB.out hx452_0
     replace hx452_1:=cl_ HB.out hx452_1
     replace hx452_2:=cl_ HB.out hx452_2
     replace hx452_3:=cl_ HB.out hx452_3
     have HR452_0:=A_ hi452_0
     have HC452_0:=A_ hl452_0
     clear hi452_0 hl452_0
     have HR452_2:=A_ hi452_2
     have HC452_2:=A_ hl452_2
     clear hi452_2 hl452_2
     have HR452_3:=A_ hi452_3
     have HC452_3:=A_ hl452_3
     clear hi452_3 hl452_3
     replace p452:=eq_true p452
     replace q452:=eq_true q452
     refine sS 10 (fun w'=>w'.cell? (ad451.add ((x5_1).toNat*4))=some (.slice A451_0 ((rd_T88 l0 x5_1).f0).length c451_0)∧w'.cell? ⟨(ad451.add ((x5_1).toNat*4)).block,(ad451.add ((x5_1).toNat*4)).off+1,none⟩=some (.int .i64 ((rd_T88 l0 x5_1).f1))∧w'.cell? ⟨(ad451.add ((x5_1).toNat*4)).block,(ad451.add ((x5_1).toNat*4)).off+2,none⟩=some (.slice A451_2 ((rd_T88 l0 x5_1).f2).length c451_2)∧w'.cell? ⟨(ad451.add ((x5_1).toNat*4)).block,(ad451.add ((x5_1).toNat*4)).off+3,none⟩=some (.slice A451_3 ((rd_T88 l0 x5_1).f3).length c451_3)∧w'.cell? (ad452.add ((x5_1).toNat*4))=some (.slice A452_0 ((rd_T88 l1 x5_1).f0).length c452_0)∧w'.cell? ⟨(ad452.add ((x5_1).toNat*4)).block,(ad452.add ((x5_1).toNat*4)).off+1,none⟩=some (.int .i64 ((rd_T88 l1 x5_1).f1))∧w'.cell? ⟨(ad452.add ((x5_1).toNat*4)).block,(ad452.add ((x5_1).toNat*4)).off+2,none⟩=some (.slice A452_2 ((rd_T88 l1 x5_1).f2).length c452_2)∧w'.cell? ⟨(ad452.add ((x5_1).toNat*4)).block,(ad452.add ((x5_1).toNat*4)).off+3,none⟩=some (.slice A452_3 ((rd_T88 l1 x5_1).f3).length c452_3)) [] ⟨(ce_ HB hw451_0),(ce_ HB hw451_1),(ce_ HB hw451_2),(ce_ HB hw451_3),(ce_ HB hw452_0),(ce_ HB hw452_1),(ce_ HB hw452_2),(ce_ HB hw452_3)⟩ laws_eqFuncS.tab6 laws_eqFuncS.bits6 (fun hHeld HT_ HW_=>?_)
     generalize wr.drew=w11 at HB HR451_0 HR451_2 HR451_3 HR452_0 HR452_2 HR452_3 hx451_0 hx451_1 hx451_2 hx451_3 hx452_0 hx452_1 hx452_2 hx452_3 hHeld ⊢
     refine pS HT_ 0 17 ?_
     refine pS HT_ 1 18 ?_
     refine pS HT_ 2 19 ?_
     refine pS HT_ 4 21 ?_
     refine pS HT_ 5 22 ?_
     refine pS HT_ 6 23 ?_
     refine tS HT_ HW_ 3 20 hHeld ?_
     refine tS HT_ HW_ 7 24 hHeld ?_
     refine oS HT_ 8 (some 25) (fun K hK=>?_)
     refine goes_ Try.func49 (by kernel_rfl) rfl #[.agg #[.slice A451_0 ((rd_T88 l0 x5_1).f0).length c451_0,.int .i64 ((rd_T88 l0 x5_1).f1),.slice A451_2 ((rd_T88 l0 x5_1).f2).length c451_2,.slice A451_3 ((rd_T88 l0 x5_1).f3).length c451_3],.agg #[.slice A452_0 ((rd_T88 l1 x5_1).f0).length c452_0,.int .i64 ((rd_T88 l1 x5_1).f1),.slice A452_2 ((rd_T88 l1 x5_1).f2).length c452_2,.slice A452_3 ((rd_T88 l1 x5_1).f3).length c452_3]] (by rfl) rfl rfl ar ?_
     with_reducible refine(laws_eqFunc.calls k1 _ _ ((rd_T88 l0 x5_1).f0) ((rd_T88 l0 x5_1).f1) _ _ ((rd_T88 l0 x5_1).f2) _ _ ((rd_T88 l0 x5_1).f3) _ _ ((rd_T88 l1 x5_1).f0) ((rd_T88 l1 x5_1).f1) _ _ ((rd_T88 l1 x5_1).f2) _ _ ((rd_T88 l1 x5_1).f3) false _ ?side1 ?side2 ?side3 ?side4 ?side5 ?side6 ?side7 ?side8 ?side9 ?side10 ?side11 ?side12 A7.out).mono ?_
     (case side1=>repeat (first|exact(Kd.C_below HR451_0.out HB.out)|(with_reducible refine Kd.C_alloc ?_ _)|(with_reducible refine Kd.C_drewN ?_ _)|(with_reducible refine Kd.C_drew ?_)))
     (case side2=>exact HC451_0.out)
     (case side3=>repeat (first|exact(Kd.C_below HR451_2.out HB.out)|(with_reducible refine Kd.C_alloc ?_ _)|(with_reducible refine Kd.C_drewN ?_ _)|(with_reducible refine Kd.C_drew ?_)))
     (case side4=>exact HC451_2.out)
     (case side5=>repeat (first|exact(Kd.C_below HR451_3.out HB.out)|(with_reducible refine Kd.C_alloc ?_ _)|(with_reducible refine Kd.C_drewN ?_ _)|(with_reducible refine Kd.C_drew ?_)))
     (case side6=>exact HC451_3.out)
     (case side7=>repeat (first|exact(Kd.C_below HR452_0.out HB.out)|(with_reducible refine Kd.C_alloc ?_ _)|(with_reducible refine Kd.C_drewN ?_ _)|(with_reducible refine Kd.C_drew ?_)))
     (case side8=>exact HC452_0.out)
     (case side9=>repeat (first|exact(Kd.C_below HR452_2.out HB.out)|(with_reducible refine Kd.C_alloc ?_ _)|(with_reducible refine Kd.C_drewN ?_ _)|(with_reducible refine Kd.C_drew ?_)))
     (case side10=>exact HC452_2.out)
     (case side11=>repeat (first|exact(Kd.C_below HR452_3.out HB.out)|(with_reducible refine Kd.C_alloc ?_ _)|(with_reducible refine Kd.C_drewN ?_ _)|(with_reducible refine Kd.C_drew ?_)))
     (case side12=>exact HC452_3.out)
     rintro e w12 ⟨rfl,hb⟩
     refine⟨_,rfl,?_⟩
     have n0_:=A_ (below_step (bw HB.out) hb)
     clear HB
     have HB:=n0_
     clear n0_
     (try clear hb)
     (try clear hb2)
     (try clear hk)
     (try clear hi)
     refine hK.out _ _ ⟨(ce_ HB hw451_0),(ce_ HB hw451_1),(ce_ HB hw451_2),(ce_ HB hw451_3),(ce_ HB hw452_0),(ce_ HB hw452_1),(ce_ HB hw452_2),(ce_ HB hw452_3)⟩ (fun hHeld=>?_)
     clear hK K
     refine nS (some 25) ?_
     refine pS HT_ 9 26 ?_
     refine dS HT_ ?_
     try go_wp2
     go_ret
     exact⟨rr_,bw HB.out⟩
    obtain rfl:=Option.some.inj H
    clear H
    go_wp2
    go_ret
    exact⟨rr_,bw HB.out⟩
 rw[if_neg c3] at H
 obtain⟨c3b0,c3b1⟩:=eF_ c3
 have c3b2:(l0.length==l1.length)=false:=by first|simpa using c3|(simp at c3 ⊢;omega)
 obtain rfl:=Option.some.inj H
 clear H
 go_enter Try.func33,Try.ntmps33
 go_wp2
 go_ret
 exact⟨rr_,bw HB.out⟩

/-! ### laws_eqGlobal: function 50 -/
def laws_eqGlobal.f (a0_0:Int) (a0_1:Bool) (a0_2:Int) (a1_0:Int) (a1_1:Bool) (a1_2:Int):Option (Bool):=if a0_0=a1_0 then (if (a0_1 !=a1_1)=true then (some false) else (if a0_2=a1_2 then (some true) else (some false))) else (some false)
theorem laws_eqGlobal.calls (a0_0:Int) (a0_1:Bool) (a0_2:Int) (a1_0:Int) (a1_1:Bool) (a1_2:Int) (r:Bool) (w:World) (h:laws_eqGlobal.f a0_0 a0_1 a0_2 a1_0 a1_1 a1_2=some r):
  Calls Try.prog 50 #[.agg #[.int .i64 a0_0,.bool a0_1,.int .u64 a0_2],.agg #[.int .i64 a1_0,.bool a1_1,.int .u64 a1_2]] w fun e w'=>e=.returned (.bool r)∧Below w.heap.size w w':=by
 have hu75:=Try.underlying75
 have HB:=A_ (Below.refl w.heap.size w)
 have H:(if a0_0=a1_0 then (if (a0_1 !=a1_1)=true then (some false) else (if a0_2=a1_2 then (some true) else (some false))) else (some false))=some r:=h
 clear h
 revert H
 refine iE_ (fun c3b0 c3b1 H=>?_) (fun c3 c3b0 c3b1 H=>?_)
 refine ic_ ((a0_1 !=a1_1)=true) (fun c4=>?pc4) (fun c4=>?nc4)
 case' pc4=>
  rw[if_pos c4] at H
  have c4b0:(a0_1 !=a1_1)=true:=c4
  (try (have c4b1:decide (a0_1=a1_1)=false:=by simpa using c4))
  (try (have c4b2:(a0_1==a1_1)=false:=by simpa using c4))
  (try (have c4b3:¬(a0_1=a1_1):=by simpa using c4))
  clear c4
 case' nc4=>
  rw[if_neg c4] at H
  have c4b0:(a0_1 !=a1_1)=false:=by simpa using c4
  (try (have c4b1:decide (a0_1=a1_1)=true:=by simpa using c4))
  (try (have c4b2:(a0_1==a1_1)=true:=by simpa using c4))
  clear c4
  revert H
  refine iE_ (fun c10b0 c10b1 H=>?_) (fun c10 c10b0 c10b1 H=>?_)
 all_goals
  obtain rfl:=Option.some.inj H
  clear H
  go_enter Try.func50,Try.ntmps50
  go_wp2_with (first|((with_reducible refine gd_ 2 rfl ?_);refine bx_ #[.int .i64 a0_0,.bool a0_1,.int .u64 a0_2] 75 ?_;intro gb454 hg w5 hbox hb;have BK454:=A_ hbox;have GW454:=gw_ hg HB;have GE454:=GW454;replace HB:=bs_ HB hb;clear hb hbox hg)|((with_reducible refine gd_ 3 rfl ?_);refine bx_ #[.int .i64 a1_0,.bool a1_1,.int .u64 a1_2] 75 ?_;intro gb455 hg w6 hbox hb;have BK455:=A_ hbox;have GW455:=gw_ hg HB;have GE455:=GW455;obtain⟨NB454_455,NB455_454⟩:=nb_ BK454 hg;replace BK454:=kb_ BK454 hb;replace HB:=bs_ HB hb;clear hb hbox hg;have hnb7:=NB454_455.out;have hnc7:=NB455_454.out;obtain⟨hcz8_0,hcz8_1,hcz8_2⟩:=cs3_ BK454.out;obtain⟨hfz8_0,hfz8_1,hfz8_2⟩:=fz3_ BK454.out;obtain⟨hcz9_0,hcz9_1,hcz9_2⟩:=cs3_ BK455.out;obtain⟨hfz9_0,hfz9_1,hfz9_2⟩:=fz3_ BK455.out))
  go_ret
  exact⟨rr_,bw HB.out⟩
end Go.Proofs.Ytanhbfhmgmjdgaa.Q

