-- Written by a program of this session; it walks the functions that the law reaches.
import Derived.Test.YtanhbfhmgmjdgaaQx0
import Derived.Test.YtanhbfhmgmjdgaaQx1
import Derived.Test.YtanhbfhmgmjdgaaQx12
import Derived.Test.YtanhbfhmgmjdgaaQx15
import Derived.Test.YtanhbfhmgmjdgaaQx25
import Derived.Test.YtanhbfhmgmjdgaaQx26
namespace Go.Proofs.Ytanhbfhmgmjdgaa.Q
open Go.RowKit Go.Proofs.YtanhbfhmgmjdgaaW.PrintWords Go.Proofs.YtanhbfhmgmjdgaaW.PrintLast Go.Proofs.YtanhbfhmgmjdgaaW.PrintMore
attribute [local go_sem] max2_int min2_int max_two min_two max_three min_three max_four min_four   -- for this text's walks alone
set_option linter.unusedVariables false
set_option linter.unusedSimpArgs false

/-! ### laws_FnExactGoodInstance: function 3 -/
def laws_FnExactGoodInstance.f (k:Nat) (l0_0:List (S84)) (l0_1:List (S91)) (a0_2:Bool) (a0_3:Int) (a0_4:Int) (a0_5:Int) (a0_6:Int) (a0_7:ByteArray) (l0_8:List (S93)) (a0_9:Bool) (a0_10:Int):Option (Bool):=(laws_szInstance.f k l0_0 l0_1 a0_2 a0_3 a0_4 a0_5 a0_6 a0_7 l0_8 a0_9 a0_10 1048576).bind fun t479=>(if t479<0 then (some true) else ((laws_toInstance.f k l0_0 l0_1 a0_2 a0_3 a0_4 a0_5 a0_6 a0_7 l0_8 a0_9 a0_10).bind fun bt480=>((spec_GoodInstance.f k bt480.1 bt480.2.1 bt480.2.2.1 bt480.2.2.2.1 bt480.2.2.2.2.1 bt480.2.2.2.2.2.1 bt480.2.2.2.2.2.2.1 bt480.2.2.2.2.2.2.2.1 bt480.2.2.2.2.2.2.2.2.1 bt480.2.2.2.2.2.2.2.2.2.1 bt480.2.2.2.2.2.2.2.2.2.2).bind fun t497=>((laws_toInstance.f k l0_0 l0_1 a0_2 a0_3 a0_4 a0_5 a0_6 a0_7 l0_8 a0_9 a0_10).bind fun bt498=>((impl_GoodInstance.f k bt498.1 bt498.2.1 bt498.2.2.1 bt498.2.2.2.1 bt498.2.2.2.2.1 bt498.2.2.2.2.2.1 bt498.2.2.2.2.2.2.1 bt498.2.2.2.2.2.2.2.1 bt498.2.2.2.2.2.2.2.2.1 bt498.2.2.2.2.2.2.2.2.2.1 bt498.2.2.2.2.2.2.2.2.2.2).bind fun t516=>(if (t516 !=t497)=true then (some false) else ((laws_toInstance.f k l0_0 l0_1 a0_2 a0_3 a0_4 a0_5 a0_6 a0_7 l0_8 a0_9 a0_10).bind fun bt517=>((laws_eqInstance.f k bt498.1 bt498.2.1 bt498.2.2.1 bt498.2.2.2.1 bt498.2.2.2.2.1 bt498.2.2.2.2.2.1 bt498.2.2.2.2.2.2.1 bt498.2.2.2.2.2.2.2.1 bt498.2.2.2.2.2.2.2.2.1 bt498.2.2.2.2.2.2.2.2.2.1 bt498.2.2.2.2.2.2.2.2.2.2 bt517.1 bt517.2.1 bt517.2.2.1 bt517.2.2.2.1 bt517.2.2.2.2.1 bt517.2.2.2.2.2.1 bt517.2.2.2.2.2.2.1 bt517.2.2.2.2.2.2.2.1 bt517.2.2.2.2.2.2.2.2.1 bt517.2.2.2.2.2.2.2.2.2.1 bt517.2.2.2.2.2.2.2.2.2.2).bind fun t534=>(if t534=true then (some true) else (some false))))))))))
set_option maxHeartbeats 8000000 in
set_option maxRecDepth 100000 in
theorem laws_FnExactGoodInstance.calls (k:Nat) (A0_0:Option Addr) (c0_0:Nat) (l0_0:List (S84)) (A0_1:Option Addr) (c0_1:Nat) (l0_1:List (S91)) (a0_2:Bool) (a0_3:Int) (a0_4:Int) (a0_5:Int) (a0_6:Int) (a0_7:ByteArray) (A0_8:Option Addr) (c0_8:Nat) (l0_8:List (S93)) (a0_9:Bool) (a0_10:Int) (r:Bool) (w:World) (hr0_0:Kd.C k84 w A0_0 l0_0.length l0_0) (hc0_0:l0_0.length≤c0_0) (hr0_1:Kd.C k91 w A0_1 l0_1.length l0_1) (hc0_1:l0_1.length≤c0_1) (hr0_8:Kd.C k93 w A0_8 l0_8.length l0_8) (hc0_8:l0_8.length≤c0_8) (hTrue:r=true) (h:laws_FnExactGoodInstance.f k l0_0 l0_1 a0_2 a0_3 a0_4 a0_5 a0_6 a0_7 l0_8 a0_9 a0_10=some r):
  Calls Try.prog 3 #[.agg #[.slice A0_0 l0_0.length c0_0,.slice A0_1 l0_1.length c0_1,.bool a0_2,.int .i64 a0_3,.int .i64 a0_4,.int .i64 a0_5,.int .i64 a0_6,.string a0_7,.slice A0_8 l0_8.length c0_8,.bool a0_9,.int .i64 a0_10]] w fun e w'=>e=.returned (.bool r)∧Below w.heap.size w w':=by
 have hu32:=Try.underlying32
 have hu44:=Try.underlying44
 have HR0_0:=A_ hr0_0
 have HC0_0:=A_ hc0_0
 clear hr0_0 hc0_0
 have HR0_1:=A_ hr0_1
 have HC0_1:=A_ hc0_1
 clear hr0_1 hc0_1
 have HR0_8:=A_ hr0_8
 have HC0_8:=A_ hc0_8
 clear hr0_8 hc0_8
 have HB:=A_ (Below.refl w.heap.size w)
 have H:((laws_szInstance.f k l0_0 l0_1 a0_2 a0_3 a0_4 a0_5 a0_6 a0_7 l0_8 a0_9 a0_10 1048576).bind fun t479=>(if t479<0 then (some true) else ((laws_toInstance.f k l0_0 l0_1 a0_2 a0_3 a0_4 a0_5 a0_6 a0_7 l0_8 a0_9 a0_10).bind fun bt480=>((spec_GoodInstance.f k bt480.1 bt480.2.1 bt480.2.2.1 bt480.2.2.2.1 bt480.2.2.2.2.1 bt480.2.2.2.2.2.1 bt480.2.2.2.2.2.2.1 bt480.2.2.2.2.2.2.2.1 bt480.2.2.2.2.2.2.2.2.1 bt480.2.2.2.2.2.2.2.2.2.1 bt480.2.2.2.2.2.2.2.2.2.2).bind fun t497=>((laws_toInstance.f k l0_0 l0_1 a0_2 a0_3 a0_4 a0_5 a0_6 a0_7 l0_8 a0_9 a0_10).bind fun bt498=>((impl_GoodInstance.f k bt498.1 bt498.2.1 bt498.2.2.1 bt498.2.2.2.1 bt498.2.2.2.2.1 bt498.2.2.2.2.2.1 bt498.2.2.2.2.2.2.1 bt498.2.2.2.2.2.2.2.1 bt498.2.2.2.2.2.2.2.2.1 bt498.2.2.2.2.2.2.2.2.2.1 bt498.2.2.2.2.2.2.2.2.2.2).bind fun t516=>(if (t516 !=t497)=true then (some false) else ((laws_toInstance.f k l0_0 l0_1 a0_2 a0_3 a0_4 a0_5 a0_6 a0_7 l0_8 a0_9 a0_10).bind fun bt517=>((laws_eqInstance.f k bt498.1 bt498.2.1 bt498.2.2.1 bt498.2.2.2.1 bt498.2.2.2.2.1 bt498.2.2.2.2.2.1 bt498.2.2.2.2.2.2.1 bt498.2.2.2.2.2.2.2.1 bt498.2.2.2.2.2.2.2.2.1 bt498.2.2.2.2.2.2.2.2.2.1 bt498.2.2.2.2.2.2.2.2.2.2 bt517.1 bt517.2.1 bt517.2.2.1 bt517.2.2.2.1 bt517.2.2.2.2.1 bt517.2.2.2.2.2.1 bt517.2.2.2.2.2.2.1 bt517.2.2.2.2.2.2.2.1 bt517.2.2.2.2.2.2.2.2.1 bt517.2.2.2.2.2.2.2.2.2.1 bt517.2.2.2.2.2.2.2.2.2.2).bind fun t534=>(if t534=true then (some true) else (some false)))))))))))=some r:=h
 clear h
 have HT:=A_ hTrue
 clear hTrue
 replace H:=bA_ H
 obtain⟨t479,A2,H⟩:=H
 revert H
 refine iL_ (fun c3b0 H=>?_) (fun c3b0 H=>?_)
 ·
  obtain rfl:=Option.some.inj H
  clear H
  go_enter Try.func3,Try.ntmps3
  go_wp2_with (first|((with_reducible refine gd_ 1 rfl ?_);refine bx_ #[.slice A0_0 l0_0.length c0_0,.slice A0_1 l0_1.length c0_1,.bool a0_2,.int .i64 a0_3,.int .i64 a0_4,.int .i64 a0_5,.int .i64 a0_6,.string a0_7,.slice A0_8 l0_8.length c0_8,.bool a0_9,.int .i64 a0_10] 32 ?_;intro gb478 hg w4 hbox hb;have BK478:=A_ hbox;have GW478:=gw_ hg HB;have GE478:=GW478;replace HB:=bs_ HB hb;clear hb hbox hg;have hcz5_0:w4.cell? ⟨gb478,0,none⟩=some (.slice A0_0 l0_0.length c0_0):=(blk_cell BK478.out 0).trans rfl;have hcz5_1:w4.cell? ⟨gb478,1,none⟩=some (.slice A0_1 l0_1.length c0_1):=(blk_cell BK478.out 1).trans rfl;have hcz5_2:w4.cell? ⟨gb478,2,none⟩=some (.bool a0_2):=(blk_cell BK478.out 2).trans rfl;have hcz5_3:w4.cell? ⟨gb478,3,none⟩=some (.int .i64 a0_3):=(blk_cell BK478.out 3).trans rfl;have hcz5_4:w4.cell? ⟨gb478,4,none⟩=some (.int .i64 a0_4):=(blk_cell BK478.out 4).trans rfl;have hcz5_5:w4.cell? ⟨gb478,5,none⟩=some (.int .i64 a0_5):=(blk_cell BK478.out 5).trans rfl;have hcz5_6:w4.cell? ⟨gb478,6,none⟩=some (.int .i64 a0_6):=(blk_cell BK478.out 6).trans rfl;have hcz5_7:w4.cell? ⟨gb478,7,none⟩=some (.string a0_7):=(blk_cell BK478.out 7).trans rfl;have hcz5_8:w4.cell? ⟨gb478,8,none⟩=some (.slice A0_8 l0_8.length c0_8):=(blk_cell BK478.out 8).trans rfl;have hcz5_9:w4.cell? ⟨gb478,9,none⟩=some (.bool a0_9):=(blk_cell BK478.out 9).trans rfl;have hcz5_10:w4.cell? ⟨gb478,10,none⟩=some (.int .i64 a0_10):=(blk_cell BK478.out 10).trans rfl;have hfz5_0:=blk_frozen BK478.out 0;have hfz5_1:=blk_frozen BK478.out 1;have hfz5_2:=blk_frozen BK478.out 2;have hfz5_3:=blk_frozen BK478.out 3;have hfz5_4:=blk_frozen BK478.out 4;have hfz5_5:=blk_frozen BK478.out 5;have hfz5_6:=blk_frozen BK478.out 6;have hfz5_7:=blk_frozen BK478.out 7;have hfz5_8:=blk_frozen BK478.out 8;have hfz5_9:=blk_frozen BK478.out 9;have hfz5_10:=blk_frozen BK478.out 10)|((with_reducible refine gc_ 4 rfl ?_);refine gm_ (some 9) Try.func4 (laws_szInstance.calls k _ _ l0_0 _ _ l0_1 a0_2 a0_3 a0_4 a0_5 a0_6 a0_7 _ _ l0_8 a0_9 a0_10 1048576 t479 _ (cb_ HR0_0 HB) HC0_0.out (cb_ HR0_1 HB) HC0_1.out (cb_ HR0_8 HB) HC0_8.out A2.out) ?_;intro w6 hb;replace BK478:=kb_ BK478 hb;replace HB:=bs_ HB hb;(try clear hb)))
  go_ret
  exact⟨rr_,bw HB.out⟩
 replace H:=Option.bind_eq_some_iff.mp H
 obtain⟨⟨t480,t483,t486,t487,t488,t489,t490,t491,t492,t495,t496⟩,A70,H⟩:=H
 try dsimp only at H
 have A7:=A_ A70
 clear A70
 replace H:=bA_ H
 obtain⟨t497,A8,H⟩:=H
 replace H:=Option.bind_eq_some_iff.mp H
 obtain⟨⟨t498,t501,t504,t505,t506,t507,t508,t509,t510,t513,t514⟩,A90,H⟩:=H
 try dsimp only at H
 have A9:=A_ A90
 clear A90
 replace H:=bA_ H
 obtain⟨t516,A10,H⟩:=H
 by_cases c11:(t516 !=t497)=true
 ·
  rw[if_pos c11] at H
  have c11b0:(t516 !=t497)=true:=c11
  (try (have c11b1:decide (t516=t497)=false:=by simpa using c11))
  (try (have c11b2:(t516==t497)=false:=by simpa using c11))
  (try (have c11b3:¬(t516=t497):=by simpa using c11))
  clear c11
  obtain rfl:=Option.some.inj H
  exact absurd HT.out (by decide)
 rw[if_neg c11] at H
 have c11b0:(t516 !=t497)=false:=by simpa using c11
 (try (have c11b1:decide (t516=t497)=true:=by simpa using c11))
 (try (have c11b2:(t516==t497)=true:=by simpa using c11))
 clear c11
 replace H:=Option.bind_eq_some_iff.mp H
 obtain⟨⟨t517,t520,t523,t524,t525,t526,t527,t528,t529,t532,t533⟩,A120,H⟩:=H
 try dsimp only at H
 have A12:=A_ A120
 clear A120
 replace H:=bA_ H
 obtain⟨t534,A13,H⟩:=H
 revert H
 refine iB_ (fun c14 H=>?_) (fun c14 H=>?_)<;>subst c14
 ·
  obtain rfl:=Option.some.inj H
  clear H
  go_enter Try.func3,Try.ntmps3
  try go_wp2_with (first|((with_reducible refine gd_ 1 rfl ?_);refine bx_ #[.slice A0_0 l0_0.length c0_0,.slice A0_1 l0_1.length c0_1,.bool a0_2,.int .i64 a0_3,.int .i64 a0_4,.int .i64 a0_5,.int .i64 a0_6,.string a0_7,.slice A0_8 l0_8.length c0_8,.bool a0_9,.int .i64 a0_10] 32 ?_;intro gb478 hg w15 hbox hb;have BK478:=A_ hbox;have GW478:=gw_ hg HB;have GE478:=GW478;replace HB:=bs_ HB hb;clear hb hbox hg;have hcz16_0:w15.cell? ⟨gb478,0,none⟩=some (.slice A0_0 l0_0.length c0_0):=(blk_cell BK478.out 0).trans rfl;have hcz16_1:w15.cell? ⟨gb478,1,none⟩=some (.slice A0_1 l0_1.length c0_1):=(blk_cell BK478.out 1).trans rfl;have hcz16_2:w15.cell? ⟨gb478,2,none⟩=some (.bool a0_2):=(blk_cell BK478.out 2).trans rfl;have hcz16_3:w15.cell? ⟨gb478,3,none⟩=some (.int .i64 a0_3):=(blk_cell BK478.out 3).trans rfl;have hcz16_4:w15.cell? ⟨gb478,4,none⟩=some (.int .i64 a0_4):=(blk_cell BK478.out 4).trans rfl;have hcz16_5:w15.cell? ⟨gb478,5,none⟩=some (.int .i64 a0_5):=(blk_cell BK478.out 5).trans rfl;have hcz16_6:w15.cell? ⟨gb478,6,none⟩=some (.int .i64 a0_6):=(blk_cell BK478.out 6).trans rfl;have hcz16_7:w15.cell? ⟨gb478,7,none⟩=some (.string a0_7):=(blk_cell BK478.out 7).trans rfl;have hcz16_8:w15.cell? ⟨gb478,8,none⟩=some (.slice A0_8 l0_8.length c0_8):=(blk_cell BK478.out 8).trans rfl;have hcz16_9:w15.cell? ⟨gb478,9,none⟩=some (.bool a0_9):=(blk_cell BK478.out 9).trans rfl;have hcz16_10:w15.cell? ⟨gb478,10,none⟩=some (.int .i64 a0_10):=(blk_cell BK478.out 10).trans rfl;have hfz16_0:=blk_frozen BK478.out 0;have hfz16_1:=blk_frozen BK478.out 1;have hfz16_2:=blk_frozen BK478.out 2;have hfz16_3:=blk_frozen BK478.out 3;have hfz16_4:=blk_frozen BK478.out 4;have hfz16_5:=blk_frozen BK478.out 5;have hfz16_6:=blk_frozen BK478.out 6;have hfz16_7:=blk_frozen BK478.out 7;have hfz16_8:=blk_frozen BK478.out 8;have hfz16_9:=blk_frozen BK478.out 9;have hfz16_10:=blk_frozen BK478.out 10)|((with_reducible refine gc_ 4 rfl ?_);refine gm_ (some 9) Try.func4 (laws_szInstance.calls k _ _ l0_0 _ _ l0_1 a0_2 a0_3 a0_4 a0_5 a0_6 a0_7 _ _ l0_8 a0_9 a0_10 1048576 t479 _ (cb_ HR0_0 HB) HC0_0.out (cb_ HR0_1 HB) HC0_1.out (cb_ HR0_8 HB) HC0_8.out A2.out) ?_;intro w17 hb;replace BK478:=kb_ BK478 hb;replace HB:=bs_ HB hb;(try clear hb);have hcz18_0:w17.cell? ⟨gb478,0,none⟩=some (.slice A0_0 l0_0.length c0_0):=(blk_cell BK478.out 0).trans rfl;have hcz18_1:w17.cell? ⟨gb478,1,none⟩=some (.slice A0_1 l0_1.length c0_1):=(blk_cell BK478.out 1).trans rfl;have hcz18_2:w17.cell? ⟨gb478,2,none⟩=some (.bool a0_2):=(blk_cell BK478.out 2).trans rfl;have hcz18_3:w17.cell? ⟨gb478,3,none⟩=some (.int .i64 a0_3):=(blk_cell BK478.out 3).trans rfl;have hcz18_4:w17.cell? ⟨gb478,4,none⟩=some (.int .i64 a0_4):=(blk_cell BK478.out 4).trans rfl;have hcz18_5:w17.cell? ⟨gb478,5,none⟩=some (.int .i64 a0_5):=(blk_cell BK478.out 5).trans rfl;have hcz18_6:w17.cell? ⟨gb478,6,none⟩=some (.int .i64 a0_6):=(blk_cell BK478.out 6).trans rfl;have hcz18_7:w17.cell? ⟨gb478,7,none⟩=some (.string a0_7):=(blk_cell BK478.out 7).trans rfl;have hcz18_8:w17.cell? ⟨gb478,8,none⟩=some (.slice A0_8 l0_8.length c0_8):=(blk_cell BK478.out 8).trans rfl;have hcz18_9:w17.cell? ⟨gb478,9,none⟩=some (.bool a0_9):=(blk_cell BK478.out 9).trans rfl;have hcz18_10:w17.cell? ⟨gb478,10,none⟩=some (.int .i64 a0_10):=(blk_cell BK478.out 10).trans rfl;have hfz18_0:=blk_frozen BK478.out 0;have hfz18_1:=blk_frozen BK478.out 1;have hfz18_2:=blk_frozen BK478.out 2;have hfz18_3:=blk_frozen BK478.out 3;have hfz18_4:=blk_frozen BK478.out 4;have hfz18_5:=blk_frozen BK478.out 5;have hfz18_6:=blk_frozen BK478.out 6;have hfz18_7:=blk_frozen BK478.out 7;have hfz18_8:=blk_frozen BK478.out 8;have hfz18_9:=blk_frozen BK478.out 9;have hfz18_10:=blk_frozen BK478.out 10)|((with_reducible refine gc_ 6 rfl ?_);refine goesL_ (some 13) rfl rfl Try.func6 (by kernel_rfl) rfl #[.agg #[.slice A0_0 l0_0.length c0_0,.slice A0_1 l0_1.length c0_1,.bool a0_2,.int .i64 a0_3,.int .i64 a0_4,.int .i64 a0_5,.int .i64 a0_6,.string a0_7,.slice A0_8 l0_8.length c0_8,.bool a0_9,.int .i64 a0_10]] rfl ar ?_;(with_reducible refine(laws_toInstance.calls k _ _ l0_0 _ _ l0_1 a0_2 a0_3 a0_4 a0_5 a0_6 a0_7 _ _ l0_8 a0_9 a0_10 t480 t483 t486 t487 t488 t489 t490 t491 t492 t495 t496 _ ?side1 ?side2 ?side3 ?side4 ?side5 ?side6 A7.out).mono ?_);(case side1=>exact cb_ HR0_0 HB);(case side2=>exact HC0_0.out);(case side3=>exact cb_ HR0_1 HB);(case side4=>exact HC0_1.out);(case side5=>exact cb_ HR0_8 HB);(case side6=>exact HC0_8.out);rintro e w19 ⟨v481,v484,v493,rfl,ho0,ho1,ho2,hb⟩;refine⟨_,rfl,?_⟩;have HO482:=A_ (Kd.S_lower ho0 (below_size (bw HB.out)));have HO485:=A_ (Kd.R_lower ho1 (below_size (bw HB.out)));have HO494:=A_ (Kd.R_lower ho2 (below_size (bw HB.out)));replace BK478:=kb_ BK478 hb;replace HB:=bs_ HB hb;(try clear hb);(try clear hb2);(try clear hk);(try clear hi);(try clear ho0);(try clear ho1);(try clear ho2);obtain⟨Ao20,co20,eo20⟩:=Kd.S_slice HO482.out;subst eo20;obtain⟨Ao21,co21,eo21⟩:=Kd.R_slice HO485.out;subst eo21;obtain⟨Ao22,co22,eo22⟩:=Kd.R_slice HO494.out;subst eo22)|((with_reducible refine gc_ 5 rfl ?_);refine goesL_ (some 14) rfl rfl Try.func5 (by kernel_rfl) rfl #[.agg #[.slice Ao20 t480.length co20,.slice Ao21 t483.length co21,.bool t486,.int .i64 t487,.int .i64 t488,.int .i64 t489,.int .i64 t490,.string t491,.slice Ao22 t492.length co22,.bool t495,.int .i64 t496]] rfl ar ?_;(with_reducible refine(spec_GoodInstance.calls k _ _ t480 _ _ t483 t486 t487 t488 t489 t490 t491 _ _ t492 t495 t496 t497 _ ?side1 ?side2 ?side3 ?side4 ?side5 ?side6 A8.out).mono ?_);(case side1=>repeat (first|exact(Kd.S_reads' HO482.out).2.2|(with_reducible refine Kd.C_alloc ?_ _)|(with_reducible refine Kd.C_drewN ?_ _)|(with_reducible refine Kd.C_drew ?_)));(case side2=>exact(Kd.S_reads' HO482.out).2.1);(case side3=>repeat (first|exact(Kd.R_reads' HO485.out).2.2|(with_reducible refine Kd.C_alloc ?_ _)|(with_reducible refine Kd.C_drewN ?_ _)|(with_reducible refine Kd.C_drew ?_)));(case side4=>exact(Kd.R_reads' HO485.out).2.1);(case side5=>repeat (first|exact(Kd.R_reads' HO494.out).2.2|(with_reducible refine Kd.C_alloc ?_ _)|(with_reducible refine Kd.C_drewN ?_ _)|(with_reducible refine Kd.C_drew ?_)));(case side6=>exact(Kd.R_reads' HO494.out).2.1);rintro e w23 ⟨rfl,hb⟩;refine⟨_,rfl,?_⟩;replace HO482:=A_ (Kd.S_below (ks_ HO482.out) hb);replace HO485:=A_ (Kd.R_below (kr_ HO485.out) hb);replace HO494:=A_ (Kd.R_below (kr_ HO494.out) hb);replace BK478:=kb_ BK478 hb;replace HB:=bs_ HB hb;(try clear hb);have hcz24_0:w23.cell? ⟨gb478,0,none⟩=some (.slice A0_0 l0_0.length c0_0):=(blk_cell BK478.out 0).trans rfl;have hcz24_1:w23.cell? ⟨gb478,1,none⟩=some (.slice A0_1 l0_1.length c0_1):=(blk_cell BK478.out 1).trans rfl;have hcz24_2:w23.cell? ⟨gb478,2,none⟩=some (.bool a0_2):=(blk_cell BK478.out 2).trans rfl;have hcz24_3:w23.cell? ⟨gb478,3,none⟩=some (.int .i64 a0_3):=(blk_cell BK478.out 3).trans rfl;have hcz24_4:w23.cell? ⟨gb478,4,none⟩=some (.int .i64 a0_4):=(blk_cell BK478.out 4).trans rfl;have hcz24_5:w23.cell? ⟨gb478,5,none⟩=some (.int .i64 a0_5):=(blk_cell BK478.out 5).trans rfl;have hcz24_6:w23.cell? ⟨gb478,6,none⟩=some (.int .i64 a0_6):=(blk_cell BK478.out 6).trans rfl;have hcz24_7:w23.cell? ⟨gb478,7,none⟩=some (.string a0_7):=(blk_cell BK478.out 7).trans rfl;have hcz24_8:w23.cell? ⟨gb478,8,none⟩=some (.slice A0_8 l0_8.length c0_8):=(blk_cell BK478.out 8).trans rfl;have hcz24_9:w23.cell? ⟨gb478,9,none⟩=some (.bool a0_9):=(blk_cell BK478.out 9).trans rfl;have hcz24_10:w23.cell? ⟨gb478,10,none⟩=some (.int .i64 a0_10):=(blk_cell BK478.out 10).trans rfl;have hfz24_0:=blk_frozen BK478.out 0;have hfz24_1:=blk_frozen BK478.out 1;have hfz24_2:=blk_frozen BK478.out 2;have hfz24_3:=blk_frozen BK478.out 3;have hfz24_4:=blk_frozen BK478.out 4;have hfz24_5:=blk_frozen BK478.out 5;have hfz24_6:=blk_frozen BK478.out 6;have hfz24_7:=blk_frozen BK478.out 7;have hfz24_8:=blk_frozen BK478.out 8;have hfz24_9:=blk_frozen BK478.out 9;have hfz24_10:=blk_frozen BK478.out 10)|((with_reducible refine gc_ 6 rfl ?_);refine goesL_ (some 16) rfl rfl Try.func6 (by kernel_rfl) rfl #[.agg #[.slice A0_0 l0_0.length c0_0,.slice A0_1 l0_1.length c0_1,.bool a0_2,.int .i64 a0_3,.int .i64 a0_4,.int .i64 a0_5,.int .i64 a0_6,.string a0_7,.slice A0_8 l0_8.length c0_8,.bool a0_9,.int .i64 a0_10]] rfl ar ?_;(with_reducible refine(laws_toInstance.calls k _ _ l0_0 _ _ l0_1 a0_2 a0_3 a0_4 a0_5 a0_6 a0_7 _ _ l0_8 a0_9 a0_10 t498 t501 t504 t505 t506 t507 t508 t509 t510 t513 t514 _ ?side1 ?side2 ?side3 ?side4 ?side5 ?side6 A9.out).mono ?_);(case side1=>exact cb_ HR0_0 HB);(case side2=>exact HC0_0.out);(case side3=>exact cb_ HR0_1 HB);(case side4=>exact HC0_1.out);(case side5=>exact cb_ HR0_8 HB);(case side6=>exact HC0_8.out);rintro e w25 ⟨v499,v502,v511,rfl,ho0,ho1,ho2,hb⟩;refine⟨_,rfl,?_⟩;have HO500:=A_ (Kd.S_lower (Kd.S_new' ho0 (Kd.S_lt (ks_ HO482.out))) (below_size (bw HB.out)));have HO503:=A_ (Kd.R_lower (Kd.R_new' ho1 (Kd.R_lt (kr_ HO485.out))) (below_size (bw HB.out)));have HO512:=A_ (Kd.R_lower (Kd.R_new' ho2 (Kd.R_lt (kr_ HO494.out))) (below_size (bw HB.out)));replace HO482:=A_ (Kd.S_elder' (ks_ HO482.out) (Kd.S_base ho0) hb);replace HO485:=A_ (Kd.R_elder' (kr_ HO485.out) (Kd.R_base ho1) hb);replace HO494:=A_ (Kd.R_elder' (kr_ HO494.out) (Kd.R_base ho2) hb);replace BK478:=kb_ BK478 hb;replace HB:=bs_ HB hb;(try clear hb);(try clear hb2);(try clear hk);(try clear hi);(try clear ho0);(try clear ho1);(try clear ho2))|((with_reducible refine gd_ 5 rfl ?_);refine bx_ #[.slice none 0 0,.slice none 0 0,.bool false,.int .i64 0,.int .i64 0,.int .i64 0,.int .i64 0,.string (⟨#[]⟩:ByteArray),.slice none 0 0,.bool false,.int .i64 0] 44 ?_;intro gb515 hg w26 hbox hb;have BK515:=A_ hbox;have GW515:=gw_ hg HB;have GE515:=GW515;obtain⟨NB478_515,NB515_478⟩:=nb_ BK478 hg;replace HO482:=A_ (Kd.S_below (ks_ HO482.out) hb);replace HO485:=A_ (Kd.R_below (kr_ HO485.out) hb);replace HO494:=A_ (Kd.R_below (kr_ HO494.out) hb);replace HO500:=A_ (Kd.S_below (ks_ HO500.out) hb);replace HO503:=A_ (Kd.R_below (kr_ HO503.out) hb);replace HO512:=A_ (Kd.R_below (kr_ HO512.out) hb);replace BK478:=kb_ BK478 hb;replace HB:=bs_ HB hb;clear hb hbox hg;obtain⟨Ao27,co27,eo27⟩:=Kd.S_slice HO500.out;subst eo27;have hnb28:=NB515_478.out;have hnc28:=NB478_515.out;have hcz29_0:w26.cell? ⟨gb515,0,none⟩=some (.slice none 0 0):=(blk_cell BK515.out 0).trans rfl;have hcz29_1:w26.cell? ⟨gb515,1,none⟩=some (.slice none 0 0):=(blk_cell BK515.out 1).trans rfl;have hcz29_2:w26.cell? ⟨gb515,2,none⟩=some (.bool false):=(blk_cell BK515.out 2).trans rfl;have hcz29_3:w26.cell? ⟨gb515,3,none⟩=some (.int .i64 0):=(blk_cell BK515.out 3).trans rfl;have hcz29_4:w26.cell? ⟨gb515,4,none⟩=some (.int .i64 0):=(blk_cell BK515.out 4).trans rfl;have hcz29_5:w26.cell? ⟨gb515,5,none⟩=some (.int .i64 0):=(blk_cell BK515.out 5).trans rfl;have hcz29_6:w26.cell? ⟨gb515,6,none⟩=some (.int .i64 0):=(blk_cell BK515.out 6).trans rfl;have hcz29_7:w26.cell? ⟨gb515,7,none⟩=some (.string (⟨#[]⟩:ByteArray)):=(blk_cell BK515.out 7).trans rfl;have hcz29_8:w26.cell? ⟨gb515,8,none⟩=some (.slice none 0 0):=(blk_cell BK515.out 8).trans rfl;have hcz29_9:w26.cell? ⟨gb515,9,none⟩=some (.bool false):=(blk_cell BK515.out 9).trans rfl;have hcz29_10:w26.cell? ⟨gb515,10,none⟩=some (.int .i64 0):=(blk_cell BK515.out 10).trans rfl;have hfz29_0:=blk_frozen BK515.out 0;have hfz29_1:=blk_frozen BK515.out 1;have hfz29_2:=blk_frozen BK515.out 2;have hfz29_3:=blk_frozen BK515.out 3;have hfz29_4:=blk_frozen BK515.out 4;have hfz29_5:=blk_frozen BK515.out 5;have hfz29_6:=blk_frozen BK515.out 6;have hfz29_7:=blk_frozen BK515.out 7;have hfz29_8:=blk_frozen BK515.out 8;have hfz29_9:=blk_frozen BK515.out 9;have hfz29_10:=blk_frozen BK515.out 10;obtain⟨Ao30,co30,eo30⟩:=Kd.R_slice HO503.out;subst eo30;obtain⟨Ao31,co31,eo31⟩:=Kd.R_slice HO512.out;subst eo31)|((with_reducible refine gate_store (t:=44) (p:=5) rfl ?_);refine store_event (t:=44) (p:=5) (v:=?vo_w32) (w1:=(((((((((((w26.setCell ⟨gb515,0,none⟩ (.slice Ao27 t498.length co27)).setCell ⟨gb515,1,none⟩ (.slice Ao30 t501.length co30)).setCell ⟨gb515,2,none⟩ (.bool t504)).setCell ⟨gb515,3,none⟩ (.int .i64 t505)).setCell ⟨gb515,4,none⟩ (.int .i64 t506)).setCell ⟨gb515,5,none⟩ (.int .i64 t507)).setCell ⟨gb515,6,none⟩ (.int .i64 t508)).setCell ⟨gb515,7,none⟩ (.string t509)).setCell ⟨gb515,8,none⟩ (.slice Ao31 t510.length co31)).setCell ⟨gb515,9,none⟩ (.bool t513)).setCell ⟨gb515,10,none⟩ (.int .i64 t514))) ?hg ?ho ?hn ?hr ?_;(case ho=>rfl);(case hg=>rfl);(case hn=>rfl);(case hr=>first|(go_simp;done)|(go_simp;rfl));intro w32 hw;replace HO482:Aside0 (Kd.S k88 88 w32 w.heap.size (fun k_=>some k_≠(.slice Ao27 t498.length co27:Value).ownBlock) (.slice Ao20 t480.length co20) t480):=⟨(by rw[hw];exact(by(with_reducible repeat (first|apply Kd.S_alloc|apply Kd.S_drewN|apply Kd.S_drew));exact Kd.S_mono (Kd.S_far (p:=⟨gb515,10,none⟩) (Kd.S_far (p:=⟨gb515,9,none⟩) (Kd.S_far (p:=⟨gb515,8,none⟩) (Kd.S_far (p:=⟨gb515,7,none⟩) (Kd.S_far (p:=⟨gb515,6,none⟩) (Kd.S_far (p:=⟨gb515,5,none⟩) (Kd.S_far (p:=⟨gb515,4,none⟩) (Kd.S_far (p:=⟨gb515,3,none⟩) (Kd.S_far (p:=⟨gb515,2,none⟩) (Kd.S_far (p:=⟨gb515,1,none⟩) (Kd.S_far (p:=⟨gb515,0,none⟩) (Kd.S_types HO482.out BK515.out (by decide)) (fun _ hk=>hk.2) (.slice Ao27 t498.length co27)) (fun _ hk=>hk.2) (.slice Ao30 t501.length co30)) (fun _ hk=>hk.2) (.bool t504)) (fun _ hk=>hk.2) (.int .i64 t505)) (fun _ hk=>hk.2) (.int .i64 t506)) (fun _ hk=>hk.2) (.int .i64 t507)) (fun _ hk=>hk.2) (.int .i64 t508)) (fun _ hk=>hk.2) (.string t509)) (fun _ hk=>hk.2) (.slice Ao31 t510.length co31)) (fun _ hk=>hk.2) (.bool t513)) (fun _ hk=>hk.2) (.int .i64 t514)) (fun _ hk=>hk.1.2)))⟩;replace HO485:Aside0 (Kd.R k75 75 w32 w.heap.size (fun k_=>some k_≠(.slice Ao30 t501.length co30:Value).ownBlock) (.slice Ao21 t483.length co21) t483):=⟨(by rw[hw];exact(by(with_reducible repeat (first|apply Kd.R_alloc|apply Kd.R_drewN|apply Kd.R_drew));exact Kd.R_mono (Kd.R_far (p:=⟨gb515,10,none⟩) (Kd.R_far (p:=⟨gb515,9,none⟩) (Kd.R_far (p:=⟨gb515,8,none⟩) (Kd.R_far (p:=⟨gb515,7,none⟩) (Kd.R_far (p:=⟨gb515,6,none⟩) (Kd.R_far (p:=⟨gb515,5,none⟩) (Kd.R_far (p:=⟨gb515,4,none⟩) (Kd.R_far (p:=⟨gb515,3,none⟩) (Kd.R_far (p:=⟨gb515,2,none⟩) (Kd.R_far (p:=⟨gb515,1,none⟩) (Kd.R_far (p:=⟨gb515,0,none⟩) (Kd.R_types HO485.out BK515.out (by decide)) (fun _ hk=>hk.2) (.slice Ao27 t498.length co27)) (fun _ hk=>hk.2) (.slice Ao30 t501.length co30)) (fun _ hk=>hk.2) (.bool t504)) (fun _ hk=>hk.2) (.int .i64 t505)) (fun _ hk=>hk.2) (.int .i64 t506)) (fun _ hk=>hk.2) (.int .i64 t507)) (fun _ hk=>hk.2) (.int .i64 t508)) (fun _ hk=>hk.2) (.string t509)) (fun _ hk=>hk.2) (.slice Ao31 t510.length co31)) (fun _ hk=>hk.2) (.bool t513)) (fun _ hk=>hk.2) (.int .i64 t514)) (fun _ hk=>hk.1.2)))⟩;replace HO494:Aside0 (Kd.R k72 72 w32 w.heap.size (fun k_=>some k_≠(.slice Ao31 t510.length co31:Value).ownBlock) (.slice Ao22 t492.length co22) t492):=⟨(by rw[hw];exact(by(with_reducible repeat (first|apply Kd.R_alloc|apply Kd.R_drewN|apply Kd.R_drew));exact Kd.R_mono (Kd.R_far (p:=⟨gb515,10,none⟩) (Kd.R_far (p:=⟨gb515,9,none⟩) (Kd.R_far (p:=⟨gb515,8,none⟩) (Kd.R_far (p:=⟨gb515,7,none⟩) (Kd.R_far (p:=⟨gb515,6,none⟩) (Kd.R_far (p:=⟨gb515,5,none⟩) (Kd.R_far (p:=⟨gb515,4,none⟩) (Kd.R_far (p:=⟨gb515,3,none⟩) (Kd.R_far (p:=⟨gb515,2,none⟩) (Kd.R_far (p:=⟨gb515,1,none⟩) (Kd.R_far (p:=⟨gb515,0,none⟩) (Kd.R_types HO494.out BK515.out (by decide)) (fun _ hk=>hk.2) (.slice Ao27 t498.length co27)) (fun _ hk=>hk.2) (.slice Ao30 t501.length co30)) (fun _ hk=>hk.2) (.bool t504)) (fun _ hk=>hk.2) (.int .i64 t505)) (fun _ hk=>hk.2) (.int .i64 t506)) (fun _ hk=>hk.2) (.int .i64 t507)) (fun _ hk=>hk.2) (.int .i64 t508)) (fun _ hk=>hk.2) (.string t509)) (fun _ hk=>hk.2) (.slice Ao31 t510.length co31)) (fun _ hk=>hk.2) (.bool t513)) (fun _ hk=>hk.2) (.int .i64 t514)) (fun _ hk=>hk.1.2)))⟩;replace HO500:Aside0 (Kd.S k88 88 w32 w.heap.size (fun k_=>some k_≠(.slice Ao20 t480.length co20:Value).ownBlock) (.slice Ao27 t498.length co27) t498):=⟨(by rw[hw];exact(by(with_reducible repeat (first|apply Kd.S_alloc|apply Kd.S_drewN|apply Kd.S_drew));exact Kd.S_mono (Kd.S_far (p:=⟨gb515,10,none⟩) (Kd.S_far (p:=⟨gb515,9,none⟩) (Kd.S_far (p:=⟨gb515,8,none⟩) (Kd.S_far (p:=⟨gb515,7,none⟩) (Kd.S_far (p:=⟨gb515,6,none⟩) (Kd.S_far (p:=⟨gb515,5,none⟩) (Kd.S_far (p:=⟨gb515,4,none⟩) (Kd.S_far (p:=⟨gb515,3,none⟩) (Kd.S_far (p:=⟨gb515,2,none⟩) (Kd.S_far (p:=⟨gb515,1,none⟩) (Kd.S_far (p:=⟨gb515,0,none⟩) (Kd.S_types HO500.out BK515.out (by decide)) (fun _ hk=>hk.2) (.slice Ao27 t498.length co27)) (fun _ hk=>hk.2) (.slice Ao30 t501.length co30)) (fun _ hk=>hk.2) (.bool t504)) (fun _ hk=>hk.2) (.int .i64 t505)) (fun _ hk=>hk.2) (.int .i64 t506)) (fun _ hk=>hk.2) (.int .i64 t507)) (fun _ hk=>hk.2) (.int .i64 t508)) (fun _ hk=>hk.2) (.string t509)) (fun _ hk=>hk.2) (.slice Ao31 t510.length co31)) (fun _ hk=>hk.2) (.bool t513)) (fun _ hk=>hk.2) (.int .i64 t514)) (fun _ hk=>hk.1.2)))⟩;replace HO503:Aside0 (Kd.R k75 75 w32 w.heap.size (fun k_=>some k_≠(.slice Ao21 t483.length co21:Value).ownBlock) (.slice Ao30 t501.length co30) t501):=⟨(by rw[hw];exact(by(with_reducible repeat (first|apply Kd.R_alloc|apply Kd.R_drewN|apply Kd.R_drew));exact Kd.R_mono (Kd.R_far (p:=⟨gb515,10,none⟩) (Kd.R_far (p:=⟨gb515,9,none⟩) (Kd.R_far (p:=⟨gb515,8,none⟩) (Kd.R_far (p:=⟨gb515,7,none⟩) (Kd.R_far (p:=⟨gb515,6,none⟩) (Kd.R_far (p:=⟨gb515,5,none⟩) (Kd.R_far (p:=⟨gb515,4,none⟩) (Kd.R_far (p:=⟨gb515,3,none⟩) (Kd.R_far (p:=⟨gb515,2,none⟩) (Kd.R_far (p:=⟨gb515,1,none⟩) (Kd.R_far (p:=⟨gb515,0,none⟩) (Kd.R_types HO503.out BK515.out (by decide)) (fun _ hk=>hk.2) (.slice Ao27 t498.length co27)) (fun _ hk=>hk.2) (.slice Ao30 t501.length co30)) (fun _ hk=>hk.2) (.bool t504)) (fun _ hk=>hk.2) (.int .i64 t505)) (fun _ hk=>hk.2) (.int .i64 t506)) (fun _ hk=>hk.2) (.int .i64 t507)) (fun _ hk=>hk.2) (.int .i64 t508)) (fun _ hk=>hk.2) (.string t509)) (fun _ hk=>hk.2) (.slice Ao31 t510.length co31)) (fun _ hk=>hk.2) (.bool t513)) (fun _ hk=>hk.2) (.int .i64 t514)) (fun _ hk=>hk.1.2)))⟩;replace HO512:Aside0 (Kd.R k72 72 w32 w.heap.size (fun k_=>some k_≠(.slice Ao22 t492.length co22:Value).ownBlock) (.slice Ao31 t510.length co31) t510):=⟨(by rw[hw];exact(by(with_reducible repeat (first|apply Kd.R_alloc|apply Kd.R_drewN|apply Kd.R_drew));exact Kd.R_mono (Kd.R_far (p:=⟨gb515,10,none⟩) (Kd.R_far (p:=⟨gb515,9,none⟩) (Kd.R_far (p:=⟨gb515,8,none⟩) (Kd.R_far (p:=⟨gb515,7,none⟩) (Kd.R_far (p:=⟨gb515,6,none⟩) (Kd.R_far (p:=⟨gb515,5,none⟩) (Kd.R_far (p:=⟨gb515,4,none⟩) (Kd.R_far (p:=⟨gb515,3,none⟩) (Kd.R_far (p:=⟨gb515,2,none⟩) (Kd.R_far (p:=⟨gb515,1,none⟩) (Kd.R_far (p:=⟨gb515,0,none⟩) (Kd.R_types HO512.out BK515.out (by decide)) (fun _ hk=>hk.2) (.slice Ao27 t498.length co27)) (fun _ hk=>hk.2) (.slice Ao30 t501.length co30)) (fun _ hk=>hk.2) (.bool t504)) (fun _ hk=>hk.2) (.int .i64 t505)) (fun _ hk=>hk.2) (.int .i64 t506)) (fun _ hk=>hk.2) (.int .i64 t507)) (fun _ hk=>hk.2) (.int .i64 t508)) (fun _ hk=>hk.2) (.string t509)) (fun _ hk=>hk.2) (.slice Ao31 t510.length co31)) (fun _ hk=>hk.2) (.bool t513)) (fun _ hk=>hk.2) (.int .i64 t514)) (fun _ hk=>hk.1.2)))⟩;replace BK478:Aside0 (w32.heap[gb478]? =some (.cells #[.slice A0_0 l0_0.length c0_0,.slice A0_1 l0_1.length c0_1,.bool a0_2,.int .i64 a0_3,.int .i64 a0_4,.int .i64 a0_5,.int .i64 a0_6,.string a0_7,.slice A0_8 l0_8.length c0_8,.bool a0_9,.int .i64 a0_10] 32 (0,0))):=⟨(by rw[hw];exact(by refine blk_far ?_ NB478_515.out _;refine blk_far ?_ NB478_515.out _;refine blk_far ?_ NB478_515.out _;refine blk_far ?_ NB478_515.out _;refine blk_far ?_ NB478_515.out _;refine blk_far ?_ NB478_515.out _;refine blk_far ?_ NB478_515.out _;refine blk_far ?_ NB478_515.out _;refine blk_far ?_ NB478_515.out _;refine blk_far ?_ NB478_515.out _;refine blk_far ?_ NB478_515.out _;(with_reducible repeat (first|refine blk_drewN ?_ _|refine blk_drew ?_|refine blk_alloc ?_ _));exact BK478.out))⟩;replace BK515:Aside0 (w32.heap[gb515]? =some (.cells #[.slice Ao27 t498.length co27,.slice Ao30 t501.length co30,.bool t504,.int .i64 t505,.int .i64 t506,.int .i64 t507,.int .i64 t508,.string t509,.slice Ao31 t510.length co31,.bool t513,.int .i64 t514] 44 (0,0))):=⟨(by rw[hw];exact(by refine blk_put (cs:=#[.slice Ao27 t498.length co27,.slice Ao30 t501.length co30,.bool t504,.int .i64 t505,.int .i64 t506,.int .i64 t507,.int .i64 t508,.string t509,.slice Ao31 t510.length co31,.bool t513,.int .i64 0]) ?_ 10 _ rfl;refine blk_put (cs:=#[.slice Ao27 t498.length co27,.slice Ao30 t501.length co30,.bool t504,.int .i64 t505,.int .i64 t506,.int .i64 t507,.int .i64 t508,.string t509,.slice Ao31 t510.length co31,.bool false,.int .i64 0]) ?_ 9 _ rfl;refine blk_put (cs:=#[.slice Ao27 t498.length co27,.slice Ao30 t501.length co30,.bool t504,.int .i64 t505,.int .i64 t506,.int .i64 t507,.int .i64 t508,.string t509,.slice none 0 0,.bool false,.int .i64 0]) ?_ 8 _ rfl;refine blk_put (cs:=#[.slice Ao27 t498.length co27,.slice Ao30 t501.length co30,.bool t504,.int .i64 t505,.int .i64 t506,.int .i64 t507,.int .i64 t508,.string (⟨#[]⟩:ByteArray),.slice none 0 0,.bool false,.int .i64 0]) ?_ 7 _ rfl;refine blk_put (cs:=#[.slice Ao27 t498.length co27,.slice Ao30 t501.length co30,.bool t504,.int .i64 t505,.int .i64 t506,.int .i64 t507,.int .i64 0,.string (⟨#[]⟩:ByteArray),.slice none 0 0,.bool false,.int .i64 0]) ?_ 6 _ rfl;refine blk_put (cs:=#[.slice Ao27 t498.length co27,.slice Ao30 t501.length co30,.bool t504,.int .i64 t505,.int .i64 t506,.int .i64 0,.int .i64 0,.string (⟨#[]⟩:ByteArray),.slice none 0 0,.bool false,.int .i64 0]) ?_ 5 _ rfl;refine blk_put (cs:=#[.slice Ao27 t498.length co27,.slice Ao30 t501.length co30,.bool t504,.int .i64 t505,.int .i64 0,.int .i64 0,.int .i64 0,.string (⟨#[]⟩:ByteArray),.slice none 0 0,.bool false,.int .i64 0]) ?_ 4 _ rfl;refine blk_put (cs:=#[.slice Ao27 t498.length co27,.slice Ao30 t501.length co30,.bool t504,.int .i64 0,.int .i64 0,.int .i64 0,.int .i64 0,.string (⟨#[]⟩:ByteArray),.slice none 0 0,.bool false,.int .i64 0]) ?_ 3 _ rfl;refine blk_put (cs:=#[.slice Ao27 t498.length co27,.slice Ao30 t501.length co30,.bool false,.int .i64 0,.int .i64 0,.int .i64 0,.int .i64 0,.string (⟨#[]⟩:ByteArray),.slice none 0 0,.bool false,.int .i64 0]) ?_ 2 _ rfl;refine blk_put (cs:=#[.slice Ao27 t498.length co27,.slice none 0 0,.bool false,.int .i64 0,.int .i64 0,.int .i64 0,.int .i64 0,.string (⟨#[]⟩:ByteArray),.slice none 0 0,.bool false,.int .i64 0]) ?_ 1 _ rfl;refine blk_put (cs:=#[.slice none 0 0,.slice none 0 0,.bool false,.int .i64 0,.int .i64 0,.int .i64 0,.int .i64 0,.string (⟨#[]⟩:ByteArray),.slice none 0 0,.bool false,.int .i64 0]) ?_ 0 _ rfl;(with_reducible repeat (first|refine blk_drewN ?_ _|refine blk_drew ?_|refine blk_alloc ?_ _));exact BK515.out))⟩;replace HB:Aside0 (Below w.heap.size w w32):=⟨(by rw[hw];exact(bw HB.out))⟩;clear hw;have hcz33_0:w32.cell? ⟨gb515,0,none⟩=some (.slice Ao27 t498.length co27):=(blk_cell BK515.out 0).trans rfl;have hcz33_1:w32.cell? ⟨gb515,1,none⟩=some (.slice Ao30 t501.length co30):=(blk_cell BK515.out 1).trans rfl;have hcz33_2:w32.cell? ⟨gb515,2,none⟩=some (.bool t504):=(blk_cell BK515.out 2).trans rfl;have hcz33_3:w32.cell? ⟨gb515,3,none⟩=some (.int .i64 t505):=(blk_cell BK515.out 3).trans rfl;have hcz33_4:w32.cell? ⟨gb515,4,none⟩=some (.int .i64 t506):=(blk_cell BK515.out 4).trans rfl;have hcz33_5:w32.cell? ⟨gb515,5,none⟩=some (.int .i64 t507):=(blk_cell BK515.out 5).trans rfl;have hcz33_6:w32.cell? ⟨gb515,6,none⟩=some (.int .i64 t508):=(blk_cell BK515.out 6).trans rfl;have hcz33_7:w32.cell? ⟨gb515,7,none⟩=some (.string t509):=(blk_cell BK515.out 7).trans rfl;have hcz33_8:w32.cell? ⟨gb515,8,none⟩=some (.slice Ao31 t510.length co31):=(blk_cell BK515.out 8).trans rfl;have hcz33_9:w32.cell? ⟨gb515,9,none⟩=some (.bool t513):=(blk_cell BK515.out 9).trans rfl;have hcz33_10:w32.cell? ⟨gb515,10,none⟩=some (.int .i64 t514):=(blk_cell BK515.out 10).trans rfl;have hfz33_0:=blk_frozen BK515.out 0;have hfz33_1:=blk_frozen BK515.out 1;have hfz33_2:=blk_frozen BK515.out 2;have hfz33_3:=blk_frozen BK515.out 3;have hfz33_4:=blk_frozen BK515.out 4;have hfz33_5:=blk_frozen BK515.out 5;have hfz33_6:=blk_frozen BK515.out 6;have hfz33_7:=blk_frozen BK515.out 7;have hfz33_8:=blk_frozen BK515.out 8;have hfz33_9:=blk_frozen BK515.out 9;have hfz33_10:=blk_frozen BK515.out 10)|((with_reducible refine gc_ 7 rfl ?_);refine goesL_ (some 18) rfl rfl Try.func7 (by kernel_rfl) rfl #[.agg #[.slice Ao27 t498.length co27,.slice Ao30 t501.length co30,.bool t504,.int .i64 t505,.int .i64 t506,.int .i64 t507,.int .i64 t508,.string t509,.slice Ao31 t510.length co31,.bool t513,.int .i64 t514]] rfl ar ?_;(with_reducible refine(impl_GoodInstance.calls k _ _ t498 _ _ t501 t504 t505 t506 t507 t508 t509 _ _ t510 t513 t514 t516 _ ?side1 ?side2 ?side3 ?side4 ?side5 ?side6 A10.out).mono ?_);(case side1=>repeat (first|exact(Kd.S_reads' HO500.out).2.2|(with_reducible refine Kd.C_alloc ?_ _)|(with_reducible refine Kd.C_drewN ?_ _)|(with_reducible refine Kd.C_drew ?_)));(case side2=>exact(Kd.S_reads' HO500.out).2.1);(case side3=>repeat (first|exact(Kd.R_reads' HO503.out).2.2|(with_reducible refine Kd.C_alloc ?_ _)|(with_reducible refine Kd.C_drewN ?_ _)|(with_reducible refine Kd.C_drew ?_)));(case side4=>exact(Kd.R_reads' HO503.out).2.1);(case side5=>repeat (first|exact(Kd.R_reads' HO512.out).2.2|(with_reducible refine Kd.C_alloc ?_ _)|(with_reducible refine Kd.C_drewN ?_ _)|(with_reducible refine Kd.C_drew ?_)));(case side6=>exact(Kd.R_reads' HO512.out).2.1);rintro e w34 ⟨rfl,hb⟩;refine⟨_,rfl,?_⟩;replace HO482:=A_ (Kd.S_below (ks_ HO482.out) hb);replace HO485:=A_ (Kd.R_below (kr_ HO485.out) hb);replace HO494:=A_ (Kd.R_below (kr_ HO494.out) hb);replace HO500:=A_ (Kd.S_below (ks_ HO500.out) hb);replace HO503:=A_ (Kd.R_below (kr_ HO503.out) hb);replace HO512:=A_ (Kd.R_below (kr_ HO512.out) hb);replace BK478:=kb_ BK478 hb;replace BK515:=kb_ BK515 hb;replace HB:=bs_ HB hb;(try clear hb)))
  have n0_:=A_ (Kd.S_drew HO482.out)
  have n1_:=A_ (Kd.R_drew HO485.out)
  have n2_:=A_ (Kd.R_drew HO494.out)
  have n3_:=A_ (Kd.S_drew HO500.out)
  have n4_:=A_ (Kd.R_drew HO503.out)
  have n5_:=A_ (Kd.R_drew HO512.out)
  have n6_:=A_ (blk_drew BK478.out)
  have n7_:=A_ (blk_drew BK515.out)
  have n8_:=A_ (below_drew1 HB.out)
  clear HO482 HO485 HO494 HO500 HO503 HO512 BK478 BK515 HB
  have HO482:=n0_
  have HO485:=n1_
  have HO494:=n2_
  have HO500:=n3_
  have HO503:=n4_
  have HO512:=n5_
  have BK478:=n6_
  have BK515:=n7_
  have HB:=n8_
  clear n0_ n1_ n2_ n3_ n4_ n5_ n6_ n7_ n8_
  refine start_ (n:=5) (S:=fun w'=>w'.cell? ⟨gb515,0,none⟩=some (.slice Ao27 t498.length co27)∧w'.cell? ⟨gb515,1,none⟩=some (.slice Ao30 t501.length co30)∧w'.cell? ⟨gb515,2,none⟩=some (.bool t504)∧w'.cell? ⟨gb515,3,none⟩=some (.int .i64 t505)∧w'.cell? ⟨gb515,4,none⟩=some (.int .i64 t506)∧w'.cell? ⟨gb515,5,none⟩=some (.int .i64 t507)∧w'.cell? ⟨gb515,6,none⟩=some (.int .i64 t508)∧w'.cell? ⟨gb515,7,none⟩=some (.string t509)∧w'.cell? ⟨gb515,8,none⟩=some (.slice Ao31 t510.length co31)∧w'.cell? ⟨gb515,9,none⟩=some (.bool t513)∧w'.cell? ⟨gb515,10,none⟩=some (.int .i64 t514)∧w'.cell? ⟨gb478,0,none⟩=some (.slice A0_0 l0_0.length c0_0)∧w'.cell? ⟨gb478,1,none⟩=some (.slice A0_1 l0_1.length c0_1)∧w'.cell? ⟨gb478,2,none⟩=some (.bool a0_2)∧w'.cell? ⟨gb478,3,none⟩=some (.int .i64 a0_3)∧w'.cell? ⟨gb478,4,none⟩=some (.int .i64 a0_4)∧w'.cell? ⟨gb478,5,none⟩=some (.int .i64 a0_5)∧w'.cell? ⟨gb478,6,none⟩=some (.int .i64 a0_6)∧w'.cell? ⟨gb478,7,none⟩=some (.string a0_7)∧w'.cell? ⟨gb478,8,none⟩=some (.slice A0_8 l0_8.length c0_8)∧w'.cell? ⟨gb478,9,none⟩=some (.bool a0_9)∧w'.cell? ⟨gb478,10,none⟩=some (.int .i64 a0_10)) (ds:=[]) #[false,false,false,false,false] (by kernel_rfl) rfl rfl ⟨(blk_cell BK515.out 0).trans rfl,(blk_cell BK515.out 1).trans rfl,(blk_cell BK515.out 2).trans rfl,(blk_cell BK515.out 3).trans rfl,(blk_cell BK515.out 4).trans rfl,(blk_cell BK515.out 5).trans rfl,(blk_cell BK515.out 6).trans rfl,(blk_cell BK515.out 7).trans rfl,(blk_cell BK515.out 8).trans rfl,(blk_cell BK515.out 9).trans rfl,(blk_cell BK515.out 10).trans rfl,(blk_cell BK478.out 0).trans rfl,(blk_cell BK478.out 1).trans rfl,(blk_cell BK478.out 2).trans rfl,(blk_cell BK478.out 3).trans rfl,(blk_cell BK478.out 4).trans rfl,(blk_cell BK478.out 5).trans rfl,(blk_cell BK478.out 6).trans rfl,(blk_cell BK478.out 7).trans rfl,(blk_cell BK478.out 8).trans rfl,(blk_cell BK478.out 9).trans rfl,(blk_cell BK478.out 10).trans rfl⟩ (fun hHeld=>?_)
  generalize w34.drew=w35 at HO482 HO485 HO494 HO500 HO503 HO512 BK478 BK515 HB hHeld ⊢
  refine take_ (i:=0) (N:=some 22) (v:=?_) (a':=?_) #[true,false,false,false,false] rfl rfl (by kernel_rfl) (fun _ _ _ h=>h) (Or.inl ⟨by rfl,?_⟩) hHeld ?_ ?_
  rotate_left
  ·
   rintro w' ⟨s0,s1,s2,s3,s4,s5,s6,s7,s8,s9,s10,s11,s12,s13,s14,s15,s16,s17,s18,s19,s20,s21⟩
   go_simp
   with_reducible rfl
  rotate_left
  ·
   simp only[Act.put,List.setIfInBounds_toArray,List.set_cons_zero,List.set_cons_succ,i64_w,i32_w]
   rfl
  refine take_ (i:=1) (N:=some 23) (v:=?_) (a':=?_) #[true,true,false,false,false] rfl rfl (by kernel_rfl) (fun _ _ _ h=>h) (Or.inl ⟨by rfl,?_⟩) hHeld ?_ ?_
  rotate_left
  ·
   rintro w' ⟨s0,s1,s2,s3,s4,s5,s6,s7,s8,s9,s10,s11,s12,s13,s14,s15,s16,s17,s18,s19,s20,s21⟩
   go_simp
   with_reducible rfl
  rotate_left
  ·
   simp only[Act.put,List.setIfInBounds_toArray,List.set_cons_zero,List.set_cons_succ,i64_w,i32_w]
   rfl
  refine one_ (i:=2) (N:=some 24) #[true,true,true,false,false] rfl rfl (by kernel_rfl) (by decide) (fun K hK=>?_)
  refine goes_ Try.func6 (by kernel_rfl) rfl #[.agg #[.slice A0_0 l0_0.length c0_0,.slice A0_1 l0_1.length c0_1,.bool a0_2,.int .i64 a0_3,.int .i64 a0_4,.int .i64 a0_5,.int .i64 a0_6,.string a0_7,.slice A0_8 l0_8.length c0_8,.bool a0_9,.int .i64 a0_10]] (by rfl) rfl rfl ar ?_
  with_reducible refine(laws_toInstance.calls k _ _ l0_0 _ _ l0_1 a0_2 a0_3 a0_4 a0_5 a0_6 a0_7 _ _ l0_8 a0_9 a0_10 t517 t520 t523 t524 t525 t526 t527 t528 t529 t532 t533 _ ?side1 ?side2 ?side3 ?side4 ?side5 ?side6 A12.out).mono ?_
  (case side1=>repeat (first|exact(Kd.C_below HR0_0.out HB.out)|(with_reducible refine Kd.C_alloc ?_ _)|(with_reducible refine Kd.C_drewN ?_ _)|(with_reducible refine Kd.C_drew ?_)))
  (case side2=>exact HC0_0.out)
  (case side3=>repeat (first|exact(Kd.C_below HR0_1.out HB.out)|(with_reducible refine Kd.C_alloc ?_ _)|(with_reducible refine Kd.C_drewN ?_ _)|(with_reducible refine Kd.C_drew ?_)))
  (case side4=>exact HC0_1.out)
  (case side5=>repeat (first|exact(Kd.C_below HR0_8.out HB.out)|(with_reducible refine Kd.C_alloc ?_ _)|(with_reducible refine Kd.C_drewN ?_ _)|(with_reducible refine Kd.C_drew ?_)))
  (case side6=>exact HC0_8.out)
  rintro e w36 ⟨v518,v521,v530,rfl,ho0,ho1,ho2,hb⟩
  refine⟨_,rfl,?_⟩
  have n0_:=A_ (Kd.S_elder' (ks_ HO482.out) (Kd.S_base ho0) hb)
  have n1_:=A_ (Kd.R_elder' (kr_ HO485.out) (Kd.R_base ho1) hb)
  have n2_:=A_ (Kd.R_elder' (kr_ HO494.out) (Kd.R_base ho2) hb)
  have n3_:=A_ (Kd.S_elder' (ks_ HO500.out) (Kd.S_base ho0) hb)
  have n4_:=A_ (Kd.R_elder' (kr_ HO503.out) (Kd.R_base ho1) hb)
  have n5_:=A_ (Kd.R_elder' (kr_ HO512.out) (Kd.R_base ho2) hb)
  have n6_:=A_ (Kd.S_lower (Kd.S_new' (Kd.S_new' ho0 (Kd.S_lt (ks_ HO482.out))) (Kd.S_lt (ks_ HO500.out))) (below_size (bw HB.out)))
  have n7_:=A_ (Kd.R_lower (Kd.R_new' (Kd.R_new' ho1 (Kd.R_lt (kr_ HO485.out))) (Kd.R_lt (kr_ HO503.out))) (below_size (bw HB.out)))
  have n8_:=A_ (Kd.R_lower (Kd.R_new' (Kd.R_new' ho2 (Kd.R_lt (kr_ HO494.out))) (Kd.R_lt (kr_ HO512.out))) (below_size (bw HB.out)))
  have n9_:=A_ (blk_below (g:=gb478) (o:=.cells #[.slice A0_0 l0_0.length c0_0,.slice A0_1 l0_1.length c0_1,.bool a0_2,.int .i64 a0_3,.int .i64 a0_4,.int .i64 a0_5,.int .i64 a0_6,.string a0_7,.slice A0_8 l0_8.length c0_8,.bool a0_9,.int .i64 a0_10] 32 (0,0)) (bk BK478.out) hb)
  have n10_:=A_ (blk_below (g:=gb515) (o:=.cells #[.slice Ao27 t498.length co27,.slice Ao30 t501.length co30,.bool t504,.int .i64 t505,.int .i64 t506,.int .i64 t507,.int .i64 t508,.string t509,.slice Ao31 t510.length co31,.bool t513,.int .i64 t514] 44 (0,0)) (bk BK515.out) hb)
  have n11_:=A_ (below_step (bw HB.out) hb)
  clear HO482 HO485 HO494 HO500 HO503 HO512 BK478 BK515 HB
  have HO482:=n0_
  have HO485:=n1_
  have HO494:=n2_
  have HO500:=n3_
  have HO503:=n4_
  have HO512:=n5_
  have HO519:=n6_
  have HO522:=n7_
  have HO531:=n8_
  have BK478:=n9_
  have BK515:=n10_
  have HB:=n11_
  clear n0_ n1_ n2_ n3_ n4_ n5_ n6_ n7_ n8_ n9_ n10_ n11_
  (try clear hb)
  (try clear hb2)
  (try clear hk)
  (try clear hi)
  (try clear ho0)
  (try clear ho1)
  (try clear ho2)
  obtain⟨Ao37,co37,eo37⟩:=Kd.S_slice HO519.out
  (first|subst eo37|(injection eo37 with f1_ f2_ f3_;have f4_:=f1_.symm;have f5_:=f3_.symm;clear f1_ f2_ f3_;subst f4_;subst f5_))
  obtain⟨Ao38,co38,eo38⟩:=Kd.R_slice HO522.out
  (first|subst eo38|(injection eo38 with f1_ f2_ f3_;have f4_:=f1_.symm;have f5_:=f3_.symm;clear f1_ f2_ f3_;subst f4_;subst f5_))
  obtain⟨Ao39,co39,eo39⟩:=Kd.R_slice HO531.out
  (first|subst eo39|(injection eo39 with f1_ f2_ f3_;have f4_:=f1_.symm;have f5_:=f3_.symm;clear f1_ f2_ f3_;subst f4_;subst f5_))
  refine hK.out _ _ ⟨(blk_cell BK515.out 0).trans rfl,(blk_cell BK515.out 1).trans rfl,(blk_cell BK515.out 2).trans rfl,(blk_cell BK515.out 3).trans rfl,(blk_cell BK515.out 4).trans rfl,(blk_cell BK515.out 5).trans rfl,(blk_cell BK515.out 6).trans rfl,(blk_cell BK515.out 7).trans rfl,(blk_cell BK515.out 8).trans rfl,(blk_cell BK515.out 9).trans rfl,(blk_cell BK515.out 10).trans rfl,(blk_cell BK478.out 0).trans rfl,(blk_cell BK478.out 1).trans rfl,(blk_cell BK478.out 2).trans rfl,(blk_cell BK478.out 3).trans rfl,(blk_cell BK478.out 4).trans rfl,(blk_cell BK478.out 5).trans rfl,(blk_cell BK478.out 6).trans rfl,(blk_cell BK478.out 7).trans rfl,(blk_cell BK478.out 8).trans rfl,(blk_cell BK478.out 9).trans rfl,(blk_cell BK478.out 10).trans rfl⟩ (fun hHeld=>?_)
  clear hK K
  refine nS (some 24) ?_
  refine one_ (i:=3) (N:=some 25) #[true,true,true,true,false] rfl rfl (by kernel_rfl) (by decide) (fun K hK=>?_)
  refine goes_ Try.func8 (by kernel_rfl) rfl #[.agg #[.slice Ao27 t498.length co27,.slice Ao30 t501.length co30,.bool t504,.int .i64 t505,.int .i64 t506,.int .i64 t507,.int .i64 t508,.string t509,.slice Ao31 t510.length co31,.bool t513,.int .i64 t514],.agg #[.slice Ao37 t517.length co37,.slice Ao38 t520.length co38,.bool t523,.int .i64 t524,.int .i64 t525,.int .i64 t526,.int .i64 t527,.string t528,.slice Ao39 t529.length co39,.bool t532,.int .i64 t533]] (by rfl) rfl rfl ar ?_
  with_reducible refine(laws_eqInstance.calls k _ _ t498 _ _ t501 t504 t505 t506 t507 t508 t509 _ _ t510 t513 t514 _ _ t517 _ _ t520 t523 t524 t525 t526 t527 t528 _ _ t529 t532 t533 true _ ?side1 ?side2 ?side3 ?side4 ?side5 ?side6 ?side7 ?side8 ?side9 ?side10 ?side11 ?side12 A13.out).mono ?_
  (case side1=>repeat (first|exact(Kd.S_reads' HO500.out).2.2|(with_reducible refine Kd.C_alloc ?_ _)|(with_reducible refine Kd.C_drewN ?_ _)|(with_reducible refine Kd.C_drew ?_)))
  (case side2=>exact(Kd.S_reads' HO500.out).2.1)
  (case side3=>repeat (first|exact(Kd.R_reads' HO503.out).2.2|(with_reducible refine Kd.C_alloc ?_ _)|(with_reducible refine Kd.C_drewN ?_ _)|(with_reducible refine Kd.C_drew ?_)))
  (case side4=>exact(Kd.R_reads' HO503.out).2.1)
  (case side5=>repeat (first|exact(Kd.R_reads' HO512.out).2.2|(with_reducible refine Kd.C_alloc ?_ _)|(with_reducible refine Kd.C_drewN ?_ _)|(with_reducible refine Kd.C_drew ?_)))
  (case side6=>exact(Kd.R_reads' HO512.out).2.1)
  (case side7=>repeat (first|exact(Kd.S_reads' HO519.out).2.2|(with_reducible refine Kd.C_alloc ?_ _)|(with_reducible refine Kd.C_drewN ?_ _)|(with_reducible refine Kd.C_drew ?_)))
  (case side8=>exact(Kd.S_reads' HO519.out).2.1)
  (case side9=>repeat (first|exact(Kd.R_reads' HO522.out).2.2|(with_reducible refine Kd.C_alloc ?_ _)|(with_reducible refine Kd.C_drewN ?_ _)|(with_reducible refine Kd.C_drew ?_)))
  (case side10=>exact(Kd.R_reads' HO522.out).2.1)
  (case side11=>repeat (first|exact(Kd.R_reads' HO531.out).2.2|(with_reducible refine Kd.C_alloc ?_ _)|(with_reducible refine Kd.C_drewN ?_ _)|(with_reducible refine Kd.C_drew ?_)))
  (case side12=>exact(Kd.R_reads' HO531.out).2.1)
  rintro e w40 ⟨rfl,hb⟩
  refine⟨_,rfl,?_⟩
  have n0_:=A_ (Kd.S_below (ks_ HO482.out) hb)
  have n1_:=A_ (Kd.R_below (kr_ HO485.out) hb)
  have n2_:=A_ (Kd.R_below (kr_ HO494.out) hb)
  have n3_:=A_ (Kd.S_below (ks_ HO500.out) hb)
  have n4_:=A_ (Kd.R_below (kr_ HO503.out) hb)
  have n5_:=A_ (Kd.R_below (kr_ HO512.out) hb)
  have n6_:=A_ (Kd.S_below (ks_ HO519.out) hb)
  have n7_:=A_ (Kd.R_below (kr_ HO522.out) hb)
  have n8_:=A_ (Kd.R_below (kr_ HO531.out) hb)
  have n9_:=A_ (blk_below (g:=gb478) (o:=.cells #[.slice A0_0 l0_0.length c0_0,.slice A0_1 l0_1.length c0_1,.bool a0_2,.int .i64 a0_3,.int .i64 a0_4,.int .i64 a0_5,.int .i64 a0_6,.string a0_7,.slice A0_8 l0_8.length c0_8,.bool a0_9,.int .i64 a0_10] 32 (0,0)) (bk BK478.out) hb)
  have n10_:=A_ (blk_below (g:=gb515) (o:=.cells #[.slice Ao27 t498.length co27,.slice Ao30 t501.length co30,.bool t504,.int .i64 t505,.int .i64 t506,.int .i64 t507,.int .i64 t508,.string t509,.slice Ao31 t510.length co31,.bool t513,.int .i64 t514] 44 (0,0)) (bk BK515.out) hb)
  have n11_:=A_ (below_step (bw HB.out) hb)
  clear HO482 HO485 HO494 HO500 HO503 HO512 HO519 HO522 HO531 BK478 BK515 HB
  have HO482:=n0_
  have HO485:=n1_
  have HO494:=n2_
  have HO500:=n3_
  have HO503:=n4_
  have HO512:=n5_
  have HO519:=n6_
  have HO522:=n7_
  have HO531:=n8_
  have BK478:=n9_
  have BK515:=n10_
  have HB:=n11_
  clear n0_ n1_ n2_ n3_ n4_ n5_ n6_ n7_ n8_ n9_ n10_ n11_
  (try clear hb)
  (try clear hb2)
  (try clear hk)
  (try clear hi)
  refine hK.out _ _ ⟨(blk_cell BK515.out 0).trans rfl,(blk_cell BK515.out 1).trans rfl,(blk_cell BK515.out 2).trans rfl,(blk_cell BK515.out 3).trans rfl,(blk_cell BK515.out 4).trans rfl,(blk_cell BK515.out 5).trans rfl,(blk_cell BK515.out 6).trans rfl,(blk_cell BK515.out 7).trans rfl,(blk_cell BK515.out 8).trans rfl,(blk_cell BK515.out 9).trans rfl,(blk_cell BK515.out 10).trans rfl,(blk_cell BK478.out 0).trans rfl,(blk_cell BK478.out 1).trans rfl,(blk_cell BK478.out 2).trans rfl,(blk_cell BK478.out 3).trans rfl,(blk_cell BK478.out 4).trans rfl,(blk_cell BK478.out 5).trans rfl,(blk_cell BK478.out 6).trans rfl,(blk_cell BK478.out 7).trans rfl,(blk_cell BK478.out 8).trans rfl,(blk_cell BK478.out 9).trans rfl,(blk_cell BK478.out 10).trans rfl⟩ (fun hHeld=>?_)
  clear hK K
  refine nS (some 25) ?_
  refine pure_ (i:=4) (N:=some 26) (v:=?_) (a':=?_) #[true,true,true,true,true] rfl rfl (by kernel_rfl) (fun _ _ _ h=>h) (Or.inl ⟨by rfl,?_⟩) ?_ ?_
  rotate_left
  ·
   intro w'
   go_simp
   with_reducible rfl
  rotate_left
  ·
   simp only[Act.put,List.setIfInBounds_toArray,List.set_cons_zero,List.set_cons_succ,i64_w,i32_w]
   rfl
  refine done_ (by kernel_rfl) ?_
  try go_wp2
  go_ret
  exact⟨rr_,bw HB.out⟩
 obtain rfl:=Option.some.inj H
 exact absurd HT.out (by decide)
/-- THE ONE PURE STATEMENT of laws_FnExactGoodInstance. -/
def laws_FnExactGoodInstance.Pure:Prop:=∀ (l0_0:List (S84)) (l0_1:List (S91)) (a0_2:Bool) (a0_3:Int) (a0_4:Int) (a0_5:Int) (a0_6:Int) (a0_7:ByteArray) (l0_8:List (S93)) (a0_9:Bool) (a0_10:Int),(l0_0.length≤maxLen∧∀ y1∈l0_0,((y1.f0.length≤maxLen∧∀ y2∈y1.f0,(Lit.int .i64 y2).wf=true)∧(Lit.int .i64 y1.f1).wf=true∧(y1.f2.length≤maxLen∧∀ y2∈y1.f2,(Lit.int .i64 y2).wf=true)∧(y1.f3.length≤maxLen∧∀ y2∈y1.f3,((Lit.int .i64 y2.f0).wf=true∧(Lit.int .i64 y2.f1).wf=true))))→(l0_1.length≤maxLen∧∀ y1∈l0_1,((Lit.int .i64 y1.f0).wf=true∧True∧(Lit.int .u64 y1.f2).wf=true))→(Lit.int .i64 a0_3).wf=true→(Lit.int .i64 a0_4).wf=true→(Lit.int .i64 a0_5).wf=true→(Lit.int .i64 a0_6).wf=true→a0_7.size≤maxLen→(l0_8.length≤maxLen∧∀ y1∈l0_8,((Lit.int .i64 y1.f0).wf=true∧(Lit.int .u64 y1.f1).wf=true))→(Lit.int .i64 a0_10).wf=true→∃ k,laws_FnExactGoodInstance.f k l0_0 l0_1 a0_2 a0_3 a0_4 a0_5 a0_6 a0_7 l0_8 a0_9 a0_10=some true

end Go.Proofs.Ytanhbfhmgmjdgaa.Q

