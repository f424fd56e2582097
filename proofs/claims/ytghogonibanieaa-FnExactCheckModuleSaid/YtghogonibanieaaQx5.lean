-- Written by a program of this session; it walks the functions that the law reaches.
import Derived.Test.YtghogonibanieaaQx0
import Derived.Test.YtghogonibanieaaQx4
namespace Go.Proofs.Ytghogonibanieaa.Q
open Go.RowKit Go.Proofs.YtghogonibanieaaW.PrintWords Go.Proofs.YtghogonibanieaaW.PrintLast Go.Proofs.YtghogonibanieaaW.PrintMore
attribute [local go_sem] max2_int min2_int max_two min_two max_three min_three max_four min_four   -- for this text's walks alone
set_option linter.unusedVariables false
set_option linter.unusedSimpArgs false
set_option maxRecDepth 100000
set_option maxHeartbeats 8000000

/-! ### laws_eqModule: function 10 -/
def laws_eqModule.f (k:Nat) (l0_0:List (S59)) (l0_1:List (S63)) (a0_2:Bool) (a0_3:Int) (a0_4:Int) (a0_5:Int) (l1_0:List (S59)) (l1_1:List (S63)) (a1_2:Bool) (a1_3:Int) (a1_4:Int) (a1_5:Int):Option (Bool):=(laws_eqFuncS.f k l0_0 l1_0).bind fun t194=>(if t194=true then ((laws_eqGlobalS.f k l0_1 l1_1).bind fun t195=>(if t195=true then (if (a0_2 !=a1_2)=true then (some false) else (if a0_3=a1_3 then (if a0_4=a1_4 then (if a0_5=a1_5 then (some true) else (some false)) else (some false)) else (some false))) else (some false))) else (some false))
theorem laws_eqModule.calls (k:Nat) (A0_0:Option Addr) (c0_0:Nat) (l0_0:List (S59)) (A0_1:Option Addr) (c0_1:Nat) (l0_1:List (S63)) (a0_2:Bool) (a0_3:Int) (a0_4:Int) (a0_5:Int) (A1_0:Option Addr) (c1_0:Nat) (l1_0:List (S59)) (A1_1:Option Addr) (c1_1:Nat) (l1_1:List (S63)) (a1_2:Bool) (a1_3:Int) (a1_4:Int) (a1_5:Int) (r:Bool) (w:World) (hr0_0:Kd.C k59 w A0_0 l0_0.length l0_0) (hc0_0:l0_0.length≤c0_0) (hr0_1:Kd.C k63 w A0_1 l0_1.length l0_1) (hc0_1:l0_1.length≤c0_1) (hr1_0:Kd.C k59 w A1_0 l1_0.length l1_0) (hc1_0:l1_0.length≤c1_0) (hr1_1:Kd.C k63 w A1_1 l1_1.length l1_1) (hc1_1:l1_1.length≤c1_1) (h:laws_eqModule.f k l0_0 l0_1 a0_2 a0_3 a0_4 a0_5 l1_0 l1_1 a1_2 a1_3 a1_4 a1_5=some r):
  Calls Try.prog 10 #[.agg #[.slice A0_0 l0_0.length c0_0,.slice A0_1 l0_1.length c0_1,.bool a0_2,.int .i64 a0_3,.int .i64 a0_4,.int .i64 a0_5],.agg #[.slice A1_0 l1_0.length c1_0,.slice A1_1 l1_1.length c1_1,.bool a1_2,.int .i64 a1_3,.int .i64 a1_4,.int .i64 a1_5]] w fun e w'=>e=.returned (.bool r)∧Below w.heap.size w w':=by
 have hu32:=Try.underlying32
 have HR0_0:=A_ hr0_0
 have HC0_0:=A_ hc0_0
 clear hr0_0 hc0_0
 have HR0_1:=A_ hr0_1
 have HC0_1:=A_ hc0_1
 clear hr0_1 hc0_1
 have HR1_0:=A_ hr1_0
 have HC1_0:=A_ hc1_0
 clear hr1_0 hc1_0
 have HR1_1:=A_ hr1_1
 have HC1_1:=A_ hc1_1
 clear hr1_1 hc1_1
 have HB:=A_ (Below.refl w.heap.size w)
 have H:((laws_eqFuncS.f k l0_0 l1_0).bind fun t194=>(if t194=true then ((laws_eqGlobalS.f k l0_1 l1_1).bind fun t195=>(if t195=true then (if (a0_2 !=a1_2)=true then (some false) else (if a0_3=a1_3 then (if a0_4=a1_4 then (if a0_5=a1_5 then (some true) else (some false)) else (some false)) else (some false))) else (some false))) else (some false)))=some r:=h
 clear h
 replace H:=bi_ H
 obtain⟨t194,A30,H⟩:=H
 have A3:=A_ A30
 clear A30
 by_cases c4:t194=true
 ·
  subst c4
  replace H:=iT_ H
  replace H:=bi_ H
  obtain⟨t195,A50,H⟩:=H
  have A5:=A_ A50
  clear A50
  by_cases c6:t195=true
  ·
   subst c6
   replace H:=iT_ H
   by_cases c7:(a0_2 !=a1_2)=true
   ·
    rw[if_pos c7] at H
    have c7b0:(a0_2 !=a1_2)=true:=c7
    (try (have c7b1:decide (a0_2=a1_2)=false:=by simpa using c7))
    (try (have c7b2:(a0_2==a1_2)=false:=by simpa using c7))
    (try (have c7b3:¬(a0_2=a1_2):=by simpa using c7))
    clear c7
    obtain rfl:=Option.some.inj H
    clear H
    go_enter Try.func10,Try.ntmps10
    go_wp2_with (first|((with_reducible refine gd_ 2 rfl ?_);refine bx_ #[.slice A0_0 l0_0.length c0_0,.slice A0_1 l0_1.length c0_1,.bool a0_2,.int .i64 a0_3,.int .i64 a0_4,.int .i64 a0_5] 32 ?_;intro gb192 hg w8 hbox hb;have BK192:=A_ hbox;have GW192:=gw_ hg HB;have GE192:=GW192;replace HB:=bs_ HB hb;clear hb hbox hg)|((with_reducible refine gd_ 3 rfl ?_);refine bx_ #[.slice A1_0 l1_0.length c1_0,.slice A1_1 l1_1.length c1_1,.bool a1_2,.int .i64 a1_3,.int .i64 a1_4,.int .i64 a1_5] 32 ?_;intro gb193 hg w9 hbox hb;have BK193:=A_ hbox;have GW193:=gw_ hg HB;have GE193:=GW193;obtain⟨NB192_193,NB193_192⟩:=nb_ BK192 hg;replace BK192:=kb_ BK192 hb;replace HB:=bs_ HB hb;clear hb hbox hg;have hnb10:=NB192_193.out;have hnc10:=NB193_192.out;obtain⟨hcz11_0,hcz11_1,hcz11_2,hcz11_3,hcz11_4,hcz11_5⟩:=cs6_ BK192.out;obtain⟨hfz11_0,hfz11_1,hfz11_2,hfz11_3,hfz11_4,hfz11_5⟩:=fz6_ BK192.out;obtain⟨hcz12_0,hcz12_1,hcz12_2,hcz12_3,hcz12_4,hcz12_5⟩:=cs6_ BK193.out;obtain⟨hfz12_0,hfz12_1,hfz12_2,hfz12_3,hfz12_4,hfz12_5⟩:=fz6_ BK193.out)|((with_reducible refine gc_ 24 rfl ?_);refine gm_ (some 9) Try.func24 (laws_eqFuncS.calls k _ _ l0_0 _ _ l1_0 true _ (cb_ HR0_0 HB) HC0_0.out (cb_ HR1_0 HB) HC1_0.out A3.out) ?_;intro w13 hb;replace BK192:=kb_ BK192 hb;replace BK193:=kb_ BK193 hb;replace HB:=bs_ HB hb;(try clear hb);obtain⟨hcz14_0,hcz14_1,hcz14_2,hcz14_3,hcz14_4,hcz14_5⟩:=cs6_ BK192.out;obtain⟨hfz14_0,hfz14_1,hfz14_2,hfz14_3,hfz14_4,hfz14_5⟩:=fz6_ BK192.out;obtain⟨hcz15_0,hcz15_1,hcz15_2,hcz15_3,hcz15_4,hcz15_5⟩:=cs6_ BK193.out;obtain⟨hfz15_0,hfz15_1,hfz15_2,hfz15_3,hfz15_4,hfz15_5⟩:=fz6_ BK193.out)|((with_reducible refine gc_ 25 rfl ?_);refine gm_ (some 15) Try.func25 (laws_eqGlobalS.calls k _ _ l0_1 _ _ l1_1 true _ (cb_ HR0_1 HB) HC0_1.out (cb_ HR1_1 HB) HC1_1.out A5.out) ?_;intro w16 hb;replace BK192:=kb_ BK192 hb;replace BK193:=kb_ BK193 hb;replace HB:=bs_ HB hb;(try clear hb);obtain⟨hcz17_0,hcz17_1,hcz17_2,hcz17_3,hcz17_4,hcz17_5⟩:=cs6_ BK192.out;obtain⟨hfz17_0,hfz17_1,hfz17_2,hfz17_3,hfz17_4,hfz17_5⟩:=fz6_ BK192.out;obtain⟨hcz18_0,hcz18_1,hcz18_2,hcz18_3,hcz18_4,hcz18_5⟩:=cs6_ BK193.out;obtain⟨hfz18_0,hfz18_1,hfz18_2,hfz18_3,hfz18_4,hfz18_5⟩:=fz6_ BK193.out))
    go_ret
    exact⟨rr_,bw HB.out⟩
   rw[if_neg c7] at H
   have c7b0:(a0_2 !=a1_2)=false:=by simpa using c7
   (try (have c7b1:decide (a0_2=a1_2)=true:=by simpa using c7))
   (try (have c7b2:(a0_2==a1_2)=true:=by simpa using c7))
   clear c7
   by_cases c19:a0_3=a1_3
   ·
    rw[if_pos c19] at H
    obtain⟨c19b0,c19b1⟩:=eT_ c19
    clear c19
    by_cases c20:a0_4=a1_4
    ·
     rw[if_pos c20] at H
     obtain⟨c20b0,c20b1⟩:=eT_ c20
     clear c20
     by_cases c21:a0_5=a1_5
     ·
      rw[if_pos c21] at H
      obtain⟨c21b0,c21b1⟩:=eT_ c21
      clear c21
      obtain rfl:=Option.some.inj H
      clear H
      go_enter Try.func10,Try.ntmps10
      go_wp2_with (first|((with_reducible refine gd_ 2 rfl ?_);refine bx_ #[.slice A0_0 l0_0.length c0_0,.slice A0_1 l0_1.length c0_1,.bool a0_2,.int .i64 a0_3,.int .i64 a0_4,.int .i64 a0_5] 32 ?_;intro gb192 hg w22 hbox hb;have BK192:=A_ hbox;have GW192:=gw_ hg HB;have GE192:=GW192;replace HB:=bs_ HB hb;clear hb hbox hg)|((with_reducible refine gd_ 3 rfl ?_);refine bx_ #[.slice A1_0 l1_0.length c1_0,.slice A1_1 l1_1.length c1_1,.bool a1_2,.int .i64 a1_3,.int .i64 a1_4,.int .i64 a1_5] 32 ?_;intro gb193 hg w23 hbox hb;have BK193:=A_ hbox;have GW193:=gw_ hg HB;have GE193:=GW193;obtain⟨NB192_193,NB193_192⟩:=nb_ BK192 hg;replace BK192:=kb_ BK192 hb;replace HB:=bs_ HB hb;clear hb hbox hg;have hnb24:=NB192_193.out;have hnc24:=NB193_192.out;obtain⟨hcz25_0,hcz25_1,hcz25_2,hcz25_3,hcz25_4,hcz25_5⟩:=cs6_ BK192.out;obtain⟨hfz25_0,hfz25_1,hfz25_2,hfz25_3,hfz25_4,hfz25_5⟩:=fz6_ BK192.out;obtain⟨hcz26_0,hcz26_1,hcz26_2,hcz26_3,hcz26_4,hcz26_5⟩:=cs6_ BK193.out;obtain⟨hfz26_0,hfz26_1,hfz26_2,hfz26_3,hfz26_4,hfz26_5⟩:=fz6_ BK193.out)|((with_reducible refine gc_ 24 rfl ?_);refine gm_ (some 9) Try.func24 (laws_eqFuncS.calls k _ _ l0_0 _ _ l1_0 true _ (cb_ HR0_0 HB) HC0_0.out (cb_ HR1_0 HB) HC1_0.out A3.out) ?_;intro w27 hb;replace BK192:=kb_ BK192 hb;replace BK193:=kb_ BK193 hb;replace HB:=bs_ HB hb;(try clear hb);obtain⟨hcz28_0,hcz28_1,hcz28_2,hcz28_3,hcz28_4,hcz28_5⟩:=cs6_ BK192.out;obtain⟨hfz28_0,hfz28_1,hfz28_2,hfz28_3,hfz28_4,hfz28_5⟩:=fz6_ BK192.out;obtain⟨hcz29_0,hcz29_1,hcz29_2,hcz29_3,hcz29_4,hcz29_5⟩:=cs6_ BK193.out;obtain⟨hfz29_0,hfz29_1,hfz29_2,hfz29_3,hfz29_4,hfz29_5⟩:=fz6_ BK193.out)|((with_reducible refine gc_ 25 rfl ?_);refine gm_ (some 15) Try.func25 (laws_eqGlobalS.calls k _ _ l0_1 _ _ l1_1 true _ (cb_ HR0_1 HB) HC0_1.out (cb_ HR1_1 HB) HC1_1.out A5.out) ?_;intro w30 hb;replace BK192:=kb_ BK192 hb;replace BK193:=kb_ BK193 hb;replace HB:=bs_ HB hb;(try clear hb);obtain⟨hcz31_0,hcz31_1,hcz31_2,hcz31_3,hcz31_4,hcz31_5⟩:=cs6_ BK192.out;obtain⟨hfz31_0,hfz31_1,hfz31_2,hfz31_3,hfz31_4,hfz31_5⟩:=fz6_ BK192.out;obtain⟨hcz32_0,hcz32_1,hcz32_2,hcz32_3,hcz32_4,hcz32_5⟩:=cs6_ BK193.out;obtain⟨hfz32_0,hfz32_1,hfz32_2,hfz32_3,hfz32_4,hfz32_5⟩:=fz6_ BK193.out))
      go_ret
      exact⟨rr_,bw HB.out⟩
     rw[if_neg c21] at H
     obtain⟨c21b0,c21b1⟩:=eF_ c21
     obtain rfl:=Option.some.inj H
     clear H
     go_enter Try.func10,Try.ntmps10
     go_wp2_with (first|((with_reducible refine gd_ 2 rfl ?_);refine bx_ #[.slice A0_0 l0_0.length c0_0,.slice A0_1 l0_1.length c0_1,.bool a0_2,.int .i64 a0_3,.int .i64 a0_4,.int .i64 a0_5] 32 ?_;intro gb192 hg w33 hbox hb;have BK192:=A_ hbox;have GW192:=gw_ hg HB;have GE192:=GW192;replace HB:=bs_ HB hb;clear hb hbox hg)|((with_reducible refine gd_ 3 rfl ?_);refine bx_ #[.slice A1_0 l1_0.length c1_0,.slice A1_1 l1_1.length c1_1,.bool a1_2,.int .i64 a1_3,.int .i64 a1_4,.int .i64 a1_5] 32 ?_;intro gb193 hg w34 hbox hb;have BK193:=A_ hbox;have GW193:=gw_ hg HB;have GE193:=GW193;obtain⟨NB192_193,NB193_192⟩:=nb_ BK192 hg;replace BK192:=kb_ BK192 hb;replace HB:=bs_ HB hb;clear hb hbox hg;have hnb35:=NB192_193.out;have hnc35:=NB193_192.out;obtain⟨hcz36_0,hcz36_1,hcz36_2,hcz36_3,hcz36_4,hcz36_5⟩:=cs6_ BK192.out;obtain⟨hfz36_0,hfz36_1,hfz36_2,hfz36_3,hfz36_4,hfz36_5⟩:=fz6_ BK192.out;obtain⟨hcz37_0,hcz37_1,hcz37_2,hcz37_3,hcz37_4,hcz37_5⟩:=cs6_ BK193.out;obtain⟨hfz37_0,hfz37_1,hfz37_2,hfz37_3,hfz37_4,hfz37_5⟩:=fz6_ BK193.out)|((with_reducible refine gc_ 24 rfl ?_);refine gm_ (some 9) Try.func24 (laws_eqFuncS.calls k _ _ l0_0 _ _ l1_0 true _ (cb_ HR0_0 HB) HC0_0.out (cb_ HR1_0 HB) HC1_0.out A3.out) ?_;intro w38 hb;replace BK192:=kb_ BK192 hb;replace BK193:=kb_ BK193 hb;replace HB:=bs_ HB hb;(try clear hb);obtain⟨hcz39_0,hcz39_1,hcz39_2,hcz39_3,hcz39_4,hcz39_5⟩:=cs6_ BK192.out;obtain⟨hfz39_0,hfz39_1,hfz39_2,hfz39_3,hfz39_4,hfz39_5⟩:=fz6_ BK192.out;obtain⟨hcz40_0,hcz40_1,hcz40_2,hcz40_3,hcz40_4,hcz40_5⟩:=cs6_ BK193.out;obtain⟨hfz40_0,hfz40_1,hfz40_2,hfz40_3,hfz40_4,hfz40_5⟩:=fz6_ BK193.out)|((with_reducible refine gc_ 25 rfl ?_);refine gm_ (some 15) Try.func25 (laws_eqGlobalS.calls k _ _ l0_1 _ _ l1_1 true _ (cb_ HR0_1 HB) HC0_1.out (cb_ HR1_1 HB) HC1_1.out A5.out) ?_;intro w41 hb;replace BK192:=kb_ BK192 hb;replace BK193:=kb_ BK193 hb;replace HB:=bs_ HB hb;(try clear hb);obtain⟨hcz42_0,hcz42_1,hcz42_2,hcz42_3,hcz42_4,hcz42_5⟩:=cs6_ BK192.out;obtain⟨hfz42_0,hfz42_1,hfz42_2,hfz42_3,hfz42_4,hfz42_5⟩:=fz6_ BK192.out;obtain⟨hcz43_0,hcz43_1,hcz43_2,hcz43_3,hcz43_4,hcz43_5⟩:=cs6_ BK193.out;obtain⟨hfz43_0,hfz43_1,hfz43_2,hfz43_3,hfz43_4,hfz43_5⟩:=fz6_ BK193.out))
     go_ret
     exact⟨rr_,bw HB.out⟩
    rw[if_neg c20] at H
    obtain⟨c20b0,c20b1⟩:=eF_ c20
    obtain rfl:=Option.some.inj H
    clear H
    go_enter Try.func10,Try.ntmps10
    go_wp2_with (first|((with_reducible refine gd_ 2 rfl ?_);refine bx_ #[.slice A0_0 l0_0.length c0_0,.slice A0_1 l0_1.length c0_1,.bool a0_2,.int .i64 a0_3,.int .i64 a0_4,.int .i64 a0_5] 32 ?_;intro gb192 hg w44 hbox hb;have BK192:=A_ hbox;have GW192:=gw_ hg HB;have GE192:=GW192;replace HB:=bs_ HB hb;clear hb hbox hg)|((with_reducible refine gd_ 3 rfl ?_);refine bx_ #[.slice A1_0 l1_0.length c1_0,.slice A1_1 l1_1.length c1_1,.bool a1_2,.int .i64 a1_3,.int .i64 a1_4,.int .i64 a1_5] 32 ?_;intro gb193 hg w45 hbox hb;have BK193:=A_ hbox;have GW193:=gw_ hg HB;have GE193:=GW193;obtain⟨NB192_193,NB193_192⟩:=nb_ BK192 hg;replace BK192:=kb_ BK192 hb;replace HB:=bs_ HB hb;clear hb hbox hg;have hnb46:=NB192_193.out;have hnc46:=NB193_192.out;obtain⟨hcz47_0,hcz47_1,hcz47_2,hcz47_3,hcz47_4,hcz47_5⟩:=cs6_ BK192.out;obtain⟨hfz47_0,hfz47_1,hfz47_2,hfz47_3,hfz47_4,hfz47_5⟩:=fz6_ BK192.out;obtain⟨hcz48_0,hcz48_1,hcz48_2,hcz48_3,hcz48_4,hcz48_5⟩:=cs6_ BK193.out;obtain⟨hfz48_0,hfz48_1,hfz48_2,hfz48_3,hfz48_4,hfz48_5⟩:=fz6_ BK193.out)|((with_reducible refine gc_ 24 rfl ?_);refine gm_ (some 9) Try.func24 (laws_eqFuncS.calls k _ _ l0_0 _ _ l1_0 true _ (cb_ HR0_0 HB) HC0_0.out (cb_ HR1_0 HB) HC1_0.out A3.out) ?_;intro w49 hb;replace BK192:=kb_ BK192 hb;replace BK193:=kb_ BK193 hb;replace HB:=bs_ HB hb;(try clear hb);obtain⟨hcz50_0,hcz50_1,hcz50_2,hcz50_3,hcz50_4,hcz50_5⟩:=cs6_ BK192.out;obtain⟨hfz50_0,hfz50_1,hfz50_2,hfz50_3,hfz50_4,hfz50_5⟩:=fz6_ BK192.out;obtain⟨hcz51_0,hcz51_1,hcz51_2,hcz51_3,hcz51_4,hcz51_5⟩:=cs6_ BK193.out;obtain⟨hfz51_0,hfz51_1,hfz51_2,hfz51_3,hfz51_4,hfz51_5⟩:=fz6_ BK193.out)|((with_reducible refine gc_ 25 rfl ?_);refine gm_ (some 15) Try.func25 (laws_eqGlobalS.calls k _ _ l0_1 _ _ l1_1 true _ (cb_ HR0_1 HB) HC0_1.out (cb_ HR1_1 HB) HC1_1.out A5.out) ?_;intro w52 hb;replace BK192:=kb_ BK192 hb;replace BK193:=kb_ BK193 hb;replace HB:=bs_ HB hb;(try clear hb);obtain⟨hcz53_0,hcz53_1,hcz53_2,hcz53_3,hcz53_4,hcz53_5⟩:=cs6_ BK192.out;obtain⟨hfz53_0,hfz53_1,hfz53_2,hfz53_3,hfz53_4,hfz53_5⟩:=fz6_ BK192.out;obtain⟨hcz54_0,hcz54_1,hcz54_2,hcz54_3,hcz54_4,hcz54_5⟩:=cs6_ BK193.out;obtain⟨hfz54_0,hfz54_1,hfz54_2,hfz54_3,hfz54_4,hfz54_5⟩:=fz6_ BK193.out))
    go_ret
    exact⟨rr_,bw HB.out⟩
   rw[if_neg c19] at H
   obtain⟨c19b0,c19b1⟩:=eF_ c19
   obtain rfl:=Option.some.inj H
   clear H
   go_enter Try.func10,Try.ntmps10
   go_wp2_with (first|((with_reducible refine gd_ 2 rfl ?_);refine bx_ #[.slice A0_0 l0_0.length c0_0,.slice A0_1 l0_1.length c0_1,.bool a0_2,.int .i64 a0_3,.int .i64 a0_4,.int .i64 a0_5] 32 ?_;intro gb192 hg w55 hbox hb;have BK192:=A_ hbox;have GW192:=gw_ hg HB;have GE192:=GW192;replace HB:=bs_ HB hb;clear hb hbox hg)|((with_reducible refine gd_ 3 rfl ?_);refine bx_ #[.slice A1_0 l1_0.length c1_0,.slice A1_1 l1_1.length c1_1,.bool a1_2,.int .i64 a1_3,.int .i64 a1_4,.int .i64 a1_5] 32 ?_;intro gb193 hg w56 hbox hb;have BK193:=A_ hbox;have GW193:=gw_ hg HB;have GE193:=GW193;obtain⟨NB192_193,NB193_192⟩:=nb_ BK192 hg;replace BK192:=kb_ BK192 hb;replace HB:=bs_ HB hb;clear hb hbox hg;have hnb57:=NB192_193.out;have hnc57:=NB193_192.out;obtain⟨hcz58_0,hcz58_1,hcz58_2,hcz58_3,hcz58_4,hcz58_5⟩:=cs6_ BK192.out;obtain⟨hfz58_0,hfz58_1,hfz58_2,hfz58_3,hfz58_4,hfz58_5⟩:=fz6_ BK192.out;obtain⟨hcz59_0,hcz59_1,hcz59_2,hcz59_3,hcz59_4,hcz59_5⟩:=cs6_ BK193.out;obtain⟨hfz59_0,hfz59_1,hfz59_2,hfz59_3,hfz59_4,hfz59_5⟩:=fz6_ BK193.out)|((with_reducible refine gc_ 24 rfl ?_);refine gm_ (some 9) Try.func24 (laws_eqFuncS.calls k _ _ l0_0 _ _ l1_0 true _ (cb_ HR0_0 HB) HC0_0.out (cb_ HR1_0 HB) HC1_0.out A3.out) ?_;intro w60 hb;replace BK192:=kb_ BK192 hb;replace BK193:=kb_ BK193 hb;replace HB:=bs_ HB hb;(try clear hb);obtain⟨hcz61_0,hcz61_1,hcz61_2,hcz61_3,hcz61_4,hcz61_5⟩:=cs6_ BK192.out;obtain⟨hfz61_0,hfz61_1,hfz61_2,hfz61_3,hfz61_4,hfz61_5⟩:=fz6_ BK192.out;obtain⟨hcz62_0,hcz62_1,hcz62_2,hcz62_3,hcz62_4,hcz62_5⟩:=cs6_ BK193.out;obtain⟨hfz62_0,hfz62_1,hfz62_2,hfz62_3,hfz62_4,hfz62_5⟩:=fz6_ BK193.out)|((with_reducible refine gc_ 25 rfl ?_);refine gm_ (some 15) Try.func25 (laws_eqGlobalS.calls k _ _ l0_1 _ _ l1_1 true _ (cb_ HR0_1 HB) HC0_1.out (cb_ HR1_1 HB) HC1_1.out A5.out) ?_;intro w63 hb;replace BK192:=kb_ BK192 hb;replace BK193:=kb_ BK193 hb;replace HB:=bs_ HB hb;(try clear hb);obtain⟨hcz64_0,hcz64_1,hcz64_2,hcz64_3,hcz64_4,hcz64_5⟩:=cs6_ BK192.out;obtain⟨hfz64_0,hfz64_1,hfz64_2,hfz64_3,hfz64_4,hfz64_5⟩:=fz6_ BK192.out;obtain⟨hcz65_0,hcz65_1,hcz65_2,hcz65_3,hcz65_4,hcz65_5⟩:=cs6_ BK193.out;obtain⟨hfz65_0,hfz65_1,hfz65_2,hfz65_3,hfz65_4,hfz65_5⟩:=fz6_ BK193.out))
   go_ret
   exact⟨rr_,bw HB.out⟩
  replace c6:=Bool.eq_false_iff.mpr c6
  subst c6
  replace H:=iF_ H
  obtain rfl:=Option.some.inj H
  clear H
  go_enter Try.func10,Try.ntmps10
  go_wp2_with (first|((with_reducible refine gd_ 2 rfl ?_);refine bx_ #[.slice A0_0 l0_0.length c0_0,.slice A0_1 l0_1.length c0_1,.bool a0_2,.int .i64 a0_3,.int .i64 a0_4,.int .i64 a0_5] 32 ?_;intro gb192 hg w66 hbox hb;have BK192:=A_ hbox;have GW192:=gw_ hg HB;have GE192:=GW192;replace HB:=bs_ HB hb;clear hb hbox hg)|((with_reducible refine gd_ 3 rfl ?_);refine bx_ #[.slice A1_0 l1_0.length c1_0,.slice A1_1 l1_1.length c1_1,.bool a1_2,.int .i64 a1_3,.int .i64 a1_4,.int .i64 a1_5] 32 ?_;intro gb193 hg w67 hbox hb;have BK193:=A_ hbox;have GW193:=gw_ hg HB;have GE193:=GW193;obtain⟨NB192_193,NB193_192⟩:=nb_ BK192 hg;replace BK192:=kb_ BK192 hb;replace HB:=bs_ HB hb;clear hb hbox hg;have hnb68:=NB192_193.out;have hnc68:=NB193_192.out;obtain⟨hcz69_0,hcz69_1,hcz69_2,hcz69_3,hcz69_4,hcz69_5⟩:=cs6_ BK192.out;obtain⟨hfz69_0,hfz69_1,hfz69_2,hfz69_3,hfz69_4,hfz69_5⟩:=fz6_ BK192.out;obtain⟨hcz70_0,hcz70_1,hcz70_2,hcz70_3,hcz70_4,hcz70_5⟩:=cs6_ BK193.out;obtain⟨hfz70_0,hfz70_1,hfz70_2,hfz70_3,hfz70_4,hfz70_5⟩:=fz6_ BK193.out)|((with_reducible refine gc_ 24 rfl ?_);refine gm_ (some 9) Try.func24 (laws_eqFuncS.calls k _ _ l0_0 _ _ l1_0 true _ (cb_ HR0_0 HB) HC0_0.out (cb_ HR1_0 HB) HC1_0.out A3.out) ?_;intro w71 hb;replace BK192:=kb_ BK192 hb;replace BK193:=kb_ BK193 hb;replace HB:=bs_ HB hb;(try clear hb);obtain⟨hcz72_0,hcz72_1,hcz72_2,hcz72_3,hcz72_4,hcz72_5⟩:=cs6_ BK192.out;obtain⟨hfz72_0,hfz72_1,hfz72_2,hfz72_3,hfz72_4,hfz72_5⟩:=fz6_ BK192.out;obtain⟨hcz73_0,hcz73_1,hcz73_2,hcz73_3,hcz73_4,hcz73_5⟩:=cs6_ BK193.out;obtain⟨hfz73_0,hfz73_1,hfz73_2,hfz73_3,hfz73_4,hfz73_5⟩:=fz6_ BK193.out)|((with_reducible refine gc_ 25 rfl ?_);refine gm_ (some 15) Try.func25 (laws_eqGlobalS.calls k _ _ l0_1 _ _ l1_1 false _ (cb_ HR0_1 HB) HC0_1.out (cb_ HR1_1 HB) HC1_1.out A5.out) ?_;intro w74 hb;replace BK192:=kb_ BK192 hb;replace BK193:=kb_ BK193 hb;replace HB:=bs_ HB hb;(try clear hb)))
  go_ret
  exact⟨rr_,bw HB.out⟩
 replace c4:=Bool.eq_false_iff.mpr c4
 subst c4
 replace H:=iF_ H
 obtain rfl:=Option.some.inj H
 clear H
 go_enter Try.func10,Try.ntmps10
 go_wp2_with (first|((with_reducible refine gd_ 2 rfl ?_);refine bx_ #[.slice A0_0 l0_0.length c0_0,.slice A0_1 l0_1.length c0_1,.bool a0_2,.int .i64 a0_3,.int .i64 a0_4,.int .i64 a0_5] 32 ?_;intro gb192 hg w75 hbox hb;have BK192:=A_ hbox;have GW192:=gw_ hg HB;have GE192:=GW192;replace HB:=bs_ HB hb;clear hb hbox hg)|((with_reducible refine gd_ 3 rfl ?_);refine bx_ #[.slice A1_0 l1_0.length c1_0,.slice A1_1 l1_1.length c1_1,.bool a1_2,.int .i64 a1_3,.int .i64 a1_4,.int .i64 a1_5] 32 ?_;intro gb193 hg w76 hbox hb;have BK193:=A_ hbox;have GW193:=gw_ hg HB;have GE193:=GW193;obtain⟨NB192_193,NB193_192⟩:=nb_ BK192 hg;replace BK192:=kb_ BK192 hb;replace HB:=bs_ HB hb;clear hb hbox hg;have hnb77:=NB192_193.out;have hnc77:=NB193_192.out;obtain⟨hcz78_0,hcz78_1,hcz78_2,hcz78_3,hcz78_4,hcz78_5⟩:=cs6_ BK192.out;obtain⟨hfz78_0,hfz78_1,hfz78_2,hfz78_3,hfz78_4,hfz78_5⟩:=fz6_ BK192.out;obtain⟨hcz79_0,hcz79_1,hcz79_2,hcz79_3,hcz79_4,hcz79_5⟩:=cs6_ BK193.out;obtain⟨hfz79_0,hfz79_1,hfz79_2,hfz79_3,hfz79_4,hfz79_5⟩:=fz6_ BK193.out)|((with_reducible refine gc_ 24 rfl ?_);refine gm_ (some 9) Try.func24 (laws_eqFuncS.calls k _ _ l0_0 _ _ l1_0 false _ (cb_ HR0_0 HB) HC0_0.out (cb_ HR1_0 HB) HC1_0.out A3.out) ?_;intro w80 hb;replace BK192:=kb_ BK192 hb;replace BK193:=kb_ BK193 hb;replace HB:=bs_ HB hb;(try clear hb)))
 go_ret
 exact⟨rr_,bw HB.out⟩

/-! ### spec_l1In: function 18 -/
def spec_l1In.f (a0:Int) (a1:Int) (a2:Int):Option (Bool):=if a0≥a1 then (some (decide (a0≤a2))) else (some false)
theorem spec_l1In.calls (a0:Int) (a1:Int) (a2:Int) (r:Bool) (w:World) (h:spec_l1In.f a0 a1 a2=some r):
  Calls Try.prog 18 #[.int .i64 a0,.int .i64 a1,.int .i64 a2] w fun e w'=>e=.returned (.bool r)∧Drawn0 w w':=by
 have H:(if a0≥a1 then (some (decide (a0≤a2))) else (some false))=some r:=h
 clear h
 by_cases c4:a0≥a1
 ·
  rw[if_pos c4] at H
  have c4b0:=decide_eq_true c4
  clear c4
  obtain rfl:=Option.some.inj H
  clear H
  go_enter Try.func18,Try.ntmps18
  go_wp2
  go_ret
  exact⟨rs_,dr_⟩
 rw[if_neg c4] at H
 have c4b0:=decide_eq_false c4
 clear c4
 obtain rfl:=Option.some.inj H
 clear H
 go_enter Try.func18,Try.ntmps18
 go_wp2
 go_ret
 exact⟨rs_,dr_⟩

/-! ### spec_l6Type: function 28 -/
def spec_l6Type.f (a0:Int):Option (Bool):=(spec_l1In.f a0 125 127).bind fun t196=>(some t196)
theorem spec_l6Type.calls (a0:Int) (r:Bool) (w:World) (h:spec_l6Type.f a0=some r):
  Calls Try.prog 28 #[.int .i64 a0] w fun e w'=>e=.returned (.bool r)∧Drawn0 w w':=by
 have H:((spec_l1In.f a0 125 127).bind fun t196=>(some t196))=some r:=h
 clear h
 replace H:=bi_ H
 obtain⟨t196,A20,H⟩:=H
 have A2:=A_ A20
 clear A20
 obtain rfl:=Option.some.inj H
 clear H
 go_enter Try.func28,Try.ntmps28
 go_wp2_with (first|((with_reducible refine gc_ 18 rfl ?_);refine gn_ (some 4) Try.func18 (spec_l1In.calls a0 125 127 t196 _ A2.out) ?_;intro nd))
 go_ret
 exact⟨rs_,dr_⟩

/-! ### spec_l6Shape: function 82 -/
mutual
def spec_l6Shape.j0:Nat→Int→Int→Bool→Option (Int)
 |0,_,_,_=>none
 |k+1,x0,x3,x4=>if x4=true then (some 0) else (if x3=2 then (spec_l6Shape.j1 k x0 x3 (x3==2)) else (if x3=3 then (spec_l6Shape.j1 k x0 x3 (x3==3)) else (spec_l6Shape.j1 k x0 x3 (x3==4))))
def spec_l6Shape.j1:Nat→Int→Int→Bool→Option (Int)
 |0,_,_,_=>none
 |k+1,x0,x3,x19=>if x19=true then (some 1) else (if x3=12 then (spec_l6Shape.j2 k x0 x3 (x3==12)) else (if x3=13 then (spec_l6Shape.j2 k x0 x3 (x3==13)) else (if x3=16 then (spec_l6Shape.j2 k x0 x3 (x3==16)) else (if x3=32 then (spec_l6Shape.j2 k x0 x3 (x3==32)) else (if x3=33 then (spec_l6Shape.j2 k x0 x3 (x3==33)) else (if x3=34 then (spec_l6Shape.j2 k x0 x3 (x3==34)) else (if x3=35 then (spec_l6Shape.j2 k x0 x3 (x3==35)) else (spec_l6Shape.j2 k x0 x3 (x3==36)))))))))
def spec_l6Shape.j2:Nat→Int→Int→Bool→Option (Int)
 |0,_,_,_=>none
 |k+1,x0,x3,x23=>if x23=true then (some 2) else (if x3=40 then (spec_l6Shape.j3 k x0 x3 (x3==40)) else (if x3=41 then (spec_l6Shape.j3 k x0 x3 (x3==41)) else (if x3=54 then (spec_l6Shape.j3 k x0 x3 (x3==54)) else (spec_l6Shape.j3 k x0 x3 (x3==55)))))
def spec_l6Shape.j3:Nat→Int→Int→Bool→Option (Int)
 |0,_,_,_=>none
 |k+1,x0,x3,x32=>if x32=true then (some 3) else (if x3=65 then (some 4) else (if x3=66 then (some 5) else (if x3=67 then (some 6) else ((spec_l1In.f x0 97 123).bind fun t197=>(if t197=true then (some 0) else ((spec_l1In.f x0 129 155).bind fun t198=>(if t198=true then (some 0) else ((spec_l1In.f x0 161 169).bind fun t199=>(if t199=true then (some 0) else (some (-1)))))))))))
end
def spec_l6Shape.f (k:Nat) (a0:Int):Option (Int):=if a0=0 then (spec_l6Shape.j0 k a0 a0 (a0==0)) else (if a0=1 then (spec_l6Shape.j0 k a0 a0 (a0==1)) else (if a0=5 then (spec_l6Shape.j0 k a0 a0 (a0==5)) else (if a0=11 then (spec_l6Shape.j0 k a0 a0 (a0==11)) else (if a0=15 then (spec_l6Shape.j0 k a0 a0 (a0==15)) else (if a0=26 then (spec_l6Shape.j0 k a0 a0 (a0==26)) else (if a0=27 then (spec_l6Shape.j0 k a0 a0 (a0==27)) else (if a0=63 then (spec_l6Shape.j0 k a0 a0 (a0==63)) else (if a0=64 then (spec_l6Shape.j0 k a0 a0 (a0==64)) else (if a0=176 then (spec_l6Shape.j0 k a0 a0 (a0==176)) else (if a0=177 then (spec_l6Shape.j0 k a0 a0 (a0==177)) else (if a0=178 then (spec_l6Shape.j0 k a0 a0 (a0==178)) else (if a0=179 then (spec_l6Shape.j0 k a0 a0 (a0==179)) else (spec_l6Shape.j0 k a0 a0 (a0==180))))))))))))))
theorem spec_l6Shape.mono_l:∀ k,(∀ y0 y1 y2,LeO (spec_l6Shape.j0 k y0 y1 y2) (spec_l6Shape.j0 (k+1) y0 y1 y2))∧(∀ y0 y1 y2,LeO (spec_l6Shape.j1 k y0 y1 y2) (spec_l6Shape.j1 (k+1) y0 y1 y2))∧(∀ y0 y1 y2,LeO (spec_l6Shape.j2 k y0 y1 y2) (spec_l6Shape.j2 (k+1) y0 y1 y2))∧(∀ y0 y1 y2,LeO (spec_l6Shape.j3 k y0 y1 y2) (spec_l6Shape.j3 (k+1) y0 y1 y2))
 |0=>⟨fun _ _ _ r h=>by simp[spec_l6Shape.j0] at h,fun _ _ _ r h=>by simp[spec_l6Shape.j1] at h,fun _ _ _ r h=>by simp[spec_l6Shape.j2] at h,fun _ _ _ r h=>by simp[spec_l6Shape.j3] at h⟩
 |k+1=>by
  obtain⟨ih0,ih1,ih2,ih3⟩:=spec_l6Shape.mono_l k
  refine⟨?_,?_,?_,?_⟩
  ·
   intro y0 y1 y2
   unfold spec_l6Shape.j0
   repeat' first
   |(with_reducible exact ih0 _ _ _)
   |(with_reducible exact ih1 _ _ _)
   |(with_reducible exact ih2 _ _ _)
   |(with_reducible exact ih3 _ _ _)
   |(with_reducible exact LeO.refl _)
   |(with_reducible exact LeO.none _)
   |(with_reducible refine LeO.ite ?_ ?_)
   |(with_reducible refine LeO.bind ?_ (fun _=>?_))
   |exact ih0 _ _ _
   |exact ih1 _ _ _
   |exact ih2 _ _ _
   |exact ih3 _ _ _
   |exact LeO.none _
   |refine LeO.ite ?_ ?_
   |refine LeO.bind ?_ (fun _=>?_)
  ·
   intro y0 y1 y2
   unfold spec_l6Shape.j1
   repeat' first
   |(with_reducible exact ih0 _ _ _)
   |(with_reducible exact ih1 _ _ _)
   |(with_reducible exact ih2 _ _ _)
   |(with_reducible exact ih3 _ _ _)
   |(with_reducible exact LeO.refl _)
   |(with_reducible exact LeO.none _)
   |(with_reducible refine LeO.ite ?_ ?_)
   |(with_reducible refine LeO.bind ?_ (fun _=>?_))
   |exact ih0 _ _ _
   |exact ih1 _ _ _
   |exact ih2 _ _ _
   |exact ih3 _ _ _
   |exact LeO.none _
   |refine LeO.ite ?_ ?_
   |refine LeO.bind ?_ (fun _=>?_)
  ·
   intro y0 y1 y2
   unfold spec_l6Shape.j2
   repeat' first
   |(with_reducible exact ih0 _ _ _)
   |(with_reducible exact ih1 _ _ _)
   |(with_reducible exact ih2 _ _ _)
   |(with_reducible exact ih3 _ _ _)
   |(with_reducible exact LeO.refl _)
   |(with_reducible exact LeO.none _)
   |(with_reducible refine LeO.ite ?_ ?_)
   |(with_reducible refine LeO.bind ?_ (fun _=>?_))
   |exact ih0 _ _ _
   |exact ih1 _ _ _
   |exact ih2 _ _ _
   |exact ih3 _ _ _
   |exact LeO.none _
   |refine LeO.ite ?_ ?_
   |refine LeO.bind ?_ (fun _=>?_)
  intro y0 y1 y2
  unfold spec_l6Shape.j3
  repeat' first
  |(with_reducible exact ih0 _ _ _)
  |(with_reducible exact ih1 _ _ _)
  |(with_reducible exact ih2 _ _ _)
  |(with_reducible exact ih3 _ _ _)
  |(with_reducible exact LeO.refl _)
  |(with_reducible exact LeO.none _)
  |(with_reducible refine LeO.ite ?_ ?_)
  |(with_reducible refine LeO.bind ?_ (fun _=>?_))
  |exact ih0 _ _ _
  |exact ih1 _ _ _
  |exact ih2 _ _ _
  |exact ih3 _ _ _
  |exact LeO.none _
  |refine LeO.ite ?_ ?_
  |refine LeO.bind ?_ (fun _=>?_)
theorem spec_l6Shape.mono:∀ a0 k,LeO (spec_l6Shape.f k a0) (spec_l6Shape.f (k+1) a0):=by
 intro a0 k
 obtain⟨ih0,ih1,ih2,ih3⟩:=spec_l6Shape.mono_l k
 unfold spec_l6Shape.f
 repeat' first
   |(with_reducible exact ih0 _ _ _)
   |(with_reducible exact ih1 _ _ _)
   |(with_reducible exact ih2 _ _ _)
   |(with_reducible exact ih3 _ _ _)
   |(with_reducible exact LeO.refl _)
   |(with_reducible exact LeO.none _)
   |(with_reducible refine LeO.ite ?_ ?_)
   |(with_reducible refine LeO.bind ?_ (fun _=>?_))
   |exact ih0 _ _ _
   |exact ih1 _ _ _
   |exact ih2 _ _ _
   |exact ih3 _ _ _
   |exact LeO.none _
   |refine LeO.ite ?_ ?_
   |refine LeO.bind ?_ (fun _=>?_)
theorem spec_l6Shape.calls (k:Nat) (a0:Int) (r:Int) (w:World) (h:spec_l6Shape.f k a0=some r):
  Calls Try.prog 82 #[.int .i64 a0] w fun e w'=>e=.returned (.int .i64 r)∧Drawn0 w w':=by
 have H:(if a0=0 then (spec_l6Shape.j0 k a0 a0 (a0==0)) else (if a0=1 then (spec_l6Shape.j0 k a0 a0 (a0==1)) else (if a0=5 then (spec_l6Shape.j0 k a0 a0 (a0==5)) else (if a0=11 then (spec_l6Shape.j0 k a0 a0 (a0==11)) else (if a0=15 then (spec_l6Shape.j0 k a0 a0 (a0==15)) else (if a0=26 then (spec_l6Shape.j0 k a0 a0 (a0==26)) else (if a0=27 then (spec_l6Shape.j0 k a0 a0 (a0==27)) else (if a0=63 then (spec_l6Shape.j0 k a0 a0 (a0==63)) else (if a0=64 then (spec_l6Shape.j0 k a0 a0 (a0==64)) else (if a0=176 then (spec_l6Shape.j0 k a0 a0 (a0==176)) else (if a0=177 then (spec_l6Shape.j0 k a0 a0 (a0==177)) else (if a0=178 then (spec_l6Shape.j0 k a0 a0 (a0==178)) else (if a0=179 then (spec_l6Shape.j0 k a0 a0 (a0==179)) else (spec_l6Shape.j0 k a0 a0 (a0==180)))))))))))))))=some r:=h
 clear h
 have HC2:=A_ H
 clear H
 go_enter Try.func82,Try.ntmps82
 go_upto_if 4 with (fail)
 go_cut [4] (fun v4 wc=>∃ (kq:Nat) (x4_1:Bool),v4=.bool x4_1∧Aside0 (spec_l6Shape.j0 kq a0 a0 x4_1=some r)∧Aside0 (kq≤k)∧Drawn0 w wc)
 case first=>
  have H:=HC2.out
  clear HC2
  by_cases c3:a0=0
  ·
   rw[if_pos c3] at H
   obtain⟨c3b0,c3b1⟩:=eT_ c3
   clear c3
   (first|rw[c3b0]|(simp only[i64_w,i32_w];rw[c3b0])|skip)
   have H':=A_ H
   clear H
   go_wp2
   go_meet
   case rel=>exact⟨_,((a0==0)),rs_,H',⟨by first|omega|exact Nat.le_refl _⟩,dr_⟩
  rw[if_neg c3] at H
  obtain⟨c3b0,c3b1⟩:=eF_ c3
  (first|rw[c3b0]|(simp only[i64_w,i32_w];rw[c3b0])|skip)
  by_cases c4:a0=1
  ·
   rw[if_pos c4] at H
   obtain⟨c4b0,c4b1⟩:=eT_ c4
   clear c4
   have H':=A_ H
   clear H
   go_wp2
   go_meet
   case rel=>exact⟨_,((a0==1)),rs_,H',⟨by first|omega|exact Nat.le_refl _⟩,dr_⟩
  rw[if_neg c4] at H
  obtain⟨c4b0,c4b1⟩:=eF_ c4
  by_cases c5:a0=5
  ·
   rw[if_pos c5] at H
   obtain⟨c5b0,c5b1⟩:=eT_ c5
   clear c5
   have H':=A_ H
   clear H
   go_wp2
   go_meet
   case rel=>exact⟨_,((a0==5)),rs_,H',⟨by first|omega|exact Nat.le_refl _⟩,dr_⟩
  rw[if_neg c5] at H
  obtain⟨c5b0,c5b1⟩:=eF_ c5
  by_cases c6:a0=11
  ·
   rw[if_pos c6] at H
   obtain⟨c6b0,c6b1⟩:=eT_ c6
   clear c6
   have H':=A_ H
   clear H
   go_wp2
   go_meet
   case rel=>exact⟨_,((a0==11)),rs_,H',⟨by first|omega|exact Nat.le_refl _⟩,dr_⟩
  rw[if_neg c6] at H
  obtain⟨c6b0,c6b1⟩:=eF_ c6
  by_cases c7:a0=15
  ·
   rw[if_pos c7] at H
   obtain⟨c7b0,c7b1⟩:=eT_ c7
   clear c7
   have H':=A_ H
   clear H
   go_wp2
   go_meet
   case rel=>exact⟨_,((a0==15)),rs_,H',⟨by first|omega|exact Nat.le_refl _⟩,dr_⟩
  rw[if_neg c7] at H
  obtain⟨c7b0,c7b1⟩:=eF_ c7
  by_cases c8:a0=26
  ·
   rw[if_pos c8] at H
   obtain⟨c8b0,c8b1⟩:=eT_ c8
   clear c8
   have H':=A_ H
   clear H
   go_wp2
   go_meet
   case rel=>exact⟨_,((a0==26)),rs_,H',⟨by first|omega|exact Nat.le_refl _⟩,dr_⟩
  rw[if_neg c8] at H
  obtain⟨c8b0,c8b1⟩:=eF_ c8
  by_cases c9:a0=27
  ·
   rw[if_pos c9] at H
   obtain⟨c9b0,c9b1⟩:=eT_ c9
   clear c9
   have H':=A_ H
   clear H
   go_wp2
   go_meet
   case rel=>exact⟨_,((a0==27)),rs_,H',⟨by first|omega|exact Nat.le_refl _⟩,dr_⟩
  rw[if_neg c9] at H
  obtain⟨c9b0,c9b1⟩:=eF_ c9
  by_cases c10:a0=63
  ·
   rw[if_pos c10] at H
   obtain⟨c10b0,c10b1⟩:=eT_ c10
   clear c10
   have H':=A_ H
   clear H
   go_wp2
   go_meet
   case rel=>exact⟨_,((a0==63)),rs_,H',⟨by first|omega|exact Nat.le_refl _⟩,dr_⟩
  rw[if_neg c10] at H
  obtain⟨c10b0,c10b1⟩:=eF_ c10
  by_cases c11:a0=64
  ·
   rw[if_pos c11] at H
   obtain⟨c11b0,c11b1⟩:=eT_ c11
   clear c11
   have H':=A_ H
   clear H
   go_wp2
   go_meet
   case rel=>exact⟨_,((a0==64)),rs_,H',⟨by first|omega|exact Nat.le_refl _⟩,dr_⟩
  rw[if_neg c11] at H
  obtain⟨c11b0,c11b1⟩:=eF_ c11
  by_cases c12:a0=176
  ·
   rw[if_pos c12] at H
   obtain⟨c12b0,c12b1⟩:=eT_ c12
   clear c12
   have H':=A_ H
   clear H
   go_wp2
   go_meet
   case rel=>exact⟨_,((a0==176)),rs_,H',⟨by first|omega|exact Nat.le_refl _⟩,dr_⟩
  rw[if_neg c12] at H
  obtain⟨c12b0,c12b1⟩:=eF_ c12
  by_cases c13:a0=177
  ·
   rw[if_pos c13] at H
   obtain⟨c13b0,c13b1⟩:=eT_ c13
   clear c13
   have H':=A_ H
   clear H
   go_wp2
   go_meet
   case rel=>exact⟨_,((a0==177)),rs_,H',⟨by first|omega|exact Nat.le_refl _⟩,dr_⟩
  rw[if_neg c13] at H
  obtain⟨c13b0,c13b1⟩:=eF_ c13
  by_cases c14:a0=178
  ·
   rw[if_pos c14] at H
   obtain⟨c14b0,c14b1⟩:=eT_ c14
   clear c14
   have H':=A_ H
   clear H
   go_wp2
   go_meet
   case rel=>exact⟨_,((a0==178)),rs_,H',⟨by first|omega|exact Nat.le_refl _⟩,dr_⟩
  rw[if_neg c14] at H
  obtain⟨c14b0,c14b1⟩:=eF_ c14
  by_cases c15:a0=179
  ·
   rw[if_pos c15] at H
   obtain⟨c15b0,c15b1⟩:=eT_ c15
   clear c15
   have H':=A_ H
   clear H
   go_wp2
   go_meet
   case rel=>exact⟨_,((a0==179)),rs_,H',⟨by first|omega|exact Nat.le_refl _⟩,dr_⟩
  rw[if_neg c15] at H
  obtain⟨c15b0,c15b1⟩:=eF_ c15
  have H':=A_ H
  clear H
  go_wp2
  go_meet
  case rel=>exact⟨_,((a0==180)),rs_,H',⟨by first|omega|exact Nat.le_refl _⟩,dr_⟩
 case rest=>
  clear HC2
  obtain⟨kq,x4_1,rfl,HA,HJ1,⟨mc1,rfl⟩⟩:=hcut
  cases kq with
  |zero=>exact absurd HA.out (by simp[spec_l6Shape.j0])
  |succ kj1=>
   have H:=HA.out
   clear HA
   simp only[spec_l6Shape.j0] at H
   by_cases c16:x4_1=true
   ·
    subst c16
    replace H:=iT_ H
    obtain rfl:=Option.some.inj H
    clear H
    go_wp2
    go_ret
    exact⟨rs_,dr_⟩
   replace c16:=Bool.eq_false_iff.mpr c16
   subst c16
   replace H:=iF_ H
   have HC17:=A_ H
   clear H
   go_upto_if 19 with (fail)
   go_cut [19] (fun v19 wc=>∃ (kq:Nat) (x19_16:Bool),v19=.bool x19_16∧Aside0 (spec_l6Shape.j1 kq a0 a0 x19_16=some r)∧Aside0 (kq≤kj1)∧Drawn0 w wc)
   case first=>
    have H:=HC17.out
    clear HC17
    by_cases c18:a0=2
    ·
     rw[if_pos c18] at H
     obtain⟨c18b0,c18b1⟩:=eT_ c18
     clear c18
     (first|rw[c18b0]|(simp only[i64_w,i32_w];rw[c18b0])|skip)
     have H':=A_ H
     clear H
     go_wp2
     go_meet
     case rel=>exact⟨_,((a0==2)),rs_,H',⟨by have:=HJ1.out;first|omega|exact Nat.le_refl _⟩,dr_⟩
    rw[if_neg c18] at H
    obtain⟨c18b0,c18b1⟩:=eF_ c18
    (first|rw[c18b0]|(simp only[i64_w,i32_w];rw[c18b0])|skip)
    by_cases c19:a0=3
    ·
     rw[if_pos c19] at H
     obtain⟨c19b0,c19b1⟩:=eT_ c19
     clear c19
     have H':=A_ H
     clear H
     go_wp2
     go_meet
     case rel=>exact⟨_,((a0==3)),rs_,H',⟨by have:=HJ1.out;first|omega|exact Nat.le_refl _⟩,dr_⟩
    rw[if_neg c19] at H
    obtain⟨c19b0,c19b1⟩:=eF_ c19
    have H':=A_ H
    clear H
    go_wp2
    go_meet
    case rel=>exact⟨_,((a0==4)),rs_,H',⟨by have:=HJ1.out;first|omega|exact Nat.le_refl _⟩,dr_⟩
   case rest=>
    clear HC17
    try clear c16
    obtain⟨kq,x19_16,rfl,HA,HJ16,⟨mc16,rfl⟩⟩:=hcut
    cases kq with
    |zero=>exact absurd HA.out (by simp[spec_l6Shape.j1])
    |succ kj16=>
     have H:=HA.out
     clear HA
     simp only[spec_l6Shape.j1] at H
     by_cases c20:x19_16=true
     ·
      subst c20
      replace H:=iT_ H
      obtain rfl:=Option.some.inj H
      clear H
      go_wp2
      go_ret
      exact⟨rs_,dr_⟩
     replace c20:=Bool.eq_false_iff.mpr c20
     subst c20
     replace H:=iF_ H
     have HC21:=A_ H
     clear H
     go_upto_if 23 with (fail)
     go_cut [23] (fun v23 wc=>∃ (kq:Nat) (x23_20:Bool),v23=.bool x23_20∧Aside0 (spec_l6Shape.j2 kq a0 a0 x23_20=some r)∧Aside0 (kq≤kj16)∧Drawn0 w wc)
     case first=>
      have H:=HC21.out
      clear HC21
      by_cases c22:a0=12
      ·
       rw[if_pos c22] at H
       obtain⟨c22b0,c22b1⟩:=eT_ c22
       clear c22
       (first|rw[c22b0]|(simp only[i64_w,i32_w];rw[c22b0])|skip)
       have H':=A_ H
       clear H
       go_wp2
       go_meet
       case rel=>exact⟨_,((a0==12)),rs_,H',⟨by have:=HJ1.out;have:=HJ16.out;first|omega|exact Nat.le_refl _⟩,dr_⟩
      rw[if_neg c22] at H
      obtain⟨c22b0,c22b1⟩:=eF_ c22
      (first|rw[c22b0]|(simp only[i64_w,i32_w];rw[c22b0])|skip)
      by_cases c23:a0=13
      ·
       rw[if_pos c23] at H
       obtain⟨c23b0,c23b1⟩:=eT_ c23
       clear c23
       have H':=A_ H
       clear H
       go_wp2
       go_meet
       case rel=>exact⟨_,((a0==13)),rs_,H',⟨by have:=HJ1.out;have:=HJ16.out;first|omega|exact Nat.le_refl _⟩,dr_⟩
      rw[if_neg c23] at H
      obtain⟨c23b0,c23b1⟩:=eF_ c23
      by_cases c24:a0=16
      ·
       rw[if_pos c24] at H
       obtain⟨c24b0,c24b1⟩:=eT_ c24
       clear c24
       have H':=A_ H
       clear H
       go_wp2
       go_meet
       case rel=>exact⟨_,((a0==16)),rs_,H',⟨by have:=HJ1.out;have:=HJ16.out;first|omega|exact Nat.le_refl _⟩,dr_⟩
      rw[if_neg c24] at H
      obtain⟨c24b0,c24b1⟩:=eF_ c24
      by_cases c25:a0=32
      ·
       rw[if_pos c25] at H
       obtain⟨c25b0,c25b1⟩:=eT_ c25
       clear c25
       have H':=A_ H
       clear H
       go_wp2
       go_meet
       case rel=>exact⟨_,((a0==32)),rs_,H',⟨by have:=HJ1.out;have:=HJ16.out;first|omega|exact Nat.le_refl _⟩,dr_⟩
      rw[if_neg c25] at H
      obtain⟨c25b0,c25b1⟩:=eF_ c25
      by_cases c26:a0=33
      ·
       rw[if_pos c26] at H
       obtain⟨c26b0,c26b1⟩:=eT_ c26
       clear c26
       have H':=A_ H
       clear H
       go_wp2
       go_meet
       case rel=>exact⟨_,((a0==33)),rs_,H',⟨by have:=HJ1.out;have:=HJ16.out;first|omega|exact Nat.le_refl _⟩,dr_⟩
      rw[if_neg c26] at H
      obtain⟨c26b0,c26b1⟩:=eF_ c26
      by_cases c27:a0=34
      ·
       rw[if_pos c27] at H
       obtain⟨c27b0,c27b1⟩:=eT_ c27
       clear c27
       have H':=A_ H
       clear H
       go_wp2
       go_meet
       case rel=>exact⟨_,((a0==34)),rs_,H',⟨by have:=HJ1.out;have:=HJ16.out;first|omega|exact Nat.le_refl _⟩,dr_⟩
      rw[if_neg c27] at H
      obtain⟨c27b0,c27b1⟩:=eF_ c27
      by_cases c28:a0=35
      ·
       rw[if_pos c28] at H
       obtain⟨c28b0,c28b1⟩:=eT_ c28
       clear c28
       have H':=A_ H
       clear H
       go_wp2
       go_meet
       case rel=>exact⟨_,((a0==35)),rs_,H',⟨by have:=HJ1.out;have:=HJ16.out;first|omega|exact Nat.le_refl _⟩,dr_⟩
      rw[if_neg c28] at H
      obtain⟨c28b0,c28b1⟩:=eF_ c28
      have H':=A_ H
      clear H
      go_wp2
      go_meet
      case rel=>exact⟨_,((a0==36)),rs_,H',⟨by have:=HJ1.out;have:=HJ16.out;first|omega|exact Nat.le_refl _⟩,dr_⟩
     case rest=>
      clear HC21
      try clear c16 c20
      obtain⟨kq,x23_20,rfl,HA,HJ20,⟨mc20,rfl⟩⟩:=hcut
      cases kq with
      |zero=>exact absurd HA.out (by simp[spec_l6Shape.j2])
      |succ kj20=>
       have H:=HA.out
       clear HA
       simp only[spec_l6Shape.j2] at H
       by_cases c29:x23_20=true
       ·
        subst c29
        replace H:=iT_ H
        obtain rfl:=Option.some.inj H
        clear H
        go_wp2
        go_ret
        exact⟨rs_,dr_⟩
       replace c29:=Bool.eq_false_iff.mpr c29
       subst c29
       replace H:=iF_ H
       have HC30:=A_ H
       clear H
       go_upto_if 32 with (fail)
       go_cut [32] (fun v32 wc=>∃ (kq:Nat) (x32_29:Bool),v32=.bool x32_29∧Aside0 (spec_l6Shape.j3 kq a0 a0 x32_29=some r)∧Aside0 (kq≤kj20)∧Drawn0 w wc)
       case first=>
        have H:=HC30.out
        clear HC30
        by_cases c31:a0=40
        ·
         rw[if_pos c31] at H
         obtain⟨c31b0,c31b1⟩:=eT_ c31
         clear c31
         (first|rw[c31b0]|(simp only[i64_w,i32_w];rw[c31b0])|skip)
         have H':=A_ H
         clear H
         go_wp2
         go_meet
         case rel=>exact⟨_,((a0==40)),rs_,H',⟨by have:=HJ1.out;have:=HJ16.out;have:=HJ20.out;first|omega|exact Nat.le_refl _⟩,dr_⟩
        rw[if_neg c31] at H
        obtain⟨c31b0,c31b1⟩:=eF_ c31
        (first|rw[c31b0]|(simp only[i64_w,i32_w];rw[c31b0])|skip)
        by_cases c32:a0=41
        ·
         rw[if_pos c32] at H
         obtain⟨c32b0,c32b1⟩:=eT_ c32
         clear c32
         have H':=A_ H
         clear H
         go_wp2
         go_meet
         case rel=>exact⟨_,((a0==41)),rs_,H',⟨by have:=HJ1.out;have:=HJ16.out;have:=HJ20.out;first|omega|exact Nat.le_refl _⟩,dr_⟩
        rw[if_neg c32] at H
        obtain⟨c32b0,c32b1⟩:=eF_ c32
        by_cases c33:a0=54
        ·
         rw[if_pos c33] at H
         obtain⟨c33b0,c33b1⟩:=eT_ c33
         clear c33
         have H':=A_ H
         clear H
         go_wp2
         go_meet
         case rel=>exact⟨_,((a0==54)),rs_,H',⟨by have:=HJ1.out;have:=HJ16.out;have:=HJ20.out;first|omega|exact Nat.le_refl _⟩,dr_⟩
        rw[if_neg c33] at H
        obtain⟨c33b0,c33b1⟩:=eF_ c33
        have H':=A_ H
        clear H
        go_wp2
        go_meet
        case rel=>exact⟨_,((a0==55)),rs_,H',⟨by have:=HJ1.out;have:=HJ16.out;have:=HJ20.out;first|omega|exact Nat.le_refl _⟩,dr_⟩
       case rest=>
        clear HC30
        try clear c16 c20 c29
        obtain⟨kq,x32_29,rfl,HA,HJ29,⟨mc29,rfl⟩⟩:=hcut
        cases kq with
        |zero=>exact absurd HA.out (by simp[spec_l6Shape.j3])
        |succ kj29=>
         have H:=HA.out
         clear HA
         simp only[spec_l6Shape.j3] at H
         by_cases c34:x32_29=true
         ·
          subst c34
          replace H:=iT_ H
          obtain rfl:=Option.some.inj H
          clear H
          go_wp2
          go_ret
          exact⟨rs_,dr_⟩
         replace c34:=Bool.eq_false_iff.mpr c34
         subst c34
         replace H:=iF_ H
         by_cases c35:a0=65
         ·
          rw[if_pos c35] at H
          obtain⟨c35b0,c35b1⟩:=eT_ c35
          clear c35
          obtain rfl:=Option.some.inj H
          clear H
          go_wp2
          go_ret
          exact⟨rs_,dr_⟩
         rw[if_neg c35] at H
         obtain⟨c35b0,c35b1⟩:=eF_ c35
         by_cases c36:a0=66
         ·
          rw[if_pos c36] at H
          obtain⟨c36b0,c36b1⟩:=eT_ c36
          clear c36
          obtain rfl:=Option.some.inj H
          clear H
          go_wp2
          go_ret
          exact⟨rs_,dr_⟩
         rw[if_neg c36] at H
         obtain⟨c36b0,c36b1⟩:=eF_ c36
         by_cases c37:a0=67
         ·
          rw[if_pos c37] at H
          obtain⟨c37b0,c37b1⟩:=eT_ c37
          clear c37
          obtain rfl:=Option.some.inj H
          clear H
          go_wp2
          go_ret
          exact⟨rs_,dr_⟩
         rw[if_neg c37] at H
         obtain⟨c37b0,c37b1⟩:=eF_ c37
         replace H:=bi_ H
         obtain⟨t197,A380,H⟩:=H
         have A38:=A_ A380
         clear A380
         by_cases c39:t197=true
         ·
          subst c39
          replace H:=iT_ H
          obtain rfl:=Option.some.inj H
          clear H
          go_wp2_with (first|((with_reducible refine gc_ 18 rfl ?_);refine gn_ (some 44) Try.func18 (spec_l1In.calls a0 97 123 true _ A38.out) ?_;intro nd))
          go_ret
          exact⟨rs_,dr_⟩
         replace c39:=Bool.eq_false_iff.mpr c39
         subst c39
         replace H:=iF_ H
         replace H:=bi_ H
         obtain⟨t198,A400,H⟩:=H
         have A40:=A_ A400
         clear A400
         by_cases c41:t198=true
         ·
          subst c41
          replace H:=iT_ H
          obtain rfl:=Option.some.inj H
          clear H
          go_wp2_with (first|((with_reducible refine gc_ 18 rfl ?_);refine gn_ (some 44) Try.func18 (spec_l1In.calls a0 97 123 false _ A38.out) ?_;intro nd)|(go_at_call 18;(with_reducible refine(spec_l1In.calls a0 129 155 true _ A40.out).mono ?_);rintro e w' ⟨rfl,⟨nd,rfl⟩⟩))
          go_ret
          exact⟨rs_,dr_⟩
         replace c41:=Bool.eq_false_iff.mpr c41
         subst c41
         replace H:=iF_ H
         replace H:=bi_ H
         obtain⟨t199,A420,H⟩:=H
         have A42:=A_ A420
         clear A420
         by_cases c43:t199=true
         ·
          subst c43
          replace H:=iT_ H
          obtain rfl:=Option.some.inj H
          clear H
          go_wp2_with (first|((with_reducible refine gc_ 18 rfl ?_);refine gn_ (some 44) Try.func18 (spec_l1In.calls a0 97 123 false _ A38.out) ?_;intro nd)|(go_at_call 18;(with_reducible refine(spec_l1In.calls a0 129 155 false _ A40.out).mono ?_);rintro e w' ⟨rfl,⟨nd,rfl⟩⟩)|(go_at_call 18;(with_reducible refine(spec_l1In.calls a0 161 169 true _ A42.out).mono ?_);rintro e w' ⟨rfl,⟨nd,rfl⟩⟩))
          go_ret
          exact⟨rs_,dr_⟩
         replace c43:=Bool.eq_false_iff.mpr c43
         subst c43
         replace H:=iF_ H
         obtain rfl:=Option.some.inj H
         clear H
         go_wp2_with (first|((with_reducible refine gc_ 18 rfl ?_);refine gn_ (some 44) Try.func18 (spec_l1In.calls a0 97 123 false _ A38.out) ?_;intro nd)|(go_at_call 18;(with_reducible refine(spec_l1In.calls a0 129 155 false _ A40.out).mono ?_);rintro e w' ⟨rfl,⟨nd,rfl⟩⟩)|(go_at_call 18;(with_reducible refine(spec_l1In.calls a0 161 169 false _ A42.out).mono ?_);rintro e w' ⟨rfl,⟨nd,rfl⟩⟩))
         go_ret
         exact⟨rs_,dr_⟩

/-! ### spec_GoodIns: function 80 -/
def spec_GoodIns.f (k:Nat) (a0_0:Int) (a0_1:Int):Option (Bool):=(spec_l6Shape.f k a0_0).bind fun t201=>(if t201=0 then (some (a0_1==0)) else (if t201=1 then ((spec_l6Type.f a0_1).bind fun t202=>(if t202=true then (some true) else (some (a0_1==64)))) else (if t201=2 then ((spec_l1In.f a0_1 0 1000).bind fun t203=>(some t203)) else (if t201=3 then ((spec_l1In.f a0_1 0 10000).bind fun t204=>(some t204)) else (if t201=4 then ((spec_l1In.f a0_1 (-2147483648) 2147483647).bind fun t205=>(some t205)) else (if t201=5 then (some true) else (if t201=6 then ((spec_l1In.f a0_1 0 4294967295).bind fun t206=>(some t206)) else (some false))))))))
theorem spec_GoodIns.calls (k:Nat) (a0_0:Int) (a0_1:Int) (r:Bool) (w:World) (h:spec_GoodIns.f k a0_0 a0_1=some r):
  Calls Try.prog 80 #[.agg #[.int .i64 a0_0,.int .i64 a0_1]] w fun e w'=>e=.returned (.bool r)∧Below w.heap.size w w':=by
 have hu71:=Try.underlying71
 have HB:=A_ (Below.refl w.heap.size w)
 have H:((spec_l6Shape.f k a0_0).bind fun t201=>(if t201=0 then (some (a0_1==0)) else (if t201=1 then ((spec_l6Type.f a0_1).bind fun t202=>(if t202=true then (some true) else (some (a0_1==64)))) else (if t201=2 then ((spec_l1In.f a0_1 0 1000).bind fun t203=>(some t203)) else (if t201=3 then ((spec_l1In.f a0_1 0 10000).bind fun t204=>(some t204)) else (if t201=4 then ((spec_l1In.f a0_1 (-2147483648) 2147483647).bind fun t205=>(some t205)) else (if t201=5 then (some true) else (if t201=6 then ((spec_l1In.f a0_1 0 4294967295).bind fun t206=>(some t206)) else (some false)))))))))=some r:=h
 clear h
 replace H:=bi_ H
 obtain⟨t201,A20,H⟩:=H
 have A2:=A_ A20
 clear A20
 by_cases c3:t201=0
 ·
  rw[if_pos c3] at H
  obtain⟨c3b0,c3b1⟩:=eT_ c3
  clear c3
  obtain rfl:=Option.some.inj H
  clear H
  go_enter Try.func80,Try.ntmps80
  go_wp2_with (first|((with_reducible refine gd_ 1 rfl ?_);refine bx_ #[.int .i64 a0_0,.int .i64 a0_1] 71 ?_;intro gb200 hg w4 hbox hb;have BK200:=A_ hbox;have GW200:=gw_ hg HB;have GE200:=GW200;replace HB:=bs_ HB hb;clear hb hbox hg;obtain⟨hcz5_0,hcz5_1⟩:=cs2_ BK200.out;obtain⟨hfz5_0,hfz5_1⟩:=fz2_ BK200.out)|((with_reducible refine gc_ 82 rfl ?_);refine gn_ (some 5) Try.func82 (spec_l6Shape.calls k a0_0 t201 _ A2.out) ?_;intro nd))
  go_ret
  exact⟨rr_,bw HB.out⟩
 rw[if_neg c3] at H
 obtain⟨c3b0,c3b1⟩:=eF_ c3
 by_cases c6:t201=1
 ·
  rw[if_pos c6] at H
  obtain⟨c6b0,c6b1⟩:=eT_ c6
  clear c6
  replace H:=bi_ H
  obtain⟨t202,A70,H⟩:=H
  have A7:=A_ A70
  clear A70
  by_cases c8:t202=true
  ·
   subst c8
   replace H:=iT_ H
   obtain rfl:=Option.some.inj H
   clear H
   go_enter Try.func80,Try.ntmps80
   go_wp2_with (first|((with_reducible refine gd_ 1 rfl ?_);refine bx_ #[.int .i64 a0_0,.int .i64 a0_1] 71 ?_;intro gb200 hg w9 hbox hb;have BK200:=A_ hbox;have GW200:=gw_ hg HB;have GE200:=GW200;replace HB:=bs_ HB hb;clear hb hbox hg;obtain⟨hcz10_0,hcz10_1⟩:=cs2_ BK200.out;obtain⟨hfz10_0,hfz10_1⟩:=fz2_ BK200.out)|((with_reducible refine gc_ 82 rfl ?_);refine gn_ (some 5) Try.func82 (spec_l6Shape.calls k a0_0 t201 _ A2.out) ?_;intro nd)|((with_reducible refine gc_ 28 rfl ?_);refine gn_ (some 15) Try.func28 (spec_l6Type.calls a0_1 true _ A7.out) ?_;intro nd))
   go_ret
   exact⟨rr_,bw HB.out⟩
  replace c8:=Bool.eq_false_iff.mpr c8
  subst c8
  replace H:=iF_ H
  obtain rfl:=Option.some.inj H
  clear H
  go_enter Try.func80,Try.ntmps80
  go_wp2_with (first|((with_reducible refine gd_ 1 rfl ?_);refine bx_ #[.int .i64 a0_0,.int .i64 a0_1] 71 ?_;intro gb200 hg w11 hbox hb;have BK200:=A_ hbox;have GW200:=gw_ hg HB;have GE200:=GW200;replace HB:=bs_ HB hb;clear hb hbox hg;obtain⟨hcz12_0,hcz12_1⟩:=cs2_ BK200.out;obtain⟨hfz12_0,hfz12_1⟩:=fz2_ BK200.out)|((with_reducible refine gc_ 82 rfl ?_);refine gn_ (some 5) Try.func82 (spec_l6Shape.calls k a0_0 t201 _ A2.out) ?_;intro nd)|((with_reducible refine gc_ 28 rfl ?_);refine gn_ (some 15) Try.func28 (spec_l6Type.calls a0_1 false _ A7.out) ?_;intro nd))
  go_ret
  exact⟨rr_,bw HB.out⟩
 rw[if_neg c6] at H
 obtain⟨c6b0,c6b1⟩:=eF_ c6
 by_cases c13:t201=2
 ·
  rw[if_pos c13] at H
  obtain⟨c13b0,c13b1⟩:=eT_ c13
  clear c13
  replace H:=bi_ H
  obtain⟨t203,A140,H⟩:=H
  have A14:=A_ A140
  clear A140
  obtain rfl:=Option.some.inj H
  clear H
  go_enter Try.func80,Try.ntmps80
  go_wp2_with (first|((with_reducible refine gd_ 1 rfl ?_);refine bx_ #[.int .i64 a0_0,.int .i64 a0_1] 71 ?_;intro gb200 hg w15 hbox hb;have BK200:=A_ hbox;have GW200:=gw_ hg HB;have GE200:=GW200;replace HB:=bs_ HB hb;clear hb hbox hg;obtain⟨hcz16_0,hcz16_1⟩:=cs2_ BK200.out;obtain⟨hfz16_0,hfz16_1⟩:=fz2_ BK200.out)|((with_reducible refine gc_ 82 rfl ?_);refine gn_ (some 5) Try.func82 (spec_l6Shape.calls k a0_0 t201 _ A2.out) ?_;intro nd)|((with_reducible refine gc_ 18 rfl ?_);refine gn_ (some 25) Try.func18 (spec_l1In.calls a0_1 0 1000 t203 _ A14.out) ?_;intro nd))
  go_ret
  exact⟨rr_,bw HB.out⟩
 rw[if_neg c13] at H
 obtain⟨c13b0,c13b1⟩:=eF_ c13
 by_cases c17:t201=3
 ·
  rw[if_pos c17] at H
  obtain⟨c17b0,c17b1⟩:=eT_ c17
  clear c17
  replace H:=bi_ H
  obtain⟨t204,A180,H⟩:=H
  have A18:=A_ A180
  clear A180
  obtain rfl:=Option.some.inj H
  clear H
  go_enter Try.func80,Try.ntmps80
  go_wp2_with (first|((with_reducible refine gd_ 1 rfl ?_);refine bx_ #[.int .i64 a0_0,.int .i64 a0_1] 71 ?_;intro gb200 hg w19 hbox hb;have BK200:=A_ hbox;have GW200:=gw_ hg HB;have GE200:=GW200;replace HB:=bs_ HB hb;clear hb hbox hg;obtain⟨hcz20_0,hcz20_1⟩:=cs2_ BK200.out;obtain⟨hfz20_0,hfz20_1⟩:=fz2_ BK200.out)|((with_reducible refine gc_ 82 rfl ?_);refine gn_ (some 5) Try.func82 (spec_l6Shape.calls k a0_0 t201 _ A2.out) ?_;intro nd)|((with_reducible refine gc_ 18 rfl ?_);refine gn_ (some 30) Try.func18 (spec_l1In.calls a0_1 0 10000 t204 _ A18.out) ?_;intro nd))
  go_ret
  exact⟨rr_,bw HB.out⟩
 rw[if_neg c17] at H
 obtain⟨c17b0,c17b1⟩:=eF_ c17
 by_cases c21:t201=4
 ·
  rw[if_pos c21] at H
  obtain⟨c21b0,c21b1⟩:=eT_ c21
  clear c21
  replace H:=bi_ H
  obtain⟨t205,A220,H⟩:=H
  have A22:=A_ A220
  clear A220
  obtain rfl:=Option.some.inj H
  clear H
  go_enter Try.func80,Try.ntmps80
  go_wp2_with (first|((with_reducible refine gd_ 1 rfl ?_);refine bx_ #[.int .i64 a0_0,.int .i64 a0_1] 71 ?_;intro gb200 hg w23 hbox hb;have BK200:=A_ hbox;have GW200:=gw_ hg HB;have GE200:=GW200;replace HB:=bs_ HB hb;clear hb hbox hg;obtain⟨hcz24_0,hcz24_1⟩:=cs2_ BK200.out;obtain⟨hfz24_0,hfz24_1⟩:=fz2_ BK200.out)|((with_reducible refine gc_ 82 rfl ?_);refine gn_ (some 5) Try.func82 (spec_l6Shape.calls k a0_0 t201 _ A2.out) ?_;intro nd)|((with_reducible refine gc_ 18 rfl ?_);refine gn_ (some 35) Try.func18 (spec_l1In.calls a0_1 (-2147483648) 2147483647 t205 _ A22.out) ?_;intro nd))
  go_ret
  exact⟨rr_,bw HB.out⟩
 rw[if_neg c21] at H
 obtain⟨c21b0,c21b1⟩:=eF_ c21
 by_cases c25:t201=5
 ·
  rw[if_pos c25] at H
  obtain⟨c25b0,c25b1⟩:=eT_ c25
  clear c25
  obtain rfl:=Option.some.inj H
  clear H
  go_enter Try.func80,Try.ntmps80
  go_wp2_with (first|((with_reducible refine gd_ 1 rfl ?_);refine bx_ #[.int .i64 a0_0,.int .i64 a0_1] 71 ?_;intro gb200 hg w26 hbox hb;have BK200:=A_ hbox;have GW200:=gw_ hg HB;have GE200:=GW200;replace HB:=bs_ HB hb;clear hb hbox hg;obtain⟨hcz27_0,hcz27_1⟩:=cs2_ BK200.out;obtain⟨hfz27_0,hfz27_1⟩:=fz2_ BK200.out)|((with_reducible refine gc_ 82 rfl ?_);refine gn_ (some 5) Try.func82 (spec_l6Shape.calls k a0_0 t201 _ A2.out) ?_;intro nd))
  go_ret
  exact⟨rr_,bw HB.out⟩
 rw[if_neg c25] at H
 obtain⟨c25b0,c25b1⟩:=eF_ c25
 by_cases c28:t201=6
 ·
  rw[if_pos c28] at H
  obtain⟨c28b0,c28b1⟩:=eT_ c28
  clear c28
  replace H:=bi_ H
  obtain⟨t206,A290,H⟩:=H
  have A29:=A_ A290
  clear A290
  obtain rfl:=Option.some.inj H
  clear H
  go_enter Try.func80,Try.ntmps80
  go_wp2_with (first|((with_reducible refine gd_ 1 rfl ?_);refine bx_ #[.int .i64 a0_0,.int .i64 a0_1] 71 ?_;intro gb200 hg w30 hbox hb;have BK200:=A_ hbox;have GW200:=gw_ hg HB;have GE200:=GW200;replace HB:=bs_ HB hb;clear hb hbox hg;obtain⟨hcz31_0,hcz31_1⟩:=cs2_ BK200.out;obtain⟨hfz31_0,hfz31_1⟩:=fz2_ BK200.out)|((with_reducible refine gc_ 82 rfl ?_);refine gn_ (some 5) Try.func82 (spec_l6Shape.calls k a0_0 t201 _ A2.out) ?_;intro nd)|((with_reducible refine gc_ 18 rfl ?_);refine gn_ (some 42) Try.func18 (spec_l1In.calls a0_1 0 4294967295 t206 _ A29.out) ?_;intro nd))
  go_ret
  exact⟨rr_,bw HB.out⟩
 rw[if_neg c28] at H
 obtain⟨c28b0,c28b1⟩:=eF_ c28
 obtain rfl:=Option.some.inj H
 clear H
 go_enter Try.func80,Try.ntmps80
 go_wp2_with (first|((with_reducible refine gd_ 1 rfl ?_);refine bx_ #[.int .i64 a0_0,.int .i64 a0_1] 71 ?_;intro gb200 hg w32 hbox hb;have BK200:=A_ hbox;have GW200:=gw_ hg HB;have GE200:=GW200;replace HB:=bs_ HB hb;clear hb hbox hg;obtain⟨hcz33_0,hcz33_1⟩:=cs2_ BK200.out;obtain⟨hfz33_0,hfz33_1⟩:=fz2_ BK200.out)|((with_reducible refine gc_ 82 rfl ?_);refine gn_ (some 5) Try.func82 (spec_l6Shape.calls k a0_0 t201 _ A2.out) ?_;intro nd))
 go_ret
 exact⟨rr_,bw HB.out⟩

end Go.Proofs.Ytghogonibanieaa.Q

