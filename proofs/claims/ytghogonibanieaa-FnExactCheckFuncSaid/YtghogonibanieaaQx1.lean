-- Written by a program of this session; it walks the functions that the law reaches.
import Derived.Test.YtghogonibanieaaQx0
namespace Go.Proofs.Ytghogonibanieaa.Q
open Go.RowKit Go.Proofs.YtghogonibanieaaW.PrintWords Go.Proofs.YtghogonibanieaaW.PrintLast Go.Proofs.YtghogonibanieaaW.PrintMore
attribute [local go_sem] max2_int min2_int max_two min_two max_three min_three max_four min_four   -- for this text's walks alone
set_option linter.unusedVariables false
set_option linter.unusedSimpArgs false
set_option maxRecDepth 100000
set_option maxHeartbeats 8000000

/-! ### laws_szIntS: function 38 -/
def laws_szIntS.f (l0:List Int) (a1:Int):Option (Int):=if (wrap64 (a1 - (l0.length:Int)))<0 then (some (-1)) else (some (wrap64 (a1 - (l0.length:Int))))
theorem laws_szIntS.calls (A0:Option Addr) (c0:Nat) (l0:List Int) (a1:Int) (r:Int) (w:World) (hr0:Kd.C (Kd.int .i64) w A0 l0.length l0) (hc0:l0.length≤c0) (h:laws_szIntS.f l0 a1=some r):
  Calls Try.prog 38 #[.slice A0 l0.length c0,.int .i64 a1] w fun e w'=>e=.returned (.int .i64 r)∧Drawn0 w w':=by
 have HR0:=A_ hr0
 have HC0:=A_ hc0
 clear hr0 hc0
 have H:(if (wrap64 (a1 - (l0.length:Int)))<0 then (some (-1)) else (some (wrap64 (a1 - (l0.length:Int)))))=some r:=h
 clear h
 by_cases c3:(wrap64 (a1 - (l0.length:Int)))<0
 ·
  rw[if_pos c3] at H
  have c3b0:=decide_eq_true c3
  clear c3
  obtain rfl:=Option.some.inj H
  clear H
  go_enter Try.func38,Try.ntmps38
  go_wp2
  go_ret
  exact⟨rs_,dr_⟩
 rw[if_neg c3] at H
 have c3b0:=decide_eq_false c3
 clear c3
 obtain rfl:=Option.some.inj H
 clear H
 go_enter Try.func38,Try.ntmps38
 go_wp2
 go_ret
 exact⟨rs_,dr_⟩

/-! ### laws_szInsS: function 39 -/
def laws_szInsS.f (l0:List (S107)) (a1:Int):Option (Int):=if (wrap64 (a1 - (l0.length:Int)))<0 then (some (-1)) else (some (wrap64 (a1 - (l0.length:Int))))
theorem laws_szInsS.calls (A0:Option Addr) (c0:Nat) (l0:List (S107)) (a1:Int) (r:Int) (w:World) (hr0:Kd.C k107 w A0 l0.length l0) (hc0:l0.length≤c0) (h:laws_szInsS.f l0 a1=some r):
  Calls Try.prog 39 #[.slice A0 l0.length c0,.int .i64 a1] w fun e w'=>e=.returned (.int .i64 r)∧Drawn0 w w':=by
 have HR0:=A_ hr0
 have HC0:=A_ hc0
 clear hr0 hc0
 have H:(if (wrap64 (a1 - (l0.length:Int)))<0 then (some (-1)) else (some (wrap64 (a1 - (l0.length:Int)))))=some r:=h
 clear h
 by_cases c3:(wrap64 (a1 - (l0.length:Int)))<0
 ·
  rw[if_pos c3] at H
  have c3b0:=decide_eq_true c3
  clear c3
  obtain rfl:=Option.some.inj H
  clear H
  go_enter Try.func39,Try.ntmps39
  go_wp2
  go_ret
  exact⟨rs_,dr_⟩
 rw[if_neg c3] at H
 have c3b0:=decide_eq_false c3
 clear c3
 obtain rfl:=Option.some.inj H
 clear H
 go_enter Try.func39,Try.ntmps39
 go_wp2
 go_ret
 exact⟨rs_,dr_⟩

/-! ### laws_szFunc: function 26 -/
def laws_szFunc.f (l0_0:List Int) (a0_1:Int) (l0_2:List Int) (l0_3:List (S107)) (a1:Int):Option (Int):=(laws_szIntS.f l0_0 a1).bind fun t102=>(if t102<0 then (some (-1)) else ((laws_szIntS.f l0_2 t102).bind fun t103=>(if t103<0 then (some (-1)) else ((laws_szInsS.f l0_3 t103).bind fun t104=>(if t104<0 then (some (-1)) else (some t104))))))
theorem laws_szFunc.calls (A0_0:Option Addr) (c0_0:Nat) (l0_0:List Int) (a0_1:Int) (A0_2:Option Addr) (c0_2:Nat) (l0_2:List Int) (A0_3:Option Addr) (c0_3:Nat) (l0_3:List (S107)) (a1:Int) (r:Int) (w:World) (hr0_0:Kd.C (Kd.int .i64) w A0_0 l0_0.length l0_0) (hc0_0:l0_0.length≤c0_0) (hr0_2:Kd.C (Kd.int .i64) w A0_2 l0_2.length l0_2) (hc0_2:l0_2.length≤c0_2) (hr0_3:Kd.C k107 w A0_3 l0_3.length l0_3) (hc0_3:l0_3.length≤c0_3) (h:laws_szFunc.f l0_0 a0_1 l0_2 l0_3 a1=some r):
  Calls Try.prog 26 #[.agg #[.slice A0_0 l0_0.length c0_0,.int .i64 a0_1,.slice A0_2 l0_2.length c0_2,.slice A0_3 l0_3.length c0_3],.int .i64 a1] w fun e w'=>e=.returned (.int .i64 r)∧Below w.heap.size w w':=by
 have hu56:=Try.underlying56
 have HR0_0:=A_ hr0_0
 have HC0_0:=A_ hc0_0
 clear hr0_0 hc0_0
 have HR0_2:=A_ hr0_2
 have HC0_2:=A_ hc0_2
 clear hr0_2 hc0_2
 have HR0_3:=A_ hr0_3
 have HC0_3:=A_ hc0_3
 clear hr0_3 hc0_3
 have HB:=A_ (Below.refl w.heap.size w)
 have H:((laws_szIntS.f l0_0 a1).bind fun t102=>(if t102<0 then (some (-1)) else ((laws_szIntS.f l0_2 t102).bind fun t103=>(if t103<0 then (some (-1)) else ((laws_szInsS.f l0_3 t103).bind fun t104=>(if t104<0 then (some (-1)) else (some t104)))))))=some r:=h
 clear h
 replace H:=bi_ H
 obtain⟨t102,A30,H⟩:=H
 have A3:=A_ A30
 clear A30
 by_cases c4:t102<0
 ·
  rw[if_pos c4] at H
  have c4b0:=decide_eq_true c4
  clear c4
  obtain rfl:=Option.some.inj H
  clear H
  go_enter Try.func26,Try.ntmps26
  go_wp2_with (first|((with_reducible refine gd_ 2 rfl ?_);refine bx_ #[.slice A0_0 l0_0.length c0_0,.int .i64 a0_1,.slice A0_2 l0_2.length c0_2,.slice A0_3 l0_3.length c0_3] 56 ?_;intro gb101 hg w5 hbox hb;have BK101:=A_ hbox;have GW101:=gw_ hg HB;have GE101:=GW101;replace HB:=bs_ HB hb;clear hb hbox hg;obtain⟨hcz6_0,hcz6_1,hcz6_2,hcz6_3⟩:=cs4_ BK101.out;obtain⟨hfz6_0,hfz6_1,hfz6_2,hfz6_3⟩:=fz4_ BK101.out)|((with_reducible refine gc_ 38 rfl ?_);refine gn_ (some 8) Try.func38 (laws_szIntS.calls _ _ l0_0 a1 t102 _ (cb_ HR0_0 HB) HC0_0.out A3.out) ?_;intro nd))
  go_ret
  exact⟨rr_,bw HB.out⟩
 rw[if_neg c4] at H
 have c4b0:=decide_eq_false c4
 clear c4
 replace H:=bi_ H
 obtain⟨t103,A70,H⟩:=H
 have A7:=A_ A70
 clear A70
 by_cases c8:t103<0
 ·
  rw[if_pos c8] at H
  have c8b0:=decide_eq_true c8
  clear c8
  obtain rfl:=Option.some.inj H
  clear H
  go_enter Try.func26,Try.ntmps26
  go_wp2_with (first|((with_reducible refine gd_ 2 rfl ?_);refine bx_ #[.slice A0_0 l0_0.length c0_0,.int .i64 a0_1,.slice A0_2 l0_2.length c0_2,.slice A0_3 l0_3.length c0_3] 56 ?_;intro gb101 hg w9 hbox hb;have BK101:=A_ hbox;have GW101:=gw_ hg HB;have GE101:=GW101;replace HB:=bs_ HB hb;clear hb hbox hg;obtain⟨hcz10_0,hcz10_1,hcz10_2,hcz10_3⟩:=cs4_ BK101.out;obtain⟨hfz10_0,hfz10_1,hfz10_2,hfz10_3⟩:=fz4_ BK101.out)|((with_reducible refine gc_ 38 rfl ?_);refine gn_ (some 8) Try.func38 (laws_szIntS.calls _ _ l0_0 a1 t102 _ (cb_ HR0_0 HB) HC0_0.out A3.out) ?_;intro nd)|((with_reducible refine gc_ 38 rfl ?_);refine gn_ (some 14) Try.func38 (laws_szIntS.calls _ _ l0_2 t102 t103 _ (cb_ HR0_2 HB) HC0_2.out A7.out) ?_;intro nd))
  go_ret
  exact⟨rr_,bw HB.out⟩
 rw[if_neg c8] at H
 have c8b0:=decide_eq_false c8
 clear c8
 replace H:=bi_ H
 obtain⟨t104,A110,H⟩:=H
 have A11:=A_ A110
 clear A110
 by_cases c12:t104<0
 ·
  rw[if_pos c12] at H
  have c12b0:=decide_eq_true c12
  clear c12
  obtain rfl:=Option.some.inj H
  clear H
  go_enter Try.func26,Try.ntmps26
  go_wp2_with (first|((with_reducible refine gd_ 2 rfl ?_);refine bx_ #[.slice A0_0 l0_0.length c0_0,.int .i64 a0_1,.slice A0_2 l0_2.length c0_2,.slice A0_3 l0_3.length c0_3] 56 ?_;intro gb101 hg w13 hbox hb;have BK101:=A_ hbox;have GW101:=gw_ hg HB;have GE101:=GW101;replace HB:=bs_ HB hb;clear hb hbox hg;obtain⟨hcz14_0,hcz14_1,hcz14_2,hcz14_3⟩:=cs4_ BK101.out;obtain⟨hfz14_0,hfz14_1,hfz14_2,hfz14_3⟩:=fz4_ BK101.out)|((with_reducible refine gc_ 38 rfl ?_);refine gn_ (some 8) Try.func38 (laws_szIntS.calls _ _ l0_0 a1 t102 _ (cb_ HR0_0 HB) HC0_0.out A3.out) ?_;intro nd)|((with_reducible refine gc_ 38 rfl ?_);refine gn_ (some 14) Try.func38 (laws_szIntS.calls _ _ l0_2 t102 t103 _ (cb_ HR0_2 HB) HC0_2.out A7.out) ?_;intro nd)|((with_reducible refine gc_ 39 rfl ?_);refine gn_ (some 20) Try.func39 (laws_szInsS.calls _ _ l0_3 t103 t104 _ (cb_ HR0_3 HB) HC0_3.out A11.out) ?_;intro nd))
  go_ret
  exact⟨rr_,bw HB.out⟩
 rw[if_neg c12] at H
 have c12b0:=decide_eq_false c12
 clear c12
 obtain rfl:=Option.some.inj H
 clear H
 go_enter Try.func26,Try.ntmps26
 go_wp2_with (first|((with_reducible refine gd_ 2 rfl ?_);refine bx_ #[.slice A0_0 l0_0.length c0_0,.int .i64 a0_1,.slice A0_2 l0_2.length c0_2,.slice A0_3 l0_3.length c0_3] 56 ?_;intro gb101 hg w15 hbox hb;have BK101:=A_ hbox;have GW101:=gw_ hg HB;have GE101:=GW101;replace HB:=bs_ HB hb;clear hb hbox hg;obtain⟨hcz16_0,hcz16_1,hcz16_2,hcz16_3⟩:=cs4_ BK101.out;obtain⟨hfz16_0,hfz16_1,hfz16_2,hfz16_3⟩:=fz4_ BK101.out)|((with_reducible refine gc_ 38 rfl ?_);refine gn_ (some 8) Try.func38 (laws_szIntS.calls _ _ l0_0 a1 t102 _ (cb_ HR0_0 HB) HC0_0.out A3.out) ?_;intro nd)|((with_reducible refine gc_ 38 rfl ?_);refine gn_ (some 14) Try.func38 (laws_szIntS.calls _ _ l0_2 t102 t103 _ (cb_ HR0_2 HB) HC0_2.out A7.out) ?_;intro nd)|((with_reducible refine gc_ 39 rfl ?_);refine gn_ (some 20) Try.func39 (laws_szInsS.calls _ _ l0_3 t103 t104 _ (cb_ HR0_3 HB) HC0_3.out A11.out) ?_;intro nd))
 go_ret
 exact⟨rr_,bw HB.out⟩

/-! ### laws_szFuncS: function 15 -/
def laws_szFuncS.l0:Nat→List (S56)→Int→Int→Option (Int)
 |0,_,_,_=>none
 |k+1,x0,x1,x5=>if x5<(x0.length:Int) then (if 0≤x5 then ((laws_szFunc.f ((rd_T56 x0 x5).f0) ((rd_T56 x0 x5).f1) ((rd_T56 x0 x5).f2) ((rd_T56 x0 x5).f3) x1).bind fun t106=>(if t106<0 then (some (-1)) else (laws_szFuncS.l0 k x0 t106 (wrap64 (x5+1))))) else (none)) else (some x1)
def laws_szFuncS.f (k:Nat) (l0:List (S56)) (a1:Int):Option (Int):=if (wrap64 (a1 - (l0.length:Int)))<0 then (some (-1)) else (laws_szFuncS.l0 k l0 (wrap64 (a1 - (l0.length:Int))) 0)
theorem laws_szFuncS.calls (k:Nat) (A0:Option Addr) (c0:Nat) (l0:List (S56)) (a1:Int) (r:Int) (w:World) (hr0:Kd.C k56 w A0 l0.length l0) (hc0:l0.length≤c0) (h:laws_szFuncS.f k l0 a1=some r):
  Calls Try.prog 15 #[.slice A0 l0.length c0,.int .i64 a1] w fun e w'=>e=.returned (.int .i64 r)∧Below w.heap.size w w':=by
 have hu56:=Try.underlying56
 have HR0:=A_ hr0
 have HC0:=A_ hc0
 clear hr0 hc0
 have HB:=A_ (Below.refl w.heap.size w)
 have H:(if (wrap64 (a1 - (l0.length:Int)))<0 then (some (-1)) else (laws_szFuncS.l0 k l0 (wrap64 (a1 - (l0.length:Int))) 0))=some r:=h
 clear h
 by_cases c3:(wrap64 (a1 - (l0.length:Int)))<0
 ·
  rw[if_pos c3] at H
  have c3b0:=decide_eq_true c3
  clear c3
  obtain rfl:=Option.some.inj H
  clear H
  go_enter Try.func15,Try.ntmps15
  go_wp2
  go_ret
  exact⟨rr_,bw HB.out⟩
 rw[if_neg c3] at H
 have c3b0:=decide_eq_false c3
 clear c3
 have H':=A_ H
 clear H
 go_enter Try.func15,Try.ntmps15
 go_wp2
 (try simp only[Act.put,List.setIfInBounds_toArray,List.set_cons_zero,List.set_cons_succ])
 go_loopg [1,5] k (fun kq v1 v5 w'=>∃ (x1_1:Int) (x5_1:Int),v1=.int .i64 x1_1∧v5=.int .i64 x5_1∧Aside0 (laws_szFuncS.l0 kq l0 x1_1 x5_1=some r)∧Aside0 (kq≤k)∧Aside0 (Below w.heap.size w w'))
 case atStart=>exact⟨(wrap64 (a1 - (l0.length:Int))),(0),rs_,rs_,H',⟨Nat.le_refl _⟩,⟨bw HB.out⟩⟩
 case round=>
  clear H'
  try clear c3 c3b0
  obtain⟨x1_1,x5_1,rfl,rfl,HA,HK1,HB⟩:=hrel
  cases gk with
  |zero=>exact absurd HA.out (by simp[laws_szFuncS.l0])
  |succ k1=>
   have H:=HA.out
   clear HA
   simp only[laws_szFuncS.l0] at H
   by_cases c4:x5_1<(l0.length:Int)
   ·
    rw[if_pos c4] at H
    have c4b0:=decide_eq_true c4
    clear c4
    by_cases c5:0≤x5_1
    ·
     rw[if_pos c5] at H
     have c5b0:=decide_eq_true c5
     clear c5
     replace H:=bi_ H
     obtain⟨t106,A60,H⟩:=H
     have A6:=A_ A60
     clear A60
     by_cases c7:t106<0
     ·
      rw[if_pos c7] at H
      have c7b0:=decide_eq_true c7
      clear c7
      obtain rfl:=Option.some.inj H
      clear H
      have p105:0≤(x5_1:Int):=od_
      have q105:x5_1<(l0.length:Int):=od_
      obtain⟨ad105,A105_0,c105_0,A105_2,c105_2,A105_3,c105_3,e105,hx105_0,hx105_1,hx105_2,hx105_3,hl105_0,hi105_0,hl105_2,hi105_2,hl105_3,hi105_3⟩:=at_T56 HR0.out x5_1 p105 q105
      cases e105
      replace hx105_0:=cl_ HB.out hx105_0
      replace hx105_1:=cl_ HB.out hx105_1
      replace hx105_2:=cl_ HB.out hx105_2
      replace hx105_3:=cl_ HB.out hx105_3
      have HR105_0:=A_ hi105_0
      have HC105_0:=A_ hl105_0
      clear hi105_0 hl105_0
      have HR105_2:=A_ hi105_2
      have HC105_2:=A_ hl105_2
      clear hi105_2 hl105_2
      have HR105_3:=A_ hi105_3
      have HC105_3:=A_ hl105_3
      clear hi105_3 hl105_3
      replace p105:=eq_true p105
      replace q105:=eq_true q105
      go_wp2_with (first|((with_reducible refine gc_ 26 rfl ?_);refine gm_ (some 23) Try.func26 (laws_szFunc.calls _ _ ((rd_T56 l0 x5_1).f0) ((rd_T56 l0 x5_1).f1) _ _ ((rd_T56 l0 x5_1).f2) _ _ ((rd_T56 l0 x5_1).f3) x1_1 t106 _ (cb_ HR105_0 HB) HC105_0.out (cb_ HR105_2 HB) HC105_2.out (cb_ HR105_3 HB) HC105_3.out A6.out) ?_;intro w8 hb;replace HB:=bs_ HB hb;(try clear hb)))
      go_ret
      exact⟨rr_,bw HB.out⟩
     rw[if_neg c7] at H
     have c7b0:=decide_eq_false c7
     clear c7
     have H':=A_ H
     clear H
     have p105:0≤(x5_1:Int):=od_
     have q105:x5_1<(l0.length:Int):=od_
     obtain⟨ad105,A105_0,c105_0,A105_2,c105_2,A105_3,c105_3,e105,hx105_0,hx105_1,hx105_2,hx105_3,hl105_0,hi105_0,hl105_2,hi105_2,hl105_3,hi105_3⟩:=at_T56 HR0.out x5_1 p105 q105
     cases e105
     replace hx105_0:=cl_ HB.out hx105_0
     replace hx105_1:=cl_ HB.out hx105_1
     replace hx105_2:=cl_ HB.out hx105_2
     replace hx105_3:=cl_ HB.out hx105_3
     have HR105_0:=A_ hi105_0
     have HC105_0:=A_ hl105_0
     clear hi105_0 hl105_0
     have HR105_2:=A_ hi105_2
     have HC105_2:=A_ hl105_2
     clear hi105_2 hl105_2
     have HR105_3:=A_ hi105_3
     have HC105_3:=A_ hl105_3
     clear hi105_3 hl105_3
     replace p105:=eq_true p105
     replace q105:=eq_true q105
     go_wp2_with (first|((with_reducible refine gc_ 26 rfl ?_);refine gm_ (some 23) Try.func26 (laws_szFunc.calls _ _ ((rd_T56 l0 x5_1).f0) ((rd_T56 l0 x5_1).f1) _ _ ((rd_T56 l0 x5_1).f2) _ _ ((rd_T56 l0 x5_1).f3) x1_1 t106 _ (cb_ HR105_0 HB) HC105_0.out (cb_ HR105_2 HB) HC105_2.out (cb_ HR105_3 HB) HC105_3.out A6.out) ?_;intro w9 hb;replace HB:=bs_ HB hb;(try clear hb)))
     go_roundg k1
     case measure=>have:=HK1.out;omega
     case rel=>exact⟨(t106),(wrap64 (x5_1+1)),rs_,rs_,H',⟨by have:=HK1.out;omega⟩,⟨bw HB.out⟩⟩
    rw[if_neg c5] at H
    exact absurd H (by simp)
   rw[if_neg c4] at H
   have c4b0:=decide_eq_false c4
   clear c4
   obtain rfl:=Option.some.inj H
   clear H
   go_wp2
   go_ret
   exact⟨rr_,bw HB.out⟩

/-! ### laws_szGlobalS: function 16 -/
def laws_szGlobalS.f (l0:List (S75)) (a1:Int):Option (Int):=if (wrap64 (a1 - (l0.length:Int)))<0 then (some (-1)) else (some (wrap64 (a1 - (l0.length:Int))))
theorem laws_szGlobalS.calls (A0:Option Addr) (c0:Nat) (l0:List (S75)) (a1:Int) (r:Int) (w:World) (hr0:Kd.C k75 w A0 l0.length l0) (hc0:l0.length≤c0) (h:laws_szGlobalS.f l0 a1=some r):
  Calls Try.prog 16 #[.slice A0 l0.length c0,.int .i64 a1] w fun e w'=>e=.returned (.int .i64 r)∧Drawn0 w w':=by
 have HR0:=A_ hr0
 have HC0:=A_ hc0
 clear hr0 hc0
 have H:(if (wrap64 (a1 - (l0.length:Int)))<0 then (some (-1)) else (some (wrap64 (a1 - (l0.length:Int)))))=some r:=h
 clear h
 by_cases c3:(wrap64 (a1 - (l0.length:Int)))<0
 ·
  rw[if_pos c3] at H
  have c3b0:=decide_eq_true c3
  clear c3
  obtain rfl:=Option.some.inj H
  clear H
  go_enter Try.func16,Try.ntmps16
  go_wp2
  go_ret
  exact⟨rs_,dr_⟩
 rw[if_neg c3] at H
 have c3b0:=decide_eq_false c3
 clear c3
 obtain rfl:=Option.some.inj H
 clear H
 go_enter Try.func16,Try.ntmps16
 go_wp2
 go_ret
 exact⟨rs_,dr_⟩

/-! ### laws_szModule: function 6 -/
def laws_szModule.f (k:Nat) (l0_0:List (S56)) (l0_1:List (S75)) (a0_2:Bool) (a0_3:Int) (a0_4:Int) (a0_5:Int) (a1:Int):Option (Int):=(laws_szFuncS.f k l0_0 a1).bind fun t108=>(if t108<0 then (some (-1)) else ((laws_szGlobalS.f l0_1 t108).bind fun t109=>(if t109<0 then (some (-1)) else (some t109))))
theorem laws_szModule.calls (k:Nat) (A0_0:Option Addr) (c0_0:Nat) (l0_0:List (S56)) (A0_1:Option Addr) (c0_1:Nat) (l0_1:List (S75)) (a0_2:Bool) (a0_3:Int) (a0_4:Int) (a0_5:Int) (a1:Int) (r:Int) (w:World) (hr0_0:Kd.C k56 w A0_0 l0_0.length l0_0) (hc0_0:l0_0.length≤c0_0) (hr0_1:Kd.C k75 w A0_1 l0_1.length l0_1) (hc0_1:l0_1.length≤c0_1) (h:laws_szModule.f k l0_0 l0_1 a0_2 a0_3 a0_4 a0_5 a1=some r):
  Calls Try.prog 6 #[.agg #[.slice A0_0 l0_0.length c0_0,.slice A0_1 l0_1.length c0_1,.bool a0_2,.int .i64 a0_3,.int .i64 a0_4,.int .i64 a0_5],.int .i64 a1] w fun e w'=>e=.returned (.int .i64 r)∧Below w.heap.size w w':=by
 have hu25:=Try.underlying25
 have HR0_0:=A_ hr0_0
 have HC0_0:=A_ hc0_0
 clear hr0_0 hc0_0
 have HR0_1:=A_ hr0_1
 have HC0_1:=A_ hc0_1
 clear hr0_1 hc0_1
 have HB:=A_ (Below.refl w.heap.size w)
 have H:((laws_szFuncS.f k l0_0 a1).bind fun t108=>(if t108<0 then (some (-1)) else ((laws_szGlobalS.f l0_1 t108).bind fun t109=>(if t109<0 then (some (-1)) else (some t109)))))=some r:=h
 clear h
 replace H:=bi_ H
 obtain⟨t108,A30,H⟩:=H
 have A3:=A_ A30
 clear A30
 by_cases c4:t108<0
 ·
  rw[if_pos c4] at H
  have c4b0:=decide_eq_true c4
  clear c4
  obtain rfl:=Option.some.inj H
  clear H
  go_enter Try.func6,Try.ntmps6
  go_wp2_with (first|((with_reducible refine gd_ 2 rfl ?_);refine bx_ #[.slice A0_0 l0_0.length c0_0,.slice A0_1 l0_1.length c0_1,.bool a0_2,.int .i64 a0_3,.int .i64 a0_4,.int .i64 a0_5] 25 ?_;intro gb107 hg w5 hbox hb;have BK107:=A_ hbox;have GW107:=gw_ hg HB;have GE107:=GW107;replace HB:=bs_ HB hb;clear hb hbox hg;obtain⟨hcz6_0,hcz6_1,hcz6_2,hcz6_3,hcz6_4,hcz6_5⟩:=cs6_ BK107.out;obtain⟨hfz6_0,hfz6_1,hfz6_2,hfz6_3,hfz6_4,hfz6_5⟩:=fz6_ BK107.out)|((with_reducible refine gc_ 15 rfl ?_);refine gm_ (some 8) Try.func15 (laws_szFuncS.calls k _ _ l0_0 a1 t108 _ (cb_ HR0_0 HB) HC0_0.out A3.out) ?_;intro w7 hb;replace BK107:=kb_ BK107 hb;replace HB:=bs_ HB hb;(try clear hb)))
  go_ret
  exact⟨rr_,bw HB.out⟩
 rw[if_neg c4] at H
 have c4b0:=decide_eq_false c4
 clear c4
 replace H:=bi_ H
 obtain⟨t109,A80,H⟩:=H
 have A8:=A_ A80
 clear A80
 by_cases c9:t109<0
 ·
  rw[if_pos c9] at H
  have c9b0:=decide_eq_true c9
  clear c9
  obtain rfl:=Option.some.inj H
  clear H
  go_enter Try.func6,Try.ntmps6
  go_wp2_with (first|((with_reducible refine gd_ 2 rfl ?_);refine bx_ #[.slice A0_0 l0_0.length c0_0,.slice A0_1 l0_1.length c0_1,.bool a0_2,.int .i64 a0_3,.int .i64 a0_4,.int .i64 a0_5] 25 ?_;intro gb107 hg w10 hbox hb;have BK107:=A_ hbox;have GW107:=gw_ hg HB;have GE107:=GW107;replace HB:=bs_ HB hb;clear hb hbox hg;obtain⟨hcz11_0,hcz11_1,hcz11_2,hcz11_3,hcz11_4,hcz11_5⟩:=cs6_ BK107.out;obtain⟨hfz11_0,hfz11_1,hfz11_2,hfz11_3,hfz11_4,hfz11_5⟩:=fz6_ BK107.out)|((with_reducible refine gc_ 15 rfl ?_);refine gm_ (some 8) Try.func15 (laws_szFuncS.calls k _ _ l0_0 a1 t108 _ (cb_ HR0_0 HB) HC0_0.out A3.out) ?_;intro w12 hb;replace BK107:=kb_ BK107 hb;replace HB:=bs_ HB hb;(try clear hb);obtain⟨hcz13_0,hcz13_1,hcz13_2,hcz13_3,hcz13_4,hcz13_5⟩:=cs6_ BK107.out;obtain⟨hfz13_0,hfz13_1,hfz13_2,hfz13_3,hfz13_4,hfz13_5⟩:=fz6_ BK107.out)|((with_reducible refine gc_ 16 rfl ?_);refine gn_ (some 14) Try.func16 (laws_szGlobalS.calls _ _ l0_1 t108 t109 _ (cb_ HR0_1 HB) HC0_1.out A8.out) ?_;intro nd))
  go_ret
  exact⟨rr_,bw HB.out⟩
 rw[if_neg c9] at H
 have c9b0:=decide_eq_false c9
 clear c9
 obtain rfl:=Option.some.inj H
 clear H
 go_enter Try.func6,Try.ntmps6
 go_wp2_with (first|((with_reducible refine gd_ 2 rfl ?_);refine bx_ #[.slice A0_0 l0_0.length c0_0,.slice A0_1 l0_1.length c0_1,.bool a0_2,.int .i64 a0_3,.int .i64 a0_4,.int .i64 a0_5] 25 ?_;intro gb107 hg w14 hbox hb;have BK107:=A_ hbox;have GW107:=gw_ hg HB;have GE107:=GW107;replace HB:=bs_ HB hb;clear hb hbox hg;obtain⟨hcz15_0,hcz15_1,hcz15_2,hcz15_3,hcz15_4,hcz15_5⟩:=cs6_ BK107.out;obtain⟨hfz15_0,hfz15_1,hfz15_2,hfz15_3,hfz15_4,hfz15_5⟩:=fz6_ BK107.out)|((with_reducible refine gc_ 15 rfl ?_);refine gm_ (some 8) Try.func15 (laws_szFuncS.calls k _ _ l0_0 a1 t108 _ (cb_ HR0_0 HB) HC0_0.out A3.out) ?_;intro w16 hb;replace BK107:=kb_ BK107 hb;replace HB:=bs_ HB hb;(try clear hb);obtain⟨hcz17_0,hcz17_1,hcz17_2,hcz17_3,hcz17_4,hcz17_5⟩:=cs6_ BK107.out;obtain⟨hfz17_0,hfz17_1,hfz17_2,hfz17_3,hfz17_4,hfz17_5⟩:=fz6_ BK107.out)|((with_reducible refine gc_ 16 rfl ?_);refine gn_ (some 14) Try.func16 (laws_szGlobalS.calls _ _ l0_1 t108 t109 _ (cb_ HR0_1 HB) HC0_1.out A8.out) ?_;intro nd))
 go_ret
 exact⟨rr_,bw HB.out⟩

/-! ### spec_l1In: function 18 -/
def spec_l1In.f (a0:Int) (a1:Int) (a2:Int):Option (Bool):=if a0≥a1 then (some (decide (a0≤a2))) else (some false)
theorem spec_l1In.calls (a0:Int) (a1:Int) (a2:Int) (r:Bool) (w:World) (h:spec_l1In.f a0 a1 a2=some r):
  Calls Try.prog 18 #[.int .i64 a0,.int .i64 a1,.int .i64 a2] w fun e w'=>e=.returned (.bool r)∧Drawn0 w w':=by
 have H:(if a0≥a1 then (some (decide (a0≤a2))) else (some false))=some r:=h
 clear h
 by_cases c4:a0≥a1
 ·
  rw[if_pos c4] at H
  have c4b0:=decide_eq_true c4
  clear c4
  obtain rfl:=Option.some.inj H
  clear H
  go_enter Try.func18,Try.ntmps18
  go_wp2
  go_ret
  exact⟨rs_,dr_⟩
 rw[if_neg c4] at H
 have c4b0:=decide_eq_false c4
 clear c4
 obtain rfl:=Option.some.inj H
 clear H
 go_enter Try.func18,Try.ntmps18
 go_wp2
 go_ret
 exact⟨rs_,dr_⟩

/-! ### spec_l6Type: function 28 -/
def spec_l6Type.f (a0:Int):Option (Bool):=(spec_l1In.f a0 125 127).bind fun t110=>(some t110)
theorem spec_l6Type.calls (a0:Int) (r:Bool) (w:World) (h:spec_l6Type.f a0=some r):
  Calls Try.prog 28 #[.int .i64 a0] w fun e w'=>e=.returned (.bool r)∧Drawn0 w w':=by
 have H:((spec_l1In.f a0 125 127).bind fun t110=>(some t110))=some r:=h
 clear h
 replace H:=bi_ H
 obtain⟨t110,A20,H⟩:=H
 have A2:=A_ A20
 clear A20
 obtain rfl:=Option.some.inj H
 clear H
 go_enter Try.func28,Try.ntmps28
 go_wp2_with (first|((with_reducible refine gc_ 18 rfl ?_);refine gn_ (some 4) Try.func18 (spec_l1In.calls a0 125 127 t110 _ A2.out) ?_;intro nd))
 go_ret
 exact⟨rs_,dr_⟩

/-! ### spec_l6Shape: function 82 -/
mutual
def spec_l6Shape.j0:Nat→Int→Int→Bool→Option (Int)
 |0,_,_,_=>none
 |k+1,x0,x3,x4=>if x4=true then (some 0) else (if x3=2 then (spec_l6Shape.j1 k x0 x3 (x3==2)) else (if x3=3 then (spec_l6Shape.j1 k x0 x3 (x3==3)) else (spec_l6Shape.j1 k x0 x3 (x3==4))))
def spec_l6Shape.j1:Nat→Int→Int→Bool→Option (Int)
 |0,_,_,_=>none
 |k+1,x0,x3,x19=>if x19=true then (some 1) else (if x3=12 then (spec_l6Shape.j2 k x0 x3 (x3==12)) else (if x3=13 then (spec_l6Shape.j2 k x0 x3 (x3==13)) else (if x3=16 then (spec_l6Shape.j2 k x0 x3 (x3==16)) else (if x3=32 then (spec_l6Shape.j2 k x0 x3 (x3==32)) else (if x3=33 then (spec_l6Shape.j2 k x0 x3 (x3==33)) else (if x3=34 then (spec_l6Shape.j2 k x0 x3 (x3==34)) else (if x3=35 then (spec_l6Shape.j2 k x0 x3 (x3==35)) else (spec_l6Shape.j2 k x0 x3 (x3==36)))))))))
def spec_l6Shape.j2:Nat→Int→Int→Bool→Option (Int)
 |0,_,_,_=>none
 |k+1,x0,x3,x23=>if x23=true then (some 2) else (if x3=40 then (spec_l6Shape.j3 k x0 x3 (x3==40)) else (if x3=41 then (spec_l6Shape.j3 k x0 x3 (x3==41)) else (if x3=54 then (spec_l6Shape.j3 k x0 x3 (x3==54)) else (spec_l6Shape.j3 k x0 x3 (x3==55)))))
def spec_l6Shape.j3:Nat→Int→Int→Bool→Option (Int)
 |0,_,_,_=>none
 |k+1,x0,x3,x32=>if x32=true then (some 3) else (if x3=65 then (some 4) else (if x3=66 then (some 5) else (if x3=67 then (some 6) else ((spec_l1In.f x0 97 123).bind fun t111=>(if t111=true then (some 0) else ((spec_l1In.f x0 129 155).bind fun t112=>(if t112=true then (some 0) else ((spec_l1In.f x0 161 169).bind fun t113=>(if t113=true then (some 0) else (some (-1)))))))))))
end
def spec_l6Shape.f (k:Nat) (a0:Int):Option (Int):=if a0=0 then (spec_l6Shape.j0 k a0 a0 (a0==0)) else (if a0=1 then (spec_l6Shape.j0 k a0 a0 (a0==1)) else (if a0=5 then (spec_l6Shape.j0 k a0 a0 (a0==5)) else (if a0=11 then (spec_l6Shape.j0 k a0 a0 (a0==11)) else (if a0=15 then (spec_l6Shape.j0 k a0 a0 (a0==15)) else (if a0=26 then (spec_l6Shape.j0 k a0 a0 (a0==26)) else (if a0=27 then (spec_l6Shape.j0 k a0 a0 (a0==27)) else (if a0=63 then (spec_l6Shape.j0 k a0 a0 (a0==63)) else (if a0=64 then (spec_l6Shape.j0 k a0 a0 (a0==64)) else (if a0=176 then (spec_l6Shape.j0 k a0 a0 (a0==176)) else (if a0=177 then (spec_l6Shape.j0 k a0 a0 (a0==177)) else (if a0=178 then (spec_l6Shape.j0 k a0 a0 (a0==178)) else (if a0=179 then (spec_l6Shape.j0 k a0 a0 (a0==179)) else (spec_l6Shape.j0 k a0 a0 (a0==180))))))))))))))
theorem spec_l6Shape.mono_l:∀ k,(∀ y0 y1 y2,LeO (spec_l6Shape.j0 k y0 y1 y2) (spec_l6Shape.j0 (k+1) y0 y1 y2))∧(∀ y0 y1 y2,LeO (spec_l6Shape.j1 k y0 y1 y2) (spec_l6Shape.j1 (k+1) y0 y1 y2))∧(∀ y0 y1 y2,LeO (spec_l6Shape.j2 k y0 y1 y2) (spec_l6Shape.j2 (k+1) y0 y1 y2))∧(∀ y0 y1 y2,LeO (spec_l6Shape.j3 k y0 y1 y2) (spec_l6Shape.j3 (k+1) y0 y1 y2))
 |0=>⟨fun _ _ _ r h=>by simp[spec_l6Shape.j0] at h,fun _ _ _ r h=>by simp[spec_l6Shape.j1] at h,fun _ _ _ r h=>by simp[spec_l6Shape.j2] at h,fun _ _ _ r h=>by simp[spec_l6Shape.j3] at h⟩
 |k+1=>by
  obtain⟨ih0,ih1,ih2,ih3⟩:=spec_l6Shape.mono_l k
  refine⟨?_,?_,?_,?_⟩
  ·
   intro y0 y1 y2
   unfold spec_l6Shape.j0
   repeat' first
   |(with_reducible exact ih0 _ _ _)
   |(with_reducible exact ih1 _ _ _)
   |(with_reducible exact ih2 _ _ _)
   |(with_reducible exact ih3 _ _ _)
   |(with_reducible exact LeO.refl _)
   |(with_reducible exact LeO.none _)
   |(with_reducible refine LeO.ite ?_ ?_)
   |(with_reducible refine LeO.bind ?_ (fun _=>?_))
   |exact ih0 _ _ _
   |exact ih1 _ _ _
   |exact ih2 _ _ _
   |exact ih3 _ _ _
   |exact LeO.none _
   |refine LeO.ite ?_ ?_
   |refine LeO.bind ?_ (fun _=>?_)
  ·
   intro y0 y1 y2
   unfold spec_l6Shape.j1
   repeat' first
   |(with_reducible exact ih0 _ _ _)
   |(with_reducible exact ih1 _ _ _)
   |(with_reducible exact ih2 _ _ _)
   |(with_reducible exact ih3 _ _ _)
   |(with_reducible exact LeO.refl _)
   |(with_reducible exact LeO.none _)
   |(with_reducible refine LeO.ite ?_ ?_)
   |(with_reducible refine LeO.bind ?_ (fun _=>?_))
   |exact ih0 _ _ _
   |exact ih1 _ _ _
   |exact ih2 _ _ _
   |exact ih3 _ _ _
   |exact LeO.none _
   |refine LeO.ite ?_ ?_
   |refine LeO.bind ?_ (fun _=>?_)
  ·
   intro y0 y1 y2
   unfold spec_l6Shape.j2
   repeat' first
   |(with_reducible exact ih0 _ _ _)
   |(with_reducible exact ih1 _ _ _)
   |(with_reducible exact ih2 _ _ _)
   |(with_reducible exact ih3 _ _ _)
   |(with_reducible exact LeO.refl _)
   |(with_reducible exact LeO.none _)
   |(with_reducible refine LeO.ite ?_ ?_)
   |(with_reducible refine LeO.bind ?_ (fun _=>?_))
   |exact ih0 _ _ _
   |exact ih1 _ _ _
   |exact ih2 _ _ _
   |exact ih3 _ _ _
   |exact LeO.none _
   |refine LeO.ite ?_ ?_
   |refine LeO.bind ?_ (fun _=>?_)
  intro y0 y1 y2
  unfold spec_l6Shape.j3
  repeat' first
  |(with_reducible exact ih0 _ _ _)
  |(with_reducible exact ih1 _ _ _)
  |(with_reducible exact ih2 _ _ _)
  |(with_reducible exact ih3 _ _ _)
  |(with_reducible exact LeO.refl _)
  |(with_reducible exact LeO.none _)
  |(with_reducible refine LeO.ite ?_ ?_)
  |(with_reducible refine LeO.bind ?_ (fun _=>?_))
  |exact ih0 _ _ _
  |exact ih1 _ _ _
  |exact ih2 _ _ _
  |exact ih3 _ _ _
  |exact LeO.none _
  |refine LeO.ite ?_ ?_
  |refine LeO.bind ?_ (fun _=>?_)
theorem spec_l6Shape.mono:∀ a0 k,LeO (spec_l6Shape.f k a0) (spec_l6Shape.f (k+1) a0):=by
 intro a0 k
 obtain⟨ih0,ih1,ih2,ih3⟩:=spec_l6Shape.mono_l k
 unfold spec_l6Shape.f
 repeat' first
   |(with_reducible exact ih0 _ _ _)
   |(with_reducible exact ih1 _ _ _)
   |(with_reducible exact ih2 _ _ _)
   |(with_reducible exact ih3 _ _ _)
   |(with_reducible exact LeO.refl _)
   |(with_reducible exact LeO.none _)
   |(with_reducible refine LeO.ite ?_ ?_)
   |(with_reducible refine LeO.bind ?_ (fun _=>?_))
   |exact ih0 _ _ _
   |exact ih1 _ _ _
   |exact ih2 _ _ _
   |exact ih3 _ _ _
   |exact LeO.none _
   |refine LeO.ite ?_ ?_
   |refine LeO.bind ?_ (fun _=>?_)
theorem spec_l6Shape.calls (k:Nat) (a0:Int) (r:Int) (w:World) (h:spec_l6Shape.f k a0=some r):
  Calls Try.prog 82 #[.int .i64 a0] w fun e w'=>e=.returned (.int .i64 r)∧Drawn0 w w':=by
 have H:(if a0=0 then (spec_l6Shape.j0 k a0 a0 (a0==0)) else (if a0=1 then (spec_l6Shape.j0 k a0 a0 (a0==1)) else (if a0=5 then (spec_l6Shape.j0 k a0 a0 (a0==5)) else (if a0=11 then (spec_l6Shape.j0 k a0 a0 (a0==11)) else (if a0=15 then (spec_l6Shape.j0 k a0 a0 (a0==15)) else (if a0=26 then (spec_l6Shape.j0 k a0 a0 (a0==26)) else (if a0=27 then (spec_l6Shape.j0 k a0 a0 (a0==27)) else (if a0=63 then (spec_l6Shape.j0 k a0 a0 (a0==63)) else (if a0=64 then (spec_l6Shape.j0 k a0 a0 (a0==64)) else (if a0=176 then (spec_l6Shape.j0 k a0 a0 (a0==176)) else (if a0=177 then (spec_l6Shape.j0 k a0 a0 (a0==177)) else (if a0=178 then (spec_l6Shape.j0 k a0 a0 (a0==178)) else (if a0=179 then (spec_l6Shape.j0 k a0 a0 (a0==179)) else (spec_l6Shape.j0 k a0 a0 (a0==180)))))))))))))))=some r:=h
 clear h
 have HC2:=A_ H
 clear H
 go_enter Try.func82,Try.ntmps82
 go_upto_if 4 with (fail)
 go_cut [4] (fun v4 wc=>∃ (kq:Nat) (x4_1:Bool),v4=.bool x4_1∧Aside0 (spec_l6Shape.j0 kq a0 a0 x4_1=some r)∧Aside0 (kq≤k)∧Drawn0 w wc)
 case first=>
  have H:=HC2.out
  clear HC2
  by_cases c3:a0=0
  ·
   rw[if_pos c3] at H
   obtain⟨c3b0,c3b1⟩:=eT_ c3
   clear c3
   (first|rw[c3b0]|(simp only[i64_w,i32_w];rw[c3b0])|skip)
   have H':=A_ H
   clear H
   go_wp2
   go_meet
   case rel=>exact⟨_,((a0==0)),rs_,H',⟨by first|omega|exact Nat.le_refl _⟩,dr_⟩
  rw[if_neg c3] at H
  obtain⟨c3b0,c3b1⟩:=eF_ c3
  (first|rw[c3b0]|(simp only[i64_w,i32_w];rw[c3b0])|skip)
  by_cases c4:a0=1
  ·
   rw[if_pos c4] at H
   obtain⟨c4b0,c4b1⟩:=eT_ c4
   clear c4
   have H':=A_ H
   clear H
   go_wp2
   go_meet
   case rel=>exact⟨_,((a0==1)),rs_,H',⟨by first|omega|exact Nat.le_refl _⟩,dr_⟩
  rw[if_neg c4] at H
  obtain⟨c4b0,c4b1⟩:=eF_ c4
  by_cases c5:a0=5
  ·
   rw[if_pos c5] at H
   obtain⟨c5b0,c5b1⟩:=eT_ c5
   clear c5
   have H':=A_ H
   clear H
   go_wp2
   go_meet
   case rel=>exact⟨_,((a0==5)),rs_,H',⟨by first|omega|exact Nat.le_refl _⟩,dr_⟩
  rw[if_neg c5] at H
  obtain⟨c5b0,c5b1⟩:=eF_ c5
  by_cases c6:a0=11
  ·
   rw[if_pos c6] at H
   obtain⟨c6b0,c6b1⟩:=eT_ c6
   clear c6
   have H':=A_ H
   clear H
   go_wp2
   go_meet
   case rel=>exact⟨_,((a0==11)),rs_,H',⟨by first|omega|exact Nat.le_refl _⟩,dr_⟩
  rw[if_neg c6] at H
  obtain⟨c6b0,c6b1⟩:=eF_ c6
  by_cases c7:a0=15
  ·
   rw[if_pos c7] at H
   obtain⟨c7b0,c7b1⟩:=eT_ c7
   clear c7
   have H':=A_ H
   clear H
   go_wp2
   go_meet
   case rel=>exact⟨_,((a0==15)),rs_,H',⟨by first|omega|exact Nat.le_refl _⟩,dr_⟩
  rw[if_neg c7] at H
  obtain⟨c7b0,c7b1⟩:=eF_ c7
  by_cases c8:a0=26
  ·
   rw[if_pos c8] at H
   obtain⟨c8b0,c8b1⟩:=eT_ c8
   clear c8
   have H':=A_ H
   clear H
   go_wp2
   go_meet
   case rel=>exact⟨_,((a0==26)),rs_,H',⟨by first|omega|exact Nat.le_refl _⟩,dr_⟩
  rw[if_neg c8] at H
  obtain⟨c8b0,c8b1⟩:=eF_ c8
  by_cases c9:a0=27
  ·
   rw[if_pos c9] at H
   obtain⟨c9b0,c9b1⟩:=eT_ c9
   clear c9
   have H':=A_ H
   clear H
   go_wp2
   go_meet
   case rel=>exact⟨_,((a0==27)),rs_,H',⟨by first|omega|exact Nat.le_refl _⟩,dr_⟩
  rw[if_neg c9] at H
  obtain⟨c9b0,c9b1⟩:=eF_ c9
  by_cases c10:a0=63
  ·
   rw[if_pos c10] at H
   obtain⟨c10b0,c10b1⟩:=eT_ c10
   clear c10
   have H':=A_ H
   clear H
   go_wp2
   go_meet
   case rel=>exact⟨_,((a0==63)),rs_,H',⟨by first|omega|exact Nat.le_refl _⟩,dr_⟩
  rw[if_neg c10] at H
  obtain⟨c10b0,c10b1⟩:=eF_ c10
  by_cases c11:a0=64
  ·
   rw[if_pos c11] at H
   obtain⟨c11b0,c11b1⟩:=eT_ c11
   clear c11
   have H':=A_ H
   clear H
   go_wp2
   go_meet
   case rel=>exact⟨_,((a0==64)),rs_,H',⟨by first|omega|exact Nat.le_refl _⟩,dr_⟩
  rw[if_neg c11] at H
  obtain⟨c11b0,c11b1⟩:=eF_ c11
  by_cases c12:a0=176
  ·
   rw[if_pos c12] at H
   obtain⟨c12b0,c12b1⟩:=eT_ c12
   clear c12
   have H':=A_ H
   clear H
   go_wp2
   go_meet
   case rel=>exact⟨_,((a0==176)),rs_,H',⟨by first|omega|exact Nat.le_refl _⟩,dr_⟩
  rw[if_neg c12] at H
  obtain⟨c12b0,c12b1⟩:=eF_ c12
  by_cases c13:a0=177
  ·
   rw[if_pos c13] at H
   obtain⟨c13b0,c13b1⟩:=eT_ c13
   clear c13
   have H':=A_ H
   clear H
   go_wp2
   go_meet
   case rel=>exact⟨_,((a0==177)),rs_,H',⟨by first|omega|exact Nat.le_refl _⟩,dr_⟩
  rw[if_neg c13] at H
  obtain⟨c13b0,c13b1⟩:=eF_ c13
  by_cases c14:a0=178
  ·
   rw[if_pos c14] at H
   obtain⟨c14b0,c14b1⟩:=eT_ c14
   clear c14
   have H':=A_ H
   clear H
   go_wp2
   go_meet
   case rel=>exact⟨_,((a0==178)),rs_,H',⟨by first|omega|exact Nat.le_refl _⟩,dr_⟩
  rw[if_neg c14] at H
  obtain⟨c14b0,c14b1⟩:=eF_ c14
  by_cases c15:a0=179
  ·
   rw[if_pos c15] at H
   obtain⟨c15b0,c15b1⟩:=eT_ c15
   clear c15
   have H':=A_ H
   clear H
   go_wp2
   go_meet
   case rel=>exact⟨_,((a0==179)),rs_,H',⟨by first|omega|exact Nat.le_refl _⟩,dr_⟩
  rw[if_neg c15] at H
  obtain⟨c15b0,c15b1⟩:=eF_ c15
  have H':=A_ H
  clear H
  go_wp2
  go_meet
  case rel=>exact⟨_,((a0==180)),rs_,H',⟨by first|omega|exact Nat.le_refl _⟩,dr_⟩
 case rest=>
  clear HC2
  obtain⟨kq,x4_1,rfl,HA,HJ1,⟨mc1,rfl⟩⟩:=hcut
  cases kq with
  |zero=>exact absurd HA.out (by simp[spec_l6Shape.j0])
  |succ kj1=>
   have H:=HA.out
   clear HA
   simp only[spec_l6Shape.j0] at H
   by_cases c16:x4_1=true
   ·
    subst c16
    replace H:=iT_ H
    obtain rfl:=Option.some.inj H
    clear H
    go_wp2
    go_ret
    exact⟨rs_,dr_⟩
   replace c16:=Bool.eq_false_iff.mpr c16
   subst c16
   replace H:=iF_ H
   have HC17:=A_ H
   clear H
   go_upto_if 19 with (fail)
   go_cut [19] (fun v19 wc=>∃ (kq:Nat) (x19_16:Bool),v19=.bool x19_16∧Aside0 (spec_l6Shape.j1 kq a0 a0 x19_16=some r)∧Aside0 (kq≤kj1)∧Drawn0 w wc)
   case first=>
    have H:=HC17.out
    clear HC17
    by_cases c18:a0=2
    ·
     rw[if_pos c18] at H
     obtain⟨c18b0,c18b1⟩:=eT_ c18
     clear c18
     (first|rw[c18b0]|(simp only[i64_w,i32_w];rw[c18b0])|skip)
     have H':=A_ H
     clear H
     go_wp2
     go_meet
     case rel=>exact⟨_,((a0==2)),rs_,H',⟨by have:=HJ1.out;first|omega|exact Nat.le_refl _⟩,dr_⟩
    rw[if_neg c18] at H
    obtain⟨c18b0,c18b1⟩:=eF_ c18
    (first|rw[c18b0]|(simp only[i64_w,i32_w];rw[c18b0])|skip)
    by_cases c19:a0=3
    ·
     rw[if_pos c19] at H
     obtain⟨c19b0,c19b1⟩:=eT_ c19
     clear c19
     have H':=A_ H
     clear H
     go_wp2
     go_meet
     case rel=>exact⟨_,((a0==3)),rs_,H',⟨by have:=HJ1.out;first|omega|exact Nat.le_refl _⟩,dr_⟩
    rw[if_neg c19] at H
    obtain⟨c19b0,c19b1⟩:=eF_ c19
    have H':=A_ H
    clear H
    go_wp2
    go_meet
    case rel=>exact⟨_,((a0==4)),rs_,H',⟨by have:=HJ1.out;first|omega|exact Nat.le_refl _⟩,dr_⟩
   case rest=>
    clear HC17
    try clear c16
    obtain⟨kq,x19_16,rfl,HA,HJ16,⟨mc16,rfl⟩⟩:=hcut
    cases kq with
    |zero=>exact absurd HA.out (by simp[spec_l6Shape.j1])
    |succ kj16=>
     have H:=HA.out
     clear HA
     simp only[spec_l6Shape.j1] at H
     by_cases c20:x19_16=true
     ·
      subst c20
      replace H:=iT_ H
      obtain rfl:=Option.some.inj H
      clear H
      go_wp2
      go_ret
      exact⟨rs_,dr_⟩
     replace c20:=Bool.eq_false_iff.mpr c20
     subst c20
     replace H:=iF_ H
     have HC21:=A_ H
     clear H
     go_upto_if 23 with (fail)
     go_cut [23] (fun v23 wc=>∃ (kq:Nat) (x23_20:Bool),v23=.bool x23_20∧Aside0 (spec_l6Shape.j2 kq a0 a0 x23_20=some r)∧Aside0 (kq≤kj16)∧Drawn0 w wc)
     case first=>
      have H:=HC21.out
      clear HC21
      by_cases c22:a0=12
      ·
       rw[if_pos c22] at H
       obtain⟨c22b0,c22b1⟩:=eT_ c22
       clear c22
       (first|rw[c22b0]|(simp only[i64_w,i32_w];rw[c22b0])|skip)
       have H':=A_ H
       clear H
       go_wp2
       go_meet
       case rel=>exact⟨_,((a0==12)),rs_,H',⟨by have:=HJ1.out;have:=HJ16.out;first|omega|exact Nat.le_refl _⟩,dr_⟩
      rw[if_neg c22] at H
      obtain⟨c22b0,c22b1⟩:=eF_ c22
      (first|rw[c22b0]|(simp only[i64_w,i32_w];rw[c22b0])|skip)
      by_cases c23:a0=13
      ·
       rw[if_pos c23] at H
       obtain⟨c23b0,c23b1⟩:=eT_ c23
       clear c23
       have H':=A_ H
       clear H
       go_wp2
       go_meet
       case rel=>exact⟨_,((a0==13)),rs_,H',⟨by have:=HJ1.out;have:=HJ16.out;first|omega|exact Nat.le_refl _⟩,dr_⟩
      rw[if_neg c23] at H
      obtain⟨c23b0,c23b1⟩:=eF_ c23
      by_cases c24:a0=16
      ·
       rw[if_pos c24] at H
       obtain⟨c24b0,c24b1⟩:=eT_ c24
       clear c24
       have H':=A_ H
       clear H
       go_wp2
       go_meet
       case rel=>exact⟨_,((a0==16)),rs_,H',⟨by have:=HJ1.out;have:=HJ16.out;first|omega|exact Nat.le_refl _⟩,dr_⟩
      rw[if_neg c24] at H
      obtain⟨c24b0,c24b1⟩:=eF_ c24
      by_cases c25:a0=32
      ·
       rw[if_pos c25] at H
       obtain⟨c25b0,c25b1⟩:=eT_ c25
       clear c25
       have H':=A_ H
       clear H
       go_wp2
       go_meet
       case rel=>exact⟨_,((a0==32)),rs_,H',⟨by have:=HJ1.out;have:=HJ16.out;first|omega|exact Nat.le_refl _⟩,dr_⟩
      rw[if_neg c25] at H
      obtain⟨c25b0,c25b1⟩:=eF_ c25
      by_cases c26:a0=33
      ·
       rw[if_pos c26] at H
       obtain⟨c26b0,c26b1⟩:=eT_ c26
       clear c26
       have H':=A_ H
       clear H
       go_wp2
       go_meet
       case rel=>exact⟨_,((a0==33)),rs_,H',⟨by have:=HJ1.out;have:=HJ16.out;first|omega|exact Nat.le_refl _⟩,dr_⟩
      rw[if_neg c26] at H
      obtain⟨c26b0,c26b1⟩:=eF_ c26
      by_cases c27:a0=34
      ·
       rw[if_pos c27] at H
       obtain⟨c27b0,c27b1⟩:=eT_ c27
       clear c27
       have H':=A_ H
       clear H
       go_wp2
       go_meet
       case rel=>exact⟨_,((a0==34)),rs_,H',⟨by have:=HJ1.out;have:=HJ16.out;first|omega|exact Nat.le_refl _⟩,dr_⟩
      rw[if_neg c27] at H
      obtain⟨c27b0,c27b1⟩:=eF_ c27
      by_cases c28:a0=35
      ·
       rw[if_pos c28] at H
       obtain⟨c28b0,c28b1⟩:=eT_ c28
       clear c28
       have H':=A_ H
       clear H
       go_wp2
       go_meet
       case rel=>exact⟨_,((a0==35)),rs_,H',⟨by have:=HJ1.out;have:=HJ16.out;first|omega|exact Nat.le_refl _⟩,dr_⟩
      rw[if_neg c28] at H
      obtain⟨c28b0,c28b1⟩:=eF_ c28
      have H':=A_ H
      clear H
      go_wp2
      go_meet
      case rel=>exact⟨_,((a0==36)),rs_,H',⟨by have:=HJ1.out;have:=HJ16.out;first|omega|exact Nat.le_refl _⟩,dr_⟩
     case rest=>
      clear HC21
      try clear c16 c20
      obtain⟨kq,x23_20,rfl,HA,HJ20,⟨mc20,rfl⟩⟩:=hcut
      cases kq with
      |zero=>exact absurd HA.out (by simp[spec_l6Shape.j2])
      |succ kj20=>
       have H:=HA.out
       clear HA
       simp only[spec_l6Shape.j2] at H
       by_cases c29:x23_20=true
       ·
        subst c29
        replace H:=iT_ H
        obtain rfl:=Option.some.inj H
        clear H
        go_wp2
        go_ret
        exact⟨rs_,dr_⟩
       replace c29:=Bool.eq_false_iff.mpr c29
       subst c29
       replace H:=iF_ H
       have HC30:=A_ H
       clear H
       go_upto_if 32 with (fail)
       go_cut [32] (fun v32 wc=>∃ (kq:Nat) (x32_29:Bool),v32=.bool x32_29∧Aside0 (spec_l6Shape.j3 kq a0 a0 x32_29=some r)∧Aside0 (kq≤kj20)∧Drawn0 w wc)
       case first=>
        have H:=HC30.out
        clear HC30
        by_cases c31:a0=40
        ·
         rw[if_pos c31] at H
         obtain⟨c31b0,c31b1⟩:=eT_ c31
         clear c31
         (first|rw[c31b0]|(simp only[i64_w,i32_w];rw[c31b0])|skip)
         have H':=A_ H
         clear H
         go_wp2
         go_meet
         case rel=>exact⟨_,((a0==40)),rs_,H',⟨by have:=HJ1.out;have:=HJ16.out;have:=HJ20.out;first|omega|exact Nat.le_refl _⟩,dr_⟩
        rw[if_neg c31] at H
        obtain⟨c31b0,c31b1⟩:=eF_ c31
        (first|rw[c31b0]|(simp only[i64_w,i32_w];rw[c31b0])|skip)
        by_cases c32:a0=41
        ·
         rw[if_pos c32] at H
         obtain⟨c32b0,c32b1⟩:=eT_ c32
         clear c32
         have H':=A_ H
         clear H
         go_wp2
         go_meet
         case rel=>exact⟨_,((a0==41)),rs_,H',⟨by have:=HJ1.out;have:=HJ16.out;have:=HJ20.out;first|omega|exact Nat.le_refl _⟩,dr_⟩
        rw[if_neg c32] at H
        obtain⟨c32b0,c32b1⟩:=eF_ c32
        by_cases c33:a0=54
        ·
         rw[if_pos c33] at H
         obtain⟨c33b0,c33b1⟩:=eT_ c33
         clear c33
         have H':=A_ H
         clear H
         go_wp2
         go_meet
         case rel=>exact⟨_,((a0==54)),rs_,H',⟨by have:=HJ1.out;have:=HJ16.out;have:=HJ20.out;first|omega|exact Nat.le_refl _⟩,dr_⟩
        rw[if_neg c33] at H
        obtain⟨c33b0,c33b1⟩:=eF_ c33
        have H':=A_ H
        clear H
        go_wp2
        go_meet
        case rel=>exact⟨_,((a0==55)),rs_,H',⟨by have:=HJ1.out;have:=HJ16.out;have:=HJ20.out;first|omega|exact Nat.le_refl _⟩,dr_⟩
       case rest=>
        clear HC30
        try clear c16 c20 c29
        obtain⟨kq,x32_29,rfl,HA,HJ29,⟨mc29,rfl⟩⟩:=hcut
        cases kq with
        |zero=>exact absurd HA.out (by simp[spec_l6Shape.j3])
        |succ kj29=>
         have H:=HA.out
         clear HA
         simp only[spec_l6Shape.j3] at H
         by_cases c34:x32_29=true
         ·
          subst c34
          replace H:=iT_ H
          obtain rfl:=Option.some.inj H
          clear H
          go_wp2
          go_ret
          exact⟨rs_,dr_⟩
         replace c34:=Bool.eq_false_iff.mpr c34
         subst c34
         replace H:=iF_ H
         by_cases c35:a0=65
         ·
          rw[if_pos c35] at H
          obtain⟨c35b0,c35b1⟩:=eT_ c35
          clear c35
          obtain rfl:=Option.some.inj H
          clear H
          go_wp2
          go_ret
          exact⟨rs_,dr_⟩
         rw[if_neg c35] at H
         obtain⟨c35b0,c35b1⟩:=eF_ c35
         by_cases c36:a0=66
         ·
          rw[if_pos c36] at H
          obtain⟨c36b0,c36b1⟩:=eT_ c36
          clear c36
          obtain rfl:=Option.some.inj H
          clear H
          go_wp2
          go_ret
          exact⟨rs_,dr_⟩
         rw[if_neg c36] at H
         obtain⟨c36b0,c36b1⟩:=eF_ c36
         by_cases c37:a0=67
         ·
          rw[if_pos c37] at H
          obtain⟨c37b0,c37b1⟩:=eT_ c37
          clear c37
          obtain rfl:=Option.some.inj H
          clear H
          go_wp2
          go_ret
          exact⟨rs_,dr_⟩
         rw[if_neg c37] at H
         obtain⟨c37b0,c37b1⟩:=eF_ c37
         replace H:=bi_ H
         obtain⟨t111,A380,H⟩:=H
         have A38:=A_ A380
         clear A380
         by_cases c39:t111=true
         ·
          subst c39
          replace H:=iT_ H
          obtain rfl:=Option.some.inj H
          clear H
          go_wp2_with (first|((with_reducible refine gc_ 18 rfl ?_);refine gn_ (some 44) Try.func18 (spec_l1In.calls a0 97 123 true _ A38.out) ?_;intro nd))
          go_ret
          exact⟨rs_,dr_⟩
         replace c39:=Bool.eq_false_iff.mpr c39
         subst c39
         replace H:=iF_ H
         replace H:=bi_ H
         obtain⟨t112,A400,H⟩:=H
         have A40:=A_ A400
         clear A400
         by_cases c41:t112=true
         ·
          subst c41
          replace H:=iT_ H
          obtain rfl:=Option.some.inj H
          clear H
          go_wp2_with (first|((with_reducible refine gc_ 18 rfl ?_);refine gn_ (some 44) Try.func18 (spec_l1In.calls a0 97 123 false _ A38.out) ?_;intro nd)|(go_at_call 18;(with_reducible refine(spec_l1In.calls a0 129 155 true _ A40.out).mono ?_);rintro e w' ⟨rfl,⟨nd,rfl⟩⟩))
          go_ret
          exact⟨rs_,dr_⟩
         replace c41:=Bool.eq_false_iff.mpr c41
         subst c41
         replace H:=iF_ H
         replace H:=bi_ H
         obtain⟨t113,A420,H⟩:=H
         have A42:=A_ A420
         clear A420
         by_cases c43:t113=true
         ·
          subst c43
          replace H:=iT_ H
          obtain rfl:=Option.some.inj H
          clear H
          go_wp2_with (first|((with_reducible refine gc_ 18 rfl ?_);refine gn_ (some 44) Try.func18 (spec_l1In.calls a0 97 123 false _ A38.out) ?_;intro nd)|(go_at_call 18;(with_reducible refine(spec_l1In.calls a0 129 155 false _ A40.out).mono ?_);rintro e w' ⟨rfl,⟨nd,rfl⟩⟩)|(go_at_call 18;(with_reducible refine(spec_l1In.calls a0 161 169 true _ A42.out).mono ?_);rintro e w' ⟨rfl,⟨nd,rfl⟩⟩))
          go_ret
          exact⟨rs_,dr_⟩
         replace c43:=Bool.eq_false_iff.mpr c43
         subst c43
         replace H:=iF_ H
         obtain rfl:=Option.some.inj H
         clear H
         go_wp2_with (first|((with_reducible refine gc_ 18 rfl ?_);refine gn_ (some 44) Try.func18 (spec_l1In.calls a0 97 123 false _ A38.out) ?_;intro nd)|(go_at_call 18;(with_reducible refine(spec_l1In.calls a0 129 155 false _ A40.out).mono ?_);rintro e w' ⟨rfl,⟨nd,rfl⟩⟩)|(go_at_call 18;(with_reducible refine(spec_l1In.calls a0 161 169 false _ A42.out).mono ?_);rintro e w' ⟨rfl,⟨nd,rfl⟩⟩))
         go_ret
         exact⟨rs_,dr_⟩

/-! ### spec_GoodIns: function 80 -/
def spec_GoodIns.f (k:Nat) (a0_0:Int) (a0_1:Int):Option (Bool):=(spec_l6Shape.f k a0_0).bind fun t115=>(if t115=0 then (some (a0_1==0)) else (if t115=1 then ((spec_l6Type.f a0_1).bind fun t116=>(if t116=true then (some true) else (some (a0_1==64)))) else (if t115=2 then ((spec_l1In.f a0_1 0 1000).bind fun t117=>(some t117)) else (if t115=3 then ((spec_l1In.f a0_1 0 10000).bind fun t118=>(some t118)) else (if t115=4 then ((spec_l1In.f a0_1 (-2147483648) 2147483647).bind fun t119=>(some t119)) else (if t115=5 then (some true) else (if t115=6 then ((spec_l1In.f a0_1 0 4294967295).bind fun t120=>(some t120)) else (some false))))))))
theorem spec_GoodIns.calls (k:Nat) (a0_0:Int) (a0_1:Int) (r:Bool) (w:World) (h:spec_GoodIns.f k a0_0 a0_1=some r):
  Calls Try.prog 80 #[.agg #[.int .i64 a0_0,.int .i64 a0_1]] w fun e w'=>e=.returned (.bool r)∧Below w.heap.size w w':=by
 have hu71:=Try.underlying71
 have HB:=A_ (Below.refl w.heap.size w)
 have H:((spec_l6Shape.f k a0_0).bind fun t115=>(if t115=0 then (some (a0_1==0)) else (if t115=1 then ((spec_l6Type.f a0_1).bind fun t116=>(if t116=true then (some true) else (some (a0_1==64)))) else (if t115=2 then ((spec_l1In.f a0_1 0 1000).bind fun t117=>(some t117)) else (if t115=3 then ((spec_l1In.f a0_1 0 10000).bind fun t118=>(some t118)) else (if t115=4 then ((spec_l1In.f a0_1 (-2147483648) 2147483647).bind fun t119=>(some t119)) else (if t115=5 then (some true) else (if t115=6 then ((spec_l1In.f a0_1 0 4294967295).bind fun t120=>(some t120)) else (some false)))))))))=some r:=h
 clear h
 replace H:=bi_ H
 obtain⟨t115,A20,H⟩:=H
 have A2:=A_ A20
 clear A20
 by_cases c3:t115=0
 ·
  rw[if_pos c3] at H
  obtain⟨c3b0,c3b1⟩:=eT_ c3
  clear c3
  obtain rfl:=Option.some.inj H
  clear H
  go_enter Try.func80,Try.ntmps80
  go_wp2_with (first|((with_reducible refine gd_ 1 rfl ?_);refine bx_ #[.int .i64 a0_0,.int .i64 a0_1] 71 ?_;intro gb114 hg w4 hbox hb;have BK114:=A_ hbox;have GW114:=gw_ hg HB;have GE114:=GW114;replace HB:=bs_ HB hb;clear hb hbox hg;obtain⟨hcz5_0,hcz5_1⟩:=cs2_ BK114.out;obtain⟨hfz5_0,hfz5_1⟩:=fz2_ BK114.out)|((with_reducible refine gc_ 82 rfl ?_);refine gn_ (some 5) Try.func82 (spec_l6Shape.calls k a0_0 t115 _ A2.out) ?_;intro nd))
  go_ret
  exact⟨rr_,bw HB.out⟩
 rw[if_neg c3] at H
 obtain⟨c3b0,c3b1⟩:=eF_ c3
 by_cases c6:t115=1
 ·
  rw[if_pos c6] at H
  obtain⟨c6b0,c6b1⟩:=eT_ c6
  clear c6
  replace H:=bi_ H
  obtain⟨t116,A70,H⟩:=H
  have A7:=A_ A70
  clear A70
  by_cases c8:t116=true
  ·
   subst c8
   replace H:=iT_ H
   obtain rfl:=Option.some.inj H
   clear H
   go_enter Try.func80,Try.ntmps80
   go_wp2_with (first|((with_reducible refine gd_ 1 rfl ?_);refine bx_ #[.int .i64 a0_0,.int .i64 a0_1] 71 ?_;intro gb114 hg w9 hbox hb;have BK114:=A_ hbox;have GW114:=gw_ hg HB;have GE114:=GW114;replace HB:=bs_ HB hb;clear hb hbox hg;obtain⟨hcz10_0,hcz10_1⟩:=cs2_ BK114.out;obtain⟨hfz10_0,hfz10_1⟩:=fz2_ BK114.out)|((with_reducible refine gc_ 82 rfl ?_);refine gn_ (some 5) Try.func82 (spec_l6Shape.calls k a0_0 t115 _ A2.out) ?_;intro nd)|((with_reducible refine gc_ 28 rfl ?_);refine gn_ (some 15) Try.func28 (spec_l6Type.calls a0_1 true _ A7.out) ?_;intro nd))
   go_ret
   exact⟨rr_,bw HB.out⟩
  replace c8:=Bool.eq_false_iff.mpr c8
  subst c8
  replace H:=iF_ H
  obtain rfl:=Option.some.inj H
  clear H
  go_enter Try.func80,Try.ntmps80
  go_wp2_with (first|((with_reducible refine gd_ 1 rfl ?_);refine bx_ #[.int .i64 a0_0,.int .i64 a0_1] 71 ?_;intro gb114 hg w11 hbox hb;have BK114:=A_ hbox;have GW114:=gw_ hg HB;have GE114:=GW114;replace HB:=bs_ HB hb;clear hb hbox hg;obtain⟨hcz12_0,hcz12_1⟩:=cs2_ BK114.out;obtain⟨hfz12_0,hfz12_1⟩:=fz2_ BK114.out)|((with_reducible refine gc_ 82 rfl ?_);refine gn_ (some 5) Try.func82 (spec_l6Shape.calls k a0_0 t115 _ A2.out) ?_;intro nd)|((with_reducible refine gc_ 28 rfl ?_);refine gn_ (some 15) Try.func28 (spec_l6Type.calls a0_1 false _ A7.out) ?_;intro nd))
  go_ret
  exact⟨rr_,bw HB.out⟩
 rw[if_neg c6] at H
 obtain⟨c6b0,c6b1⟩:=eF_ c6
 by_cases c13:t115=2
 ·
  rw[if_pos c13] at H
  obtain⟨c13b0,c13b1⟩:=eT_ c13
  clear c13
  replace H:=bi_ H
  obtain⟨t117,A140,H⟩:=H
  have A14:=A_ A140
  clear A140
  obtain rfl:=Option.some.inj H
  clear H
  go_enter Try.func80,Try.ntmps80
  go_wp2_with (first|((with_reducible refine gd_ 1 rfl ?_);refine bx_ #[.int .i64 a0_0,.int .i64 a0_1] 71 ?_;intro gb114 hg w15 hbox hb;have BK114:=A_ hbox;have GW114:=gw_ hg HB;have GE114:=GW114;replace HB:=bs_ HB hb;clear hb hbox hg;obtain⟨hcz16_0,hcz16_1⟩:=cs2_ BK114.out;obtain⟨hfz16_0,hfz16_1⟩:=fz2_ BK114.out)|((with_reducible refine gc_ 82 rfl ?_);refine gn_ (some 5) Try.func82 (spec_l6Shape.calls k a0_0 t115 _ A2.out) ?_;intro nd)|((with_reducible refine gc_ 18 rfl ?_);refine gn_ (some 25) Try.func18 (spec_l1In.calls a0_1 0 1000 t117 _ A14.out) ?_;intro nd))
  go_ret
  exact⟨rr_,bw HB.out⟩
 rw[if_neg c13] at H
 obtain⟨c13b0,c13b1⟩:=eF_ c13
 by_cases c17:t115=3
 ·
  rw[if_pos c17] at H
  obtain⟨c17b0,c17b1⟩:=eT_ c17
  clear c17
  replace H:=bi_ H
  obtain⟨t118,A180,H⟩:=H
  have A18:=A_ A180
  clear A180
  obtain rfl:=Option.some.inj H
  clear H
  go_enter Try.func80,Try.ntmps80
  go_wp2_with (first|((with_reducible refine gd_ 1 rfl ?_);refine bx_ #[.int .i64 a0_0,.int .i64 a0_1] 71 ?_;intro gb114 hg w19 hbox hb;have BK114:=A_ hbox;have GW114:=gw_ hg HB;have GE114:=GW114;replace HB:=bs_ HB hb;clear hb hbox hg;obtain⟨hcz20_0,hcz20_1⟩:=cs2_ BK114.out;obtain⟨hfz20_0,hfz20_1⟩:=fz2_ BK114.out)|((with_reducible refine gc_ 82 rfl ?_);refine gn_ (some 5) Try.func82 (spec_l6Shape.calls k a0_0 t115 _ A2.out) ?_;intro nd)|((with_reducible refine gc_ 18 rfl ?_);refine gn_ (some 30) Try.func18 (spec_l1In.calls a0_1 0 10000 t118 _ A18.out) ?_;intro nd))
  go_ret
  exact⟨rr_,bw HB.out⟩
 rw[if_neg c17] at H
 obtain⟨c17b0,c17b1⟩:=eF_ c17
 by_cases c21:t115=4
 ·
  rw[if_pos c21] at H
  obtain⟨c21b0,c21b1⟩:=eT_ c21
  clear c21
  replace H:=bi_ H
  obtain⟨t119,A220,H⟩:=H
  have A22:=A_ A220
  clear A220
  obtain rfl:=Option.some.inj H
  clear H
  go_enter Try.func80,Try.ntmps80
  go_wp2_with (first|((with_reducible refine gd_ 1 rfl ?_);refine bx_ #[.int .i64 a0_0,.int .i64 a0_1] 71 ?_;intro gb114 hg w23 hbox hb;have BK114:=A_ hbox;have GW114:=gw_ hg HB;have GE114:=GW114;replace HB:=bs_ HB hb;clear hb hbox hg;obtain⟨hcz24_0,hcz24_1⟩:=cs2_ BK114.out;obtain⟨hfz24_0,hfz24_1⟩:=fz2_ BK114.out)|((with_reducible refine gc_ 82 rfl ?_);refine gn_ (some 5) Try.func82 (spec_l6Shape.calls k a0_0 t115 _ A2.out) ?_;intro nd)|((with_reducible refine gc_ 18 rfl ?_);refine gn_ (some 35) Try.func18 (spec_l1In.calls a0_1 (-2147483648) 2147483647 t119 _ A22.out) ?_;intro nd))
  go_ret
  exact⟨rr_,bw HB.out⟩
 rw[if_neg c21] at H
 obtain⟨c21b0,c21b1⟩:=eF_ c21
 by_cases c25:t115=5
 ·
  rw[if_pos c25] at H
  obtain⟨c25b0,c25b1⟩:=eT_ c25
  clear c25
  obtain rfl:=Option.some.inj H
  clear H
  go_enter Try.func80,Try.ntmps80
  go_wp2_with (first|((with_reducible refine gd_ 1 rfl ?_);refine bx_ #[.int .i64 a0_0,.int .i64 a0_1] 71 ?_;intro gb114 hg w26 hbox hb;have BK114:=A_ hbox;have GW114:=gw_ hg HB;have GE114:=GW114;replace HB:=bs_ HB hb;clear hb hbox hg;obtain⟨hcz27_0,hcz27_1⟩:=cs2_ BK114.out;obtain⟨hfz27_0,hfz27_1⟩:=fz2_ BK114.out)|((with_reducible refine gc_ 82 rfl ?_);refine gn_ (some 5) Try.func82 (spec_l6Shape.calls k a0_0 t115 _ A2.out) ?_;intro nd))
  go_ret
  exact⟨rr_,bw HB.out⟩
 rw[if_neg c25] at H
 obtain⟨c25b0,c25b1⟩:=eF_ c25
 by_cases c28:t115=6
 ·
  rw[if_pos c28] at H
  obtain⟨c28b0,c28b1⟩:=eT_ c28
  clear c28
  replace H:=bi_ H
  obtain⟨t120,A290,H⟩:=H
  have A29:=A_ A290
  clear A290
  obtain rfl:=Option.some.inj H
  clear H
  go_enter Try.func80,Try.ntmps80
  go_wp2_with (first|((with_reducible refine gd_ 1 rfl ?_);refine bx_ #[.int .i64 a0_0,.int .i64 a0_1] 71 ?_;intro gb114 hg w30 hbox hb;have BK114:=A_ hbox;have GW114:=gw_ hg HB;have GE114:=GW114;replace HB:=bs_ HB hb;clear hb hbox hg;obtain⟨hcz31_0,hcz31_1⟩:=cs2_ BK114.out;obtain⟨hfz31_0,hfz31_1⟩:=fz2_ BK114.out)|((with_reducible refine gc_ 82 rfl ?_);refine gn_ (some 5) Try.func82 (spec_l6Shape.calls k a0_0 t115 _ A2.out) ?_;intro nd)|((with_reducible refine gc_ 18 rfl ?_);refine gn_ (some 42) Try.func18 (spec_l1In.calls a0_1 0 4294967295 t120 _ A29.out) ?_;intro nd))
  go_ret
  exact⟨rr_,bw HB.out⟩
 rw[if_neg c28] at H
 obtain⟨c28b0,c28b1⟩:=eF_ c28
 obtain rfl:=Option.some.inj H
 clear H
 go_enter Try.func80,Try.ntmps80
 go_wp2_with (first|((with_reducible refine gd_ 1 rfl ?_);refine bx_ #[.int .i64 a0_0,.int .i64 a0_1] 71 ?_;intro gb114 hg w32 hbox hb;have BK114:=A_ hbox;have GW114:=gw_ hg HB;have GE114:=GW114;replace HB:=bs_ HB hb;clear hb hbox hg;obtain⟨hcz33_0,hcz33_1⟩:=cs2_ BK114.out;obtain⟨hfz33_0,hfz33_1⟩:=fz2_ BK114.out)|((with_reducible refine gc_ 82 rfl ?_);refine gn_ (some 5) Try.func82 (spec_l6Shape.calls k a0_0 t115 _ A2.out) ?_;intro nd))
 go_ret
 exact⟨rr_,bw HB.out⟩

/-! ### spec_l6Good: function 63 -/
def spec_l6Good.l0:Nat→List (S71)→List (S71)→Int→Int→Option (Bool)
 |0,_,_,_,_=>none
 |k+1,x0,x5,x6,x7=>if x7<x6 then (if 0≤x7 then (if x7<(x5.length:Int) then ((spec_GoodIns.f k ((rd_T71 x5 x7).f0) ((rd_T71 x5 x7).f1)).bind fun t123=>(if t123=true then (spec_l6Good.l0 k x0 x5 x6 (wrap64 (x7+1))) else (some false))) else (none)) else (none)) else (some (decide ((x0.length:Int)≤200)))
def spec_l6Good.f (k:Nat) (l0:List (S71)):Option (Bool):=spec_l6Good.l0 k l0 l0 (l0.length:Int) 0
theorem spec_l6Good.calls (k:Nat) (A0:Option Addr) (c0:Nat) (l0:List (S71)) (r:Bool) (w:World) (hr0:Kd.C k71 w A0 l0.length l0) (hc0:l0.length≤c0) (h:spec_l6Good.f k l0=some r):
  Calls Try.prog 63 #[.slice A0 l0.length c0] w fun e w'=>e=.returned (.bool r)∧Below w.heap.size w w':=by
 have hu71:=Try.underlying71
 have HR0:=A_ hr0
 have HC0:=A_ hc0
 clear hr0 hc0
 have HB:=A_ (Below.refl w.heap.size w)
 have H:(spec_l6Good.l0 k l0 l0 (l0.length:Int) 0)=some r:=h
 clear h
 have H':=A_ H
 clear H
 go_enter Try.func63,Try.ntmps63
 go_wp2
 (try simp only[Act.put,List.setIfInBounds_toArray,List.set_cons_zero,List.set_cons_succ])
 go_loopg [7] k (fun kq v7 w'=>∃ (x7_1:Int),v7=.int .i64 x7_1∧Aside0 (spec_l6Good.l0 kq l0 l0 (l0.length:Int) x7_1=some r)∧Aside0 (kq≤k)∧Aside0 (Below w.heap.size w w'))
 case atStart=>exact⟨(0),rs_,H',⟨Nat.le_refl _⟩,⟨bw HB.out⟩⟩
 case round=>
  clear H'
  obtain⟨x7_1,rfl,HA,HK1,HB⟩:=hrel
  cases gk with
  |zero=>exact absurd HA.out (by simp[spec_l6Good.l0])
  |succ k1=>
   have H:=HA.out
   clear HA
   simp only[spec_l6Good.l0] at H
   by_cases c2:x7_1<(l0.length:Int)
   ·
    rw[if_pos c2] at H
    have c2b0:=decide_eq_true c2
    clear c2
    by_cases c3:0≤x7_1
    ·
     rw[if_pos c3] at H
     have c3b0:=decide_eq_true c3
     clear c3
     by_cases c4:x7_1<(l0.length:Int)
     ·
      rw[if_pos c4] at H
      have c4b0:=decide_eq_true c4
      clear c4
      replace H:=bi_ H
      obtain⟨t123,A50,H⟩:=H
      have A5:=A_ A50
      clear A50
      by_cases c6:t123=true
      ·
       subst c6
       replace H:=iT_ H
       have H':=A_ H
       clear H
       have p121:0≤(x7_1:Int):=od_
       have q121:x7_1<(l0.length:Int):=od_
       obtain⟨ad121,e121,hx121_0,hx121_1⟩:=at_T71 HR0.out x7_1 p121 q121
       cases e121
       replace hx121_0:=cl_ HB.out hx121_0
       replace hx121_1:=cl_ HB.out hx121_1
       replace p121:=eq_true p121
       replace q121:=eq_true q121
       go_wp2_with (first|((with_reducible refine gd_ 4 rfl ?_);refine bx_ #[.int .i64 0,.int .i64 0] 71 ?_;intro gb122 hg w7 hbox hb;have BK122:=A_ hbox;have GW122:=gw_ hg HB;have GE122:=GW122;replace HB:=bs_ HB hb;clear hb hbox hg;obtain⟨hcz8_0,hcz8_1⟩:=cs2_ BK122.out;obtain⟨hfz8_0,hfz8_1⟩:=fz2_ BK122.out)|((with_reducible refine gc_ 80 rfl ?_);refine gm_ (some 12) Try.func80 (spec_GoodIns.calls k1 ((rd_T71 l0 x7_1).f0) ((rd_T71 l0 x7_1).f1) true _ A5.out) ?_;intro w9 hb;replace BK122:=A_ (blk_below (g:=gb122) (o:=.cells #[.int .i64 ((rd_T71 l0 x7_1).f0),.int .i64 ((rd_T71 l0 x7_1).f1)] 71 (0,0)) (by refine blk_put (cs:=#[.int .i64 ((rd_T71 l0 x7_1).f0),.int .i64 0]) ?_ 1 _ rfl;refine blk_put (cs:=#[.int .i64 0,.int .i64 0]) ?_ 0 _ rfl;(with_reducible repeat (first|refine blk_drewN ?_ _|refine blk_drew ?_|refine blk_alloc ?_ _));exact BK122.out) hb);replace HB:=bs_ HB hb;(try clear hb)))
       go_roundg k1
       case measure=>have:=HK1.out;omega
       case rel=>exact⟨(wrap64 (x7_1+1)),rs_,H',⟨by have:=HK1.out;omega⟩,⟨bw HB.out⟩⟩
      replace c6:=Bool.eq_false_iff.mpr c6
      subst c6
      replace H:=iF_ H
      obtain rfl:=Option.some.inj H
      clear H
      have p121:0≤(x7_1:Int):=od_
      have q121:x7_1<(l0.length:Int):=od_
      obtain⟨ad121,e121,hx121_0,hx121_1⟩:=at_T71 HR0.out x7_1 p121 q121
      cases e121
      replace hx121_0:=cl_ HB.out hx121_0
      replace hx121_1:=cl_ HB.out hx121_1
      replace p121:=eq_true p121
      replace q121:=eq_true q121
      go_wp2_with (first|((with_reducible refine gd_ 4 rfl ?_);refine bx_ #[.int .i64 0,.int .i64 0] 71 ?_;intro gb122 hg w10 hbox hb;have BK122:=A_ hbox;have GW122:=gw_ hg HB;have GE122:=GW122;replace HB:=bs_ HB hb;clear hb hbox hg;obtain⟨hcz11_0,hcz11_1⟩:=cs2_ BK122.out;obtain⟨hfz11_0,hfz11_1⟩:=fz2_ BK122.out)|((with_reducible refine gc_ 80 rfl ?_);refine gm_ (some 12) Try.func80 (spec_GoodIns.calls k1 ((rd_T71 l0 x7_1).f0) ((rd_T71 l0 x7_1).f1) false _ A5.out) ?_;intro w12 hb;replace BK122:=A_ (blk_below (g:=gb122) (o:=.cells #[.int .i64 ((rd_T71 l0 x7_1).f0),.int .i64 ((rd_T71 l0 x7_1).f1)] 71 (0,0)) (by refine blk_put (cs:=#[.int .i64 ((rd_T71 l0 x7_1).f0),.int .i64 0]) ?_ 1 _ rfl;refine blk_put (cs:=#[.int .i64 0,.int .i64 0]) ?_ 0 _ rfl;(with_reducible repeat (first|refine blk_drewN ?_ _|refine blk_drew ?_|refine blk_alloc ?_ _));exact BK122.out) hb);replace HB:=bs_ HB hb;(try clear hb)))
      go_ret
      exact⟨rr_,bw HB.out⟩
     rw[if_neg c4] at H
     exact absurd H (by simp)
    rw[if_neg c3] at H
    exact absurd H (by simp)
   rw[if_neg c2] at H
   have c2b0:=decide_eq_false c2
   clear c2
   obtain rfl:=Option.some.inj H
   clear H
   go_wp2
   go_ret
   exact⟨rr_,bw HB.out⟩

/-! ### spec_l6Ends: function 40 -/
mutual
def spec_l6Ends.j0:Nat→List (S71)→Bool→Option (List Int × Int × Bool)
 |0,_,_=>none
 |k+1,x0,x22=>if x22=true then (some (([]:List Int),0,false)) else (if 0≤(x0.length:Int) then (if ((x0.length:Int):Int).toNat≤35184372088832 then (if ([]:List (List Int)).length<5864062014805 then (spec_l6Ends.l0 k (List.replicate ((x0.length:Int):Int).toNat 0) 1 (([(-1)]:List Int)) (([true]:List Bool)) (([]:List (List Int))++[[]]) x0 (x0.length:Int) 0) else (none)) else (none)) else (none))
def spec_l6Ends.l0:Nat→List Int→Int→List Int→List Bool→List (List Int)→List (S71)→Int→Int→Option (List Int × Int × Bool)
 |0,_,_,_,_,_,_,_,_=>none
 |k+1,x5,x6,x7,x8,x9,x31,x32,x33=>if x33<x32 then (if 0≤x33 then (if x33<(x31.length:Int) then (if (wrap64 ((x7.length:Int) - 1))<0 then (some (([]:List Int),0,false)) else (if ((rd_T71 x31 x33).f0)=2 then (spec_l6Ends.j2 k x5 x6 x7 x8 x9 x33 (wrap64 ((x7.length:Int) - 1)) x31 x32 x33 ((rd_T71 x31 x33).f0) (((rd_T71 x31 x33).f0)==2) ((rd_T71 x31 x33).f0) ((rd_T71 x31 x33).f1)) else (if ((rd_T71 x31 x33).f0)=3 then (spec_l6Ends.j2 k x5 x6 x7 x8 x9 x33 (wrap64 ((x7.length:Int) - 1)) x31 x32 x33 ((rd_T71 x31 x33).f0) (((rd_T71 x31 x33).f0)==3) ((rd_T71 x31 x33).f0) ((rd_T71 x31 x33).f1)) else (spec_l6Ends.j2 k x5 x6 x7 x8 x9 x33 (wrap64 ((x7.length:Int) - 1)) x31 x32 x33 ((rd_T71 x31 x33).f0) (((rd_T71 x31 x33).f0)==4) ((rd_T71 x31 x33).f0) ((rd_T71 x31 x33).f1))))) else (none)) else (none)) else (some (x5,x6,((x7.length:Int)==0)))
def spec_l6Ends.j3:Nat→List Int→Int→List Int→List Bool→List (List Int)→Int→Int→List (S71)→Int→Int→Int→Int→Option (List Int × Int × Bool)
 |0,_,_,_,_,_,_,_,_,_,_,_,_=>none
 |k+1,x5,x6,x7,x8,x9,x10,x12,x31,x32,x33,x139000,x139001=>if 0≤x12 then (if x12<(x9.length:Int) then (if (rd_L2 x9 x12).length<17592186044416 then ((some (x9.set (x12:Int).toNat ((rd_L2 x9 x12)++[x10]):List (List Int))).bind fun y157=>(if x139000=11 then (spec_l6Ends.l1 k x5 x6 x7 x8 y157 x10 x12 x31 x32 x33 (rd_L2 y157 x12) ((rd_L2 y157 x12).length:Int) 0) else (spec_l6Ends.l0 k x5 x6 x7 x8 y157 x31 x32 (wrap64 (x33+1))))) else (none)) else (none)) else (none)
def spec_l6Ends.l1:Nat→List Int→Int→List Int→List Bool→List (List Int)→Int→Int→List (S71)→Int→Int→List Int→Int→Int→Option (List Int × Int × Bool)
 |0,_,_,_,_,_,_,_,_,_,_,_,_,_=>none
 |k+1,x5,x6,x7,x8,x9,x10,x12,x31,x32,x33,x95,x96,x97=>if x97<x96 then (if 0≤x97 then (if x97<(x95.length:Int) then (if 0≤(rd x95 x97) then (if (rd x95 x97)<(x5.length:Int) then (spec_l6Ends.l1 k (x5.set ((rd x95 x97):Int).toNat x10) x6 x7 x8 x9 x10 x12 x31 x32 x33 x95 x96 (wrap64 (x97+1))) else (none)) else (none)) else (none)) else (none)) else (if 0≤x12 then (if x12≤(x7.length:Int) then (if x12≤(x8.length:Int) then (if x12≤(x9.length:Int) then (spec_l6Ends.l0 k x5 x6 (x7.take (x12:Int).toNat) (x8.take (x12:Int).toNat) (x9.take (x12:Int).toNat) x31 x32 (wrap64 (x33+1))) else (none)) else (none)) else (none)) else (none))
def spec_l6Ends.j2:Nat→List Int→Int→List Int→List Bool→List (List Int)→Int→Int→List (S71)→Int→Int→Int→Bool→Int→Int→Option (List Int × Int × Bool)
 |0,_,_,_,_,_,_,_,_,_,_,_,_,_,_=>none
 |k+1,x5,x6,x7,x8,x9,x10,x12,x31,x32,x33,x44,x45,x139000,x139001=>if x45=true then (if x7.length<17592186044416 then ((some (x7++[x10]:List Int)).bind fun y139=>(if x8.length<140737488355328 then ((some (x8++[(x139000 !=4)]:List Bool)).bind fun y142=>(if x9.length<5864062014805 then ((some (x9++[(([x10]:List Int))]:List (List Int))).bind fun y148=>(if (y139.length:Int) > x6 then (spec_l6Ends.l0 k x5 (y139.length:Int) y139 y142 y148 x31 x32 (wrap64 (x33+1))) else (spec_l6Ends.l0 k x5 x6 y139 y142 y148 x31 x32 (wrap64 (x33+1))))) else (none))) else (none))) else (none)) else (if x44=5 then (if 0≤x12 then (if x12<(x8.length:Int) then (if rdOf false x8 x12=true then (some (([]:List Int),0,false)) else (spec_l6Ends.j3 k x5 x6 x7 (x8.set (x12:Int).toNat true) x9 x10 x12 x31 x32 x33 x139000 x139001)) else (none)) else (none)) else (spec_l6Ends.j3 k x5 x6 x7 x8 x9 x10 x12 x31 x32 x33 x139000 x139001))
end
def spec_l6Ends.f (k:Nat) (l0:List (S71)):Option (List Int × Int × Bool):=(spec_l6Good.f k l0).bind fun t124=>(if t124=true then (spec_l6Ends.j0 k l0 ((l0.length:Int)==0)) else (spec_l6Ends.j0 k l0 true))
theorem spec_l6Ends.calls (k:Nat) (A0:Option Addr) (c0:Nat) (l0:List (S71)) (r1:List Int) (r2:Int) (r3:Bool) (w:World) (hr0:Kd.C k71 w A0 l0.length l0) (hc0:l0.length≤c0) (h:spec_l6Ends.f k l0=some (r1,r2,r3)):
  Calls Try.prog 40 #[.slice A0 l0.length c0] w fun e w'=>∃ v0_:Value,e=.returned (.tuple #[v0_,.int .i64 r2,.bool r3])∧Kd.R (Kd.int .i64) 3 w' w.heap.size (fun _=>True) v0_ r1∧Below w.heap.size w w':=by
 have hu71:=Try.underlying71
 have HR0:=A_ hr0
 have HC0:=A_ hc0
 clear hr0 hc0
 have HB:=A_ (Below.refl w.heap.size w)
 have H:((spec_l6Good.f k l0).bind fun t124=>(if t124=true then (spec_l6Ends.j0 k l0 ((l0.length:Int)==0)) else (spec_l6Ends.j0 k l0 true)))=some (r1,r2,r3):=h
 clear h
 have HC2:=A_ H
 clear H
 go_enter Try.func40,Try.ntmps40
 go_upto_region 1 with (fail)
 go_cut [22] (fun v22 wc=>∃ (kq:Nat) (x22_1:Bool),v22=.bool x22_1∧Aside0 (spec_l6Ends.j0 kq l0 x22_1=some (r1,r2,r3))∧Aside0 (kq≤k)∧Aside0 (Below w.heap.size w wc))
 case first=>
  have H:=HC2.out
  clear HC2
  replace H:=bi_ H
  obtain⟨t124,A30,H⟩:=H
  have A3:=A_ A30
  clear A30
  by_cases c4:t124=true
  ·
   subst c4
   replace H:=iT_ H
   have H':=A_ H
   clear H
   go_wp2_with (first|((with_reducible refine gc_ 63 rfl ?_);refine gm_ (some 16) Try.func63 (spec_l6Good.calls k _ _ l0 true _ (cb_ HR0 HB) HC0.out A3.out) ?_;intro w5 hb;replace HB:=bs_ HB hb;(try clear hb)))
   go_meet
   case rel=>exact⟨_,(((l0.length:Int)==0)),rs_,H',⟨by first|omega|exact Nat.le_refl _⟩,⟨bw HB.out⟩⟩
  replace c4:=Bool.eq_false_iff.mpr c4
  subst c4
  replace H:=iF_ H
  have H':=A_ H
  clear H
  go_wp2_with (first|((with_reducible refine gc_ 63 rfl ?_);refine gm_ (some 16) Try.func63 (spec_l6Good.calls k _ _ l0 false _ (cb_ HR0 HB) HC0.out A3.out) ?_;intro w6 hb;replace HB:=bs_ HB hb;(try clear hb)))
  go_meet
  case rel=>exact⟨_,(true),rs_,H',⟨by first|omega|exact Nat.le_refl _⟩,⟨bw HB.out⟩⟩
 case rest=>
  clear HC2
  obtain⟨kq,x22_1,rfl,HA,HJ1,HB⟩:=hcut
  cases kq with
  |zero=>exact absurd HA.out (by simp[spec_l6Ends.j0])
  |succ kj1=>
   have H:=HA.out
   clear HA
   simp only[spec_l6Ends.j0] at H
   by_cases c7:x22_1=true
   ·
    subst c7
    replace H:=iT_ H
    simp only[Option.some.injEq,Prod.mk.injEq] at H
    obtain⟨rfl,rfl,rfl⟩:=H
    go_wp2
    go_ret3
    exact⟨_,rr_,by first|exact Kd.R_nil _ _ _ _ _|exact Kd.N_nil _ _ _ _ _|exact Kd.V_nil _ _ _ _ _|exact Kd.Q_nil _ _ _ _ _|exact Kd.S_nil _ _ _ _ _,bw HB.out⟩
   replace c7:=Bool.eq_false_iff.mpr c7
   subst c7
   replace H:=iF_ H
   by_cases c8:0≤(l0.length:Int)
   ·
    rw[if_pos c8] at H
    have c8b0:=eq_true c8
    have c8b1:=decide_eq_true c8
    clear c8
    by_cases c9:((l0.length:Int):Int).toNat≤35184372088832
    ·
     rw[if_pos c9] at H
     have c9b0:=eq_true c9
     have c9b1:=decide_eq_true c9
     clear c9
     obtain⟨y125,hy125⟩:∃ y_:List Int,y_=(List.replicate ((l0.length:Int):Int).toNat 0):=⟨_,rfl⟩
     replace H:(if ([]:List (List Int)).length<5864062014805 then (spec_l6Ends.l0 kj1 y125 1 (([(-1)]:List Int)) (([true]:List Bool)) (([]:List (List Int))++[[]]) l0 (l0.length:Int) 0) else (none))=some (r1,r2,r3):=by first|(rw[hy125];with_reducible exact H)|(have H2_:=(Option.bind_some _ _).symm.trans H;rw[hy125];with_reducible exact H2_)|(have H2_:=(Option.bind_some _ _).symm.trans H;with_reducible exact H2_)|with_reducible exact H|(rw[hy125];exact H)|exact H
     have Ny125:=A_ hy125
     clear hy125
     obtain⟨y128,hy128⟩:∃ y_:List Int,y_=(([(-1)]:List Int)):=⟨_,rfl⟩
     replace H:(if ([]:List (List Int)).length<5864062014805 then (spec_l6Ends.l0 kj1 y125 1 y128 (([true]:List Bool)) (([]:List (List Int))++[[]]) l0 (l0.length:Int) 0) else (none))=some (r1,r2,r3):=by first|(rw[hy128];with_reducible exact H)|(have H2_:=(Option.bind_some _ _).symm.trans H;rw[hy128];with_reducible exact H2_)|(have H2_:=(Option.bind_some _ _).symm.trans H;with_reducible exact H2_)|with_reducible exact H|(rw[hy128];exact H)|exact H
     have Ny128:=A_ hy128
     clear hy128
     obtain⟨y131,hy131⟩:∃ y_:List Bool,y_=(([true]:List Bool)):=⟨_,rfl⟩
     replace H:(if ([]:List (List Int)).length<5864062014805 then (spec_l6Ends.l0 kj1 y125 1 y128 y131 (([]:List (List Int))++[[]]) l0 (l0.length:Int) 0) else (none))=some (r1,r2,r3):=by first|(rw[hy131];with_reducible exact H)|(have H2_:=(Option.bind_some _ _).symm.trans H;rw[hy131];with_reducible exact H2_)|(have H2_:=(Option.bind_some _ _).symm.trans H;with_reducible exact H2_)|with_reducible exact H|(rw[hy131];exact H)|exact H
     have Ny131:=A_ hy131
     clear hy131
     by_cases c10:([]:List (List Int)).length<5864062014805
     ·
      rw[if_pos c10] at H
      have LMc10:=A_ c10
      clear c10
      obtain⟨y134,hy134⟩:∃ y_:List (List Int),y_=(([]:List (List Int))++[[]]):=⟨_,rfl⟩
      replace H:(spec_l6Ends.l0 kj1 y125 1 y128 y131 y134 l0 (l0.length:Int) 0)=some (r1,r2,r3):=by first|(rw[hy134];with_reducible exact H)|(have H2_:=(Option.bind_some _ _).symm.trans H;rw[hy134];with_reducible exact H2_)|(have H2_:=(Option.bind_some _ _).symm.trans H;with_reducible exact H2_)|with_reducible exact H|(rw[hy134];exact H)|exact H
      have Ny134:=A_ hy134
      clear hy134
      have H':=A_ H
      clear H
      go_wp2_with (first|((with_reducible refine gd_ 25 rfl ?_);(try (refine gate_guard (by rfl) ?_;dsimp only));refine Kd.R_make (Kd.int .i64) _ 3 rfl (N:=25) rfl 53 _ _ rfl (l0.length:Int) rfl rfl Try.underlying53 (.int .i64 0) 8 info3 rfl (by decide) (by omega) 0 (ok:=fun _=>True) (okp:=fun _=>True) rfl (fun _ hk=>hk) trivial (od_) (Nat.le_trans (Nat.mul_le_mul_right _ (od_:(l0.length:Int).toNat≤35184372088832)) (by omega)) (Below.refl _ _) (Nat.le_refl _) ?_;intro v126 w11 ho12 hb hg_ hnew_;clear hg_ hnew_;(first|rw[←Ny125.out] at ho12|(simp only[Int.reduceToNat] at ho12;rw[←Ny125.out] at ho12));have HO127:=A_ (Kd.R_lower ho12 (below_size (bw HB.out)));replace HB:=bs_ HB hb;clear hb ho12)|((with_reducible refine gd_ 26 rfl ?_);(try (refine gate_guard (by rfl) ?_;dsimp only));refine Kd.R_lit (Kd.int .i64) _ 3 ?hg (N:=26) ?hd (xs:=([(-1)]:List Int)) (inner:=[.int .i64 (-1)]) (ok:=fun _=>True) (okp:=fun _=>True) ?hr ?hp (fun _ hk=>hk) trivial (Below.refl _ _) (Nat.le_refl _) (by simp) ?_;(case hd=>rfl);(case hg=>rfl);(case hr=>first|(go_simp;done)|(go_simp;rfl));(case hp=>exact(Reps.one (show Kd.M (Kd.int .i64) _ _ _ (-1) [.int .i64 (-1)] from rfl) (Reps.none _ _)));intro v129 w13 ho14 hb hg_ hnew_;clear hg_ hnew_;(first|rw[←Ny128.out] at ho14|(simp only[Int.reduceToNat] at ho14;rw[←Ny128.out] at ho14));have HO130:=A_ (Kd.R_lower (Kd.R_new' ho14 (Kd.R_lt (kr_ HO127.out))) (below_size (bw HB.out)));replace HO127:=A_ (Kd.R_elder' (kr_ HO127.out) (Kd.R_base ho14) hb);replace HB:=bs_ HB hb;clear hb ho14)|((with_reducible refine gd_ 27 rfl ?_);(try (refine gate_guard (by rfl) ?_;dsimp only));refine Kd.R_lit Kd.bool _ 4 ?hg (N:=27) ?hd (xs:=([true]:List Bool)) (inner:=[.bool true]) (ok:=fun _=>True) (okp:=fun _=>True) ?hr ?hp (fun _ hk=>hk) trivial (Below.refl _ _) (Nat.le_refl _) (by simp) ?_;(case hd=>rfl);(case hg=>rfl);(case hr=>first|(go_simp;done)|(go_simp;rfl));(case hp=>exact(Reps.one (show Kd.M Kd.bool _ _ _ true [.bool true] from rfl) (Reps.none _ _)));intro v132 w15 ho16 hb hg_ hnew_;clear hg_ hnew_;(first|rw[←Ny131.out] at ho16|(simp only[Int.reduceToNat] at ho16;rw[←Ny131.out] at ho16));have HO133:=A_ (Kd.R_lower ho16 (below_size (bw HB.out)));replace HO127:=A_ (Kd.R_below (kr_ HO127.out) hb);replace HO130:=A_ (Kd.R_below (kr_ HO130.out) hb);replace HB:=bs_ HB hb;clear hb ho16)|((with_reducible refine gate_builtin (b:=.append) (xs:=#[.tmp 28,.tmp 29]) rfl ?_);(try (refine gate_guard (by rfl) ?_;dsimp only));at_builtin;refine Kd.S_append (Kd.slice 3 (Kd.int .i64)) (w0:=w) w.heap.size rfl (.tmp 28) (.tmp 29) 105 53 (.slice none 0 0) 24 rfl Try.underlying105 info53 rfl (by decide) (by omega) (.slice none 0 0) ([]:List (List Int)) [] [.slice none 0 0] (fun k_=>some k_≠(v126:Value).ownBlock∧some k_≠(v129:Value).ownBlock) (fun _=>False) rfl rfl ?aP (fun _ hk=>hk.elim) ?aF ?aO ?aB ?aS ?aL ?_;(case aP=>exact⟨_,rfl,Kd.R_nil _ _ _ _ _⟩);(case aB=>exact(bw HB.out));(case aF=>exact(fun k_ hk=>⟨Kd.fresh' (Kd.R_lt (kr_ HO127.out)) k_ hk,Kd.fresh' (Kd.R_lt (kr_ HO130.out)) k_ hk⟩));(case aO=>exact((Kd.S_nil _ _ _ _ _)));(case aS=>exact(below_size (bw HB.out)));(case aL=>have:=LMc10.out;omega);intro v135 w17 ho hb hg hat;rw[←Ny134.out] at ho;have HO136:=A_ (ho);replace HO127:=A_ (Kd.R_grown (kr_ HO127.out) hg (fun _ _=>by simp[Value.ownBlock]));replace HO130:=A_ (Kd.R_grown (kr_ HO130.out) hg (fun _ _=>by simp[Value.ownBlock]));replace HO133:=A_ (Kd.R_grown (kr_ HO133.out) hg (fun _ _=>by simp[Value.ownBlock]));replace HB:=A_ (hb);clear ho hb hg hat))
      (try simp only[Act.put,List.setIfInBounds_toArray,List.set_cons_zero,List.set_cons_succ])
      go_loopg [6,7,8,9,33] kj1 (fun kq v6 v7 v8 v9 v33 w'=>∃ (x5_2:List Int) (x6_2:Int) (x7_2:List Int) (x8_2:List Bool) (x9_2:List (List Int)) (x33_2:Int),v6=.int .i64 x6_2∧v33=.int .i64 x33_2∧Aside0 (spec_l6Ends.l0 kq x5_2 x6_2 x7_2 x8_2 x9_2 l0 (l0.length:Int) x33_2=some (r1,r2,r3))∧Aside0 (kq≤kj1)∧Aside0 (Kd.R (Kd.int .i64) 3 w' w.heap.size (fun k_=>some k_≠(v7:Value).ownBlock) v126 x5_2)∧Aside0 (Kd.R (Kd.int .i64) 3 w' w.heap.size (fun k_=>some k_≠(v126:Value).ownBlock) v7 x7_2)∧Aside0 (Kd.R Kd.bool 4 w' w.heap.size (fun _=>True) v8 x8_2)∧Aside0 (Kd.S (Kd.slice 3 (Kd.int .i64)) 53 w' w.heap.size (fun k_=>some k_≠(v126:Value).ownBlock∧some k_≠(v7:Value).ownBlock) v9 x9_2)∧Aside0 (Below w.heap.size w w'))
      case atStart=>exact⟨(y125),(1),(y128),(y131),(y134),(0),rs_,rs_,H',⟨Nat.le_refl _⟩,⟨by (with_reducible repeat (first|apply Kd.R_alloc|apply Kd.R_drewN|apply Kd.R_drew));exact Kd.R_mono HO127.out (fun _ hk=>hk.2)⟩,⟨by (with_reducible repeat (first|apply Kd.R_alloc|apply Kd.R_drewN|apply Kd.R_drew));exact Kd.R_mono HO130.out (fun _ hk=>hk.2)⟩,⟨kr_ HO133.out⟩,⟨ks_ HO136.out⟩,⟨bw HB.out⟩⟩
      case round=>
       clear H'
       try clear c7 c8 c8b0 c8b1 c9 c9b0 c9b1 c10
       obtain⟨x5_2,x6_2,x7_2,x8_2,x9_2,x33_2,rfl,rfl,HA,HK2,HO_5,HO_7,HO_8,HO_9,HB⟩:=hrel
       cases gk with
       |zero=>exact absurd HA.out (by simp[spec_l6Ends.l0])
       |succ k2=>
        have H:=HA.out
        clear HA
        simp only[spec_l6Ends.l0] at H
        by_cases c18:x33_2<(l0.length:Int)
        ·
         rw[if_pos c18] at H
         have c18b0:=decide_eq_true c18
         clear c18
         by_cases c19:0≤x33_2
         ·
          rw[if_pos c19] at H
          have c19b0:=decide_eq_true c19
          clear c19
          by_cases c20:x33_2<(l0.length:Int)
          ·
           rw[if_pos c20] at H
           have c20b0:=decide_eq_true c20
           clear c20
           by_cases c21:(wrap64 ((x7_2.length:Int) - 1))<0
           ·
            rw[if_pos c21] at H
            have c21b0:=decide_eq_true c21
            clear c21
            simp only[Option.some.injEq,Prod.mk.injEq] at H
            obtain⟨rfl,rfl,rfl⟩:=H
            have p137:0≤(x33_2:Int):=od_
            have q137:x33_2<(l0.length:Int):=od_
            obtain⟨ad137,e137,hx137_0,hx137_1⟩:=at_T71 HR0.out x33_2 p137 q137
            cases e137
            replace hx137_0:=cl_ HB.out hx137_0
            replace hx137_1:=cl_ HB.out hx137_1
            replace p137:=eq_true p137
            replace q137:=eq_true q137
            go_wp2_with (first|((with_reducible refine gd_ 11 rfl ?_);(try (refine gate_guard (by rfl) ?_;dsimp only));refine bx_ #[.int .i64 0,.int .i64 0] 71 ?_;intro gb138 hg w22 hbox hb;have BK138:=A_ hbox;have GW138:=gw_ hg HB;have GE138:=GW138;replace HO_5:=A_ (Kd.R_below (kr_ HO_5.out) hb);replace HO_7:=A_ (Kd.R_below (kr_ HO_7.out) hb);replace HO_8:=A_ (Kd.R_below (kr_ HO_8.out) hb);replace HO_9:=A_ (Kd.S_below (ks_ HO_9.out) hb);replace HB:=bs_ HB hb;clear hb hbox hg;obtain⟨hcz23_0,hcz23_1⟩:=cs2_ BK138.out;obtain⟨hfz23_0,hfz23_1⟩:=fz2_ BK138.out;obtain⟨Ao24,co24,eo24⟩:=Kd.R_slice HO_7.out;subst eo24))
            go_ret3
            exact⟨_,rr_,by first|exact Kd.R_nil _ _ _ _ _|exact Kd.N_nil _ _ _ _ _|exact Kd.V_nil _ _ _ _ _|exact Kd.Q_nil _ _ _ _ _|exact Kd.S_nil _ _ _ _ _,bw HB.out⟩
           rw[if_neg c21] at H
           have c21b0:=decide_eq_false c21
           clear c21
           have HC25:=A_ H
           clear H
           have p137:0≤(x33_2:Int):=od_
           have q137:x33_2<(l0.length:Int):=od_
           obtain⟨ad137,e137,hx137_0,hx137_1⟩:=at_T71 HR0.out x33_2 p137 q137
           cases e137
           replace hx137_0:=cl_ HB.out hx137_0
           replace hx137_1:=cl_ HB.out hx137_1
           replace p137:=eq_true p137
           replace q137:=eq_true q137
           go_upto_block 2 with (first|((with_reducible refine gd_ 11 rfl ?_);(try (refine gate_guard (by rfl) ?_;dsimp only));refine bx_ #[.int .i64 0,.int .i64 0] 71 ?_;intro gb138 hg w26 hbox hb;have BK138:=A_ hbox;have GW138:=gw_ hg HB;have GE138:=GW138;replace HO_5:=A_ (Kd.R_below (kr_ HO_5.out) hb);replace HO_7:=A_ (Kd.R_below (kr_ HO_7.out) hb);replace HO_8:=A_ (Kd.R_below (kr_ HO_8.out) hb);replace HO_9:=A_ (Kd.S_below (ks_ HO_9.out) hb);replace HB:=bs_ HB hb;clear hb hbox hg;obtain⟨hcz27_0,hcz27_1⟩:=cs2_ BK138.out;obtain⟨hfz27_0,hfz27_1⟩:=fz2_ BK138.out;obtain⟨Ao28,co28,eo28⟩:=Kd.R_slice HO_7.out;subst eo28))
           (try simp only[Act.put,List.setIfInBounds_toArray,List.set_cons_zero,List.set_cons_succ])
           go_cut [6,7,8,9] (fun v6 v7 v8 v9 wc=>∃ (kq:Nat) (x6_24:Int) (x7_24:List Int) (x8_24:List Bool) (x9_24:List (List Int)),v6=.int .i64 x6_24∧Aside0 (spec_l6Ends.j3 kq x5_2 x6_24 x7_24 x8_24 x9_24 x33_2 (wrap64 ((x7_2.length:Int) - 1)) l0 (l0.length:Int) x33_2 ((rd_T71 l0 x33_2).f0) ((rd_T71 l0 x33_2).f1)=some (r1,r2,r3))∧Aside0 (kq≤k2)∧Aside0 (Kd.R (Kd.int .i64) 3 wc w.heap.size (fun k_=>some k_≠(v7:Value).ownBlock) v126 x5_2)∧Aside0 (Kd.R (Kd.int .i64) 3 wc w.heap.size (fun k_=>some k_≠(v126:Value).ownBlock) v7 x7_24)∧Aside0 (Kd.R Kd.bool 4 wc w.heap.size (fun _=>True) v8 x8_24)∧Aside0 (Kd.S (Kd.slice 3 (Kd.int .i64)) 53 wc w.heap.size (fun k_=>some k_≠(v126:Value).ownBlock∧some k_≠(v7:Value).ownBlock) v9 x9_24)∧Aside0 (wc.heap[gb138]? =some (.cells #[.int .i64 ((rd_T71 l0 x33_2).f0),.int .i64 ((rd_T71 l0 x33_2).f1)] 71 (0,0)))∧Aside0 (Below w.heap.size w wc))
           case first=>
            have H:=HC25.out
            clear HC25
            have HC29:=A_ H
            clear H
            go_upto_if 45 with (fail)
            go_cut [45] (fun v45 wc=>∃ (kq:Nat) (x45_28:Bool),v45=.bool x45_28∧Aside0 (spec_l6Ends.j2 kq x5_2 x6_2 x7_2 x8_2 x9_2 x33_2 (wrap64 ((x7_2.length:Int) - 1)) l0 (l0.length:Int) x33_2 ((rd_T71 l0 x33_2).f0) x45_28 ((rd_T71 l0 x33_2).f0) ((rd_T71 l0 x33_2).f1)=some (r1,r2,r3))∧Aside0 (kq≤k2)∧Aside0 (Kd.R (Kd.int .i64) 3 wc w.heap.size (fun k_=>some k_≠((.slice Ao28 x7_2.length co28):Value).ownBlock) v126 x5_2)∧Aside0 (Kd.R (Kd.int .i64) 3 wc w.heap.size (fun k_=>some k_≠(v126:Value).ownBlock) (.slice Ao28 x7_2.length co28) x7_2)∧Aside0 (Kd.R Kd.bool 4 wc w.heap.size (fun _=>True) u8 x8_2)∧Aside0 (Kd.S (Kd.slice 3 (Kd.int .i64)) 53 wc w.heap.size (fun k_=>some k_≠(v126:Value).ownBlock∧some k_≠((.slice Ao28 x7_2.length co28):Value).ownBlock) u9 x9_2)∧Aside0 (wc.heap[gb138]? =some (.cells #[.int .i64 ((rd_T71 l0 x33_2).f0),.int .i64 ((rd_T71 l0 x33_2).f1)] 71 (0,0)))∧Aside0 (Below w.heap.size w wc))
            case first=>
             have H:=HC29.out
             clear HC29
             by_cases c30:((rd_T71 l0 x33_2).f0)=2
             ·
              rw[if_pos c30] at H
              obtain⟨c30b0,c30b1⟩:=eT_ c30
              clear c30
              (first|rw[c30b0]|(simp only[i64_w,i32_w];rw[c30b0])|skip)
              have H':=A_ H
              clear H
              go_wp2
              go_meet
              case rel=>exact⟨_,((((rd_T71 l0 x33_2).f0)==2)),rs_,H',⟨by have:=HJ1.out;have:=HK2.out;first|omega|exact Nat.le_refl _⟩,⟨by (with_reducible repeat (first|apply Kd.R_alloc|apply Kd.R_drewN|apply Kd.R_drew));exact Kd.R_mono (Kd.R_far (p:=⟨gb138,1,none⟩) (Kd.R_far (p:=⟨gb138,0,none⟩) (Kd.R_types HO_5.out BK138.out (by decide)) (fun _ hk=>hk.2) (.int .i64 ((rd_T71 l0 x33_2).f0))) (fun _ hk=>hk.2) (.int .i64 ((rd_T71 l0 x33_2).f1))) (fun _ hk=>hk.1)⟩,⟨by (with_reducible repeat (first|apply Kd.R_alloc|apply Kd.R_drewN|apply Kd.R_drew));exact Kd.R_mono (Kd.R_far (p:=⟨gb138,1,none⟩) (Kd.R_far (p:=⟨gb138,0,none⟩) (Kd.R_types HO_7.out BK138.out (by decide)) (fun _ hk=>hk.2) (.int .i64 ((rd_T71 l0 x33_2).f0))) (fun _ hk=>hk.2) (.int .i64 ((rd_T71 l0 x33_2).f1))) (fun _ hk=>hk.1)⟩,⟨by (with_reducible repeat (first|apply Kd.R_alloc|apply Kd.R_drewN|apply Kd.R_drew));exact Kd.R_mono (Kd.R_far (p:=⟨gb138,1,none⟩) (Kd.R_far (p:=⟨gb138,0,none⟩) (Kd.R_types HO_8.out BK138.out (by decide)) (fun _ hk=>hk.2) (.int .i64 ((rd_T71 l0 x33_2).f0))) (fun _ hk=>hk.2) (.int .i64 ((rd_T71 l0 x33_2).f1))) (fun _ hk=>trivial)⟩,⟨by (with_reducible repeat (first|apply Kd.S_alloc|apply Kd.S_drewN|apply Kd.S_drew));exact Kd.S_mono (Kd.S_far (p:=⟨gb138,1,none⟩) (Kd.S_far (p:=⟨gb138,0,none⟩) (Kd.S_types HO_9.out BK138.out (by decide)) (fun _ hk=>hk.2) (.int .i64 ((rd_T71 l0 x33_2).f0))) (fun _ hk=>hk.2) (.int .i64 ((rd_T71 l0 x33_2).f1))) (fun _ hk=>⟨hk.1.1,hk.1.2⟩)⟩,⟨by refine blk_put (cs:=#[.int .i64 ((rd_T71 l0 x33_2).f0),.int .i64 0]) ?_ 1 _ rfl;refine blk_put (cs:=#[.int .i64 0,.int .i64 0]) ?_ 0 _ rfl;(with_reducible repeat (first|refine blk_drewN ?_ _|refine blk_drew ?_|refine blk_alloc ?_ _));exact BK138.out⟩,⟨bw HB.out⟩⟩
             rw[if_neg c30] at H
             obtain⟨c30b0,c30b1⟩:=eF_ c30
             (first|rw[c30b0]|(simp only[i64_w,i32_w];rw[c30b0])|skip)
             by_cases c31:((rd_T71 l0 x33_2).f0)=3
             ·
              rw[if_pos c31] at H
              obtain⟨c31b0,c31b1⟩:=eT_ c31
              clear c31
              have H':=A_ H
              clear H
              go_wp2
              go_meet
              case rel=>exact⟨_,((((rd_T71 l0 x33_2).f0)==3)),rs_,H',⟨by have:=HJ1.out;have:=HK2.out;first|omega|exact Nat.le_refl _⟩,⟨by (with_reducible repeat (first|apply Kd.R_alloc|apply Kd.R_drewN|apply Kd.R_drew));exact Kd.R_mono (Kd.R_far (p:=⟨gb138,1,none⟩) (Kd.R_far (p:=⟨gb138,0,none⟩) (Kd.R_types HO_5.out BK138.out (by decide)) (fun _ hk=>hk.2) (.int .i64 ((rd_T71 l0 x33_2).f0))) (fun _ hk=>hk.2) (.int .i64 ((rd_T71 l0 x33_2).f1))) (fun _ hk=>hk.1)⟩,⟨by (with_reducible repeat (first|apply Kd.R_alloc|apply Kd.R_drewN|apply Kd.R_drew));exact Kd.R_mono (Kd.R_far (p:=⟨gb138,1,none⟩) (Kd.R_far (p:=⟨gb138,0,none⟩) (Kd.R_types HO_7.out BK138.out (by decide)) (fun _ hk=>hk.2) (.int .i64 ((rd_T71 l0 x33_2).f0))) (fun _ hk=>hk.2) (.int .i64 ((rd_T71 l0 x33_2).f1))) (fun _ hk=>hk.1)⟩,⟨by (with_reducible repeat (first|apply Kd.R_alloc|apply Kd.R_drewN|apply Kd.R_drew));exact Kd.R_mono (Kd.R_far (p:=⟨gb138,1,none⟩) (Kd.R_far (p:=⟨gb138,0,none⟩) (Kd.R_types HO_8.out BK138.out (by decide)) (fun _ hk=>hk.2) (.int .i64 ((rd_T71 l0 x33_2).f0))) (fun _ hk=>hk.2) (.int .i64 ((rd_T71 l0 x33_2).f1))) (fun _ hk=>trivial)⟩,⟨by (with_reducible repeat (first|apply Kd.S_alloc|apply Kd.S_drewN|apply Kd.S_drew));exact Kd.S_mono (Kd.S_far (p:=⟨gb138,1,none⟩) (Kd.S_far (p:=⟨gb138,0,none⟩) (Kd.S_types HO_9.out BK138.out (by decide)) (fun _ hk=>hk.2) (.int .i64 ((rd_T71 l0 x33_2).f0))) (fun _ hk=>hk.2) (.int .i64 ((rd_T71 l0 x33_2).f1))) (fun _ hk=>⟨hk.1.1,hk.1.2⟩)⟩,⟨by refine blk_put (cs:=#[.int .i64 ((rd_T71 l0 x33_2).f0),.int .i64 0]) ?_ 1 _ rfl;refine blk_put (cs:=#[.int .i64 0,.int .i64 0]) ?_ 0 _ rfl;(with_reducible repeat (first|refine blk_drewN ?_ _|refine blk_drew ?_|refine blk_alloc ?_ _));exact BK138.out⟩,⟨bw HB.out⟩⟩
             rw[if_neg c31] at H
             obtain⟨c31b0,c31b1⟩:=eF_ c31
             have H':=A_ H
             clear H
             go_wp2
             go_meet
             case rel=>exact⟨_,((((rd_T71 l0 x33_2).f0)==4)),rs_,H',⟨by have:=HJ1.out;have:=HK2.out;first|omega|exact Nat.le_refl _⟩,⟨by (with_reducible repeat (first|apply Kd.R_alloc|apply Kd.R_drewN|apply Kd.R_drew));exact Kd.R_mono (Kd.R_far (p:=⟨gb138,1,none⟩) (Kd.R_far (p:=⟨gb138,0,none⟩) (Kd.R_types HO_5.out BK138.out (by decide)) (fun _ hk=>hk.2) (.int .i64 ((rd_T71 l0 x33_2).f0))) (fun _ hk=>hk.2) (.int .i64 ((rd_T71 l0 x33_2).f1))) (fun _ hk=>hk.1)⟩,⟨by (with_reducible repeat (first|apply Kd.R_alloc|apply Kd.R_drewN|apply Kd.R_drew));exact Kd.R_mono (Kd.R_far (p:=⟨gb138,1,none⟩) (Kd.R_far (p:=⟨gb138,0,none⟩) (Kd.R_types HO_7.out BK138.out (by decide)) (fun _ hk=>hk.2) (.int .i64 ((rd_T71 l0 x33_2).f0))) (fun _ hk=>hk.2) (.int .i64 ((rd_T71 l0 x33_2).f1))) (fun _ hk=>hk.1)⟩,⟨by (with_reducible repeat (first|apply Kd.R_alloc|apply Kd.R_drewN|apply Kd.R_drew));exact Kd.R_mono (Kd.R_far (p:=⟨gb138,1,none⟩) (Kd.R_far (p:=⟨gb138,0,none⟩) (Kd.R_types HO_8.out BK138.out (by decide)) (fun _ hk=>hk.2) (.int .i64 ((rd_T71 l0 x33_2).f0))) (fun _ hk=>hk.2) (.int .i64 ((rd_T71 l0 x33_2).f1))) (fun _ hk=>trivial)⟩,⟨by (with_reducible repeat (first|apply Kd.S_alloc|apply Kd.S_drewN|apply Kd.S_drew));exact Kd.S_mono (Kd.S_far (p:=⟨gb138,1,none⟩) (Kd.S_far (p:=⟨gb138,0,none⟩) (Kd.S_types HO_9.out BK138.out (by decide)) (fun _ hk=>hk.2) (.int .i64 ((rd_T71 l0 x33_2).f0))) (fun _ hk=>hk.2) (.int .i64 ((rd_T71 l0 x33_2).f1))) (fun _ hk=>⟨hk.1.1,hk.1.2⟩)⟩,⟨by refine blk_put (cs:=#[.int .i64 ((rd_T71 l0 x33_2).f0),.int .i64 0]) ?_ 1 _ rfl;refine blk_put (cs:=#[.int .i64 0,.int .i64 0]) ?_ 0 _ rfl;(with_reducible repeat (first|refine blk_drewN ?_ _|refine blk_drew ?_|refine blk_alloc ?_ _));exact BK138.out⟩,⟨bw HB.out⟩⟩
            case rest=>
             clear HC29
             try clear c7 c8 c8b0 c8b1 c9 c9b0 c9b1 c10 c18 c18b0 c19 c19b0 c20 c20b0 c21 c21b0 hcz27_0 hcz27_1 hfz27_0 hfz27_1 hx137_0 hx137_1 p137 q137
             obtain⟨kq,x45_28,rfl,HA,HJ28,HO_5,HO_7,HO_8,HO_9,BK138,HB⟩:=hcut
             cases kq with
             |zero=>exact absurd HA.out (by simp[spec_l6Ends.j2])
             |succ kj28=>
              have H:=HA.out
              clear HA
              simp only[spec_l6Ends.j2] at H
              by_cases c32:x45_28=true
              ·
               subst c32
               replace H:=iT_ H
               by_cases c33:x7_2.length<17592186044416
               ·
                rw[if_pos c33] at H
                have LMc33:=A_ c33
                clear c33
                obtain⟨y139,hy139⟩:∃ y_:List Int,y_=(x7_2++[x33_2]):=⟨_,rfl⟩
                replace H:(if x8_2.length<140737488355328 then ((some (x8_2++[(((rd_T71 l0 x33_2).f0) !=4)]:List Bool)).bind fun y142=>(if x9_2.length<5864062014805 then ((some (x9_2++[(([x33_2]:List Int))]:List (List Int))).bind fun y148=>(if (y139.length:Int) > x6_2 then (spec_l6Ends.l0 kj28 x5_2 (y139.length:Int) y139 y142 y148 l0 (l0.length:Int) (wrap64 (x33_2+1))) else (spec_l6Ends.l0 kj28 x5_2 x6_2 y139 y142 y148 l0 (l0.length:Int) (wrap64 (x33_2+1))))) else (none))) else (none))=some (r1,r2,r3):=by first|(rw[hy139];with_reducible exact H)|(have H2_:=(Option.bind_some _ _).symm.trans H;rw[hy139];with_reducible exact H2_)|(have H2_:=(Option.bind_some _ _).symm.trans H;with_reducible exact H2_)|with_reducible exact H|(rw[hy139];exact H)|exact H
                have Ny139:=A_ hy139
                clear hy139
                by_cases c34:x8_2.length<140737488355328
                ·
                 rw[if_pos c34] at H
                 have LMc34:=A_ c34
                 clear c34
                 obtain⟨y142,hy142⟩:∃ y_:List Bool,y_=(x8_2++[(((rd_T71 l0 x33_2).f0) !=4)]):=⟨_,rfl⟩
                 replace H:(if x9_2.length<5864062014805 then ((some (x9_2++[(([x33_2]:List Int))]:List (List Int))).bind fun y148=>(if (y139.length:Int) > x6_2 then (spec_l6Ends.l0 kj28 x5_2 (y139.length:Int) y139 y142 y148 l0 (l0.length:Int) (wrap64 (x33_2+1))) else (spec_l6Ends.l0 kj28 x5_2 x6_2 y139 y142 y148 l0 (l0.length:Int) (wrap64 (x33_2+1))))) else (none))=some (r1,r2,r3):=by first|(rw[hy142];with_reducible exact H)|(have H2_:=(Option.bind_some _ _).symm.trans H;rw[hy142];with_reducible exact H2_)|(have H2_:=(Option.bind_some _ _).symm.trans H;with_reducible exact H2_)|with_reducible exact H|(rw[hy142];exact H)|exact H
                 have Ny142:=A_ hy142
                 clear hy142
                 obtain⟨y145,hy145⟩:∃ y_:List Int,y_=(([x33_2]:List Int)):=⟨_,rfl⟩
                 replace H:(if x9_2.length<5864062014805 then ((some (x9_2++[y145]:List (List Int))).bind fun y148=>(if (y139.length:Int) > x6_2 then (spec_l6Ends.l0 kj28 x5_2 (y139.length:Int) y139 y142 y148 l0 (l0.length:Int) (wrap64 (x33_2+1))) else (spec_l6Ends.l0 kj28 x5_2 x6_2 y139 y142 y148 l0 (l0.length:Int) (wrap64 (x33_2+1))))) else (none))=some (r1,r2,r3):=by first|(rw[hy145];with_reducible exact H)|(have H2_:=(Option.bind_some _ _).symm.trans H;rw[hy145];with_reducible exact H2_)|(have H2_:=(Option.bind_some _ _).symm.trans H;with_reducible exact H2_)|with_reducible exact H|(rw[hy145];exact H)|exact H
                 have Ny145:=A_ hy145
                 clear hy145
                 by_cases c35:x9_2.length<5864062014805
                 ·
                  rw[if_pos c35] at H
                  have LMc35:=A_ c35
                  clear c35
                  obtain⟨y148,hy148⟩:∃ y_:List (List Int),y_=(x9_2++[y145]):=⟨_,rfl⟩
                  replace H:(if (y139.length:Int) > x6_2 then (spec_l6Ends.l0 kj28 x5_2 (y139.length:Int) y139 y142 y148 l0 (l0.length:Int) (wrap64 (x33_2+1))) else (spec_l6Ends.l0 kj28 x5_2 x6_2 y139 y142 y148 l0 (l0.length:Int) (wrap64 (x33_2+1))))=some (r1,r2,r3):=by first|(rw[hy148];with_reducible exact H)|(have H2_:=(Option.bind_some _ _).symm.trans H;rw[hy148];with_reducible exact H2_)|(have H2_:=(Option.bind_some _ _).symm.trans H;with_reducible exact H2_)|with_reducible exact H|(rw[hy148];exact H)|exact H
                  have Ny148:=A_ hy148
                  clear hy148
                  by_cases c36:(y139.length:Int) > x6_2
                  ·
                   rw[if_pos c36] at H
                   have c36b0:=decide_eq_true c36
                   clear c36
                   have H':=A_ H
                   clear H
                   go_wp2_with (first|((with_reducible refine gate_builtin (b:=.append) (xs:=#[.tmp 49,.tmp 51]) rfl ?_);(try (refine gate_guard (by rfl) ?_;dsimp only));at_builtin;refine Kd.R_append (Kd.int .i64) (w0:=w) w.heap.size rfl (.tmp 49) (.tmp 51) 53 3 (.int .i64 0) 8 rfl Try.underlying53 info3 rfl (by decide) (by omega) (.slice Ao28 x7_2.length co28) x7_2 x33_2 [.int .i64 x33_2] (fun k_=>some k_≠(v126:Value).ownBlock) (fun _=>False) rfl rfl ?aP (fun _ hk=>hk.elim) ?aF ?aO ?aB ?aS ?aL ?_;(case aP=>exact rfl);(case aB=>exact(bw HB.out));(case aF=>exact(fun k_ hk=>Kd.fresh' (Kd.R_lt (kr_ HO_5.out)) k_ hk));(case aO=>exact(kr_ HO_7.out));(case aS=>exact(below_size (bw HB.out)));(case aL=>have:=LMc33.out;omega);intro v140 w37 ho hb hg hat;rw[←Ny139.out] at ho;have HO141:=A_ (ho);replace HO_5:=A_ (Kd.R_after (ok:=(fun _=>True)) (by(with_reducible repeat (first|apply Kd.R_alloc|apply Kd.R_drewN|apply Kd.R_drew));exact Kd.R_mono HO_5.out (fun _ hk=>⟨trivial,hk⟩)) hg hat);replace HO_8:=A_ (Kd.R_over' (kr_ HO_8.out) (Kd.R_typed (kr_ HO_7.out)) (by decide) hg);replace HO_9:=A_ (Kd.S_after (ok:=(fun k_=>some k_≠(v126:Value).ownBlock)) (ks_ HO_9.out) hg hat);replace BK138:=A_ (blk_grown (g:=gb138) (o:=.cells #[.int .i64 ((rd_T71 l0 x33_2).f0),.int .i64 ((rd_T71 l0 x33_2).f1)] 71 (0,0)) (bk BK138.out) hg (Kd.R_ne HO_7.out BK138.out (by decide)));replace HB:=A_ (hb);clear HO_7;clear ho hb hg hat;obtain⟨hcz38_0,hcz38_1⟩:=cs2_ BK138.out;obtain⟨hfz38_0,hfz38_1⟩:=fz2_ BK138.out)|((with_reducible refine gate_builtin (b:=.append) (xs:=#[.tmp 53,.tmp 57]) rfl ?_);(try (refine gate_guard (by rfl) ?_;dsimp only));at_builtin;refine Kd.R_append Kd.bool (w0:=w) w.heap.size rfl (.tmp 53) (.tmp 57) 104 4 (.bool false) 1 rfl Try.underlying104 info4 rfl (by decide) (by omega) u8 x8_2 (((rd_T71 l0 x33_2).f0) !=4) [.bool (((rd_T71 l0 x33_2).f0) !=4)] (fun _=>True) (fun _=>False) rfl rfl ?aP (fun _ hk=>hk.elim) ?aF ?aO ?aB ?aS ?aL ?_;(case aP=>exact rfl);(case aB=>exact(bw HB.out));(case aF=>exact(fun _ _=>trivial));(case aO=>exact(kr_ HO_8.out));(case aS=>exact(below_size (bw HB.out)));(case aL=>have:=LMc34.out;omega);intro v143 w39 ho hb hg hat;rw[←Ny142.out] at ho;have HO144:=A_ (ho);replace HO_5:=A_ (Kd.R_over' (kr_ HO_5.out) (Kd.R_typed (kr_ HO_8.out)) (by decide) hg);replace HO_9:=A_ (Kd.S_over' (ks_ HO_9.out) (Kd.R_typed (kr_ HO_8.out)) (by decide) hg);replace BK138:=A_ (blk_grown (g:=gb138) (o:=.cells #[.int .i64 ((rd_T71 l0 x33_2).f0),.int .i64 ((rd_T71 l0 x33_2).f1)] 71 (0,0)) (bk BK138.out) hg (Kd.R_ne HO_8.out BK138.out (by decide)));replace HO141:=A_ (Kd.R_over' (kr_ HO141.out) (Kd.R_typed (kr_ HO_8.out)) (by decide) hg);replace HB:=A_ (hb);clear HO_8;clear ho hb hg hat)|((with_reducible refine gd_ 61 rfl ?_);(try (refine gate_guard (by rfl) ?_;dsimp only));refine Kd.R_lit (Kd.int .i64) _ 3 ?hg (N:=61) ?hd (xs:=([x33_2]:List Int)) (inner:=[.int .i64 x33_2]) (ok:=fun _=>True) (okp:=fun _=>True) ?hr ?hp (fun _ hk=>hk) trivial (Below.refl _ _) (Nat.le_refl _) (by simp) ?_;(case hd=>rfl);(case hg=>rfl);(case hr=>first|(go_simp;done)|(go_simp;rfl));(case hp=>exact(Reps.one (show Kd.M (Kd.int .i64) _ _ _ x33_2 [.int .i64 x33_2] from rfl) (Reps.none _ _)));intro v146 w40 ho41 hb hg_ hnew_;clear hg_ hnew_;(first|rw[←Ny145.out] at ho41|(simp only[Int.reduceToNat] at ho41;rw[←Ny145.out] at ho41));have HO147:=A_ (Kd.R_lower (Kd.R_new' (Kd.R_new' ho41 (Kd.R_lt (kr_ HO_5.out))) (Kd.R_lt (kr_ HO141.out))) (below_size (bw HB.out)));replace HO_5:=A_ (Kd.R_elder' (kr_ HO_5.out) (Kd.R_base ho41) hb);replace HO_9:=A_ (Kd.S_elder' (ks_ HO_9.out) (Kd.R_base ho41) hb);replace HO141:=A_ (Kd.R_elder' (kr_ HO141.out) (Kd.R_base ho41) hb);replace HO144:=A_ (Kd.R_below (kr_ HO144.out) hb);replace BK138:=kb_ BK138 hb;replace HB:=bs_ HB hb;clear hb ho41;obtain⟨Ao43,co43,eo43⟩:=Kd.R_slice HO147.out;subst eo43)|((with_reducible refine gate_builtin (b:=.append) (xs:=#[.tmp 59,.tmp 62]) rfl ?_);(try (refine gate_guard (by rfl) ?_;dsimp only));at_builtin;refine Kd.S_append (Kd.slice 3 (Kd.int .i64)) (w0:=w) w.heap.size rfl (.tmp 59) (.tmp 62) 105 53 (.slice none 0 0) 24 rfl Try.underlying105 info53 rfl (by decide) (by omega) u9 x9_2 y145 [.slice Ao43 y145.length co43] (fun k_=>some k_≠(v126:Value).ownBlock∧some k_≠(v140:Value).ownBlock) (fun k_=>some k_=(.slice Ao43 y145.length co43:Value).ownBlock) rfl rfl ?aP (fun k_ hk_=>((Kd.R_mono (ok':=fun k_=>((fun k_=>some k_≠(v126:Value).ownBlock∧some k_≠(v140:Value).ownBlock)) k_∧some k_≠(u9:Value).ownBlock) (Kd.R_apart' (HO147.out) (Kd.S_typed HO_9.out) (by decide)) (fun k_ hk=>⟨⟨hk.1.1.2,hk.1.2⟩,hk.2⟩))).1 k_ hk_.symm) ?aF ?aO ?aB ?aS ?aL ?_;(case aP=>exact Kd.M_row (Kd.R_mono (Kd.R_tight rfl (Kd.R_mono (ok':=fun k_=>((fun k_=>some k_≠(v126:Value).ownBlock∧some k_≠(v140:Value).ownBlock)) k_∧some k_≠(u9:Value).ownBlock) (Kd.R_apart' (HO147.out) (Kd.S_typed HO_9.out) (by decide)) (fun k_ hk=>⟨⟨hk.1.1.2,hk.1.2⟩,hk.2⟩))) (fun _ h_=>h_)));(case aB=>exact(bw HB.out));(case aF=>exact(fun k_ hk=>⟨Kd.fresh' (Kd.R_lt (kr_ HO_5.out)) k_ hk,Kd.fresh' (Kd.R_lt (kr_ HO141.out)) k_ hk⟩));(case aO=>exact(by(with_reducible repeat (first|apply Kd.S_alloc|apply Kd.S_drewN|apply Kd.S_drew));exact Kd.S_mono HO_9.out (fun k_ hk=>⟨⟨hk.1.1,hk.1.2⟩,fun e_=>hk.2 e_⟩)));(case aS=>exact(below_size (bw HB.out)));(case aL=>have:=LMc35.out;omega);intro v149 w42 ho hb hg hat;rw[←Ny148.out] at ho;have HO150:=A_ (ho);replace HO_5:=A_ (Kd.R_over' (kr_ HO_5.out) (Kd.S_typed (ks_ HO_9.out)) (by decide) hg);replace BK138:=A_ (blk_grown (g:=gb138) (o:=.cells #[.int .i64 ((rd_T71 l0 x33_2).f0),.int .i64 ((rd_T71 l0 x33_2).f1)] 71 (0,0)) (bk BK138.out) hg (Kd.S_ne HO_9.out BK138.out (by decide)));replace HO141:=A_ (Kd.R_over' (kr_ HO141.out) (Kd.S_typed (ks_ HO_9.out)) (by decide) hg);replace HO144:=A_ (Kd.R_over' (kr_ HO144.out) (Kd.S_typed (ks_ HO_9.out)) (by decide) hg);replace HB:=A_ (hb);clear HO_9 HO147;clear ho hb hg hat;obtain⟨Ao44,co44,eo44⟩:=Kd.R_slice HO141.out;subst eo44))
                   go_roundg kj28
                   case measure=>have:=HJ1.out;have:=HK2.out;have:=HJ28.out;omega
                   case rel=>exact⟨(x5_2),((y139.length:Int)),(y139),(y142),(y148),(wrap64 (x33_2+1)),rs_,rs_,H',⟨by have:=HJ1.out;have:=HK2.out;have:=HJ28.out;omega⟩,⟨by (with_reducible repeat (first|apply Kd.R_alloc|apply Kd.R_drewN|apply Kd.R_drew));exact Kd.R_mono HO_5.out (fun _ hk=>hk.1.2)⟩,⟨by (with_reducible repeat (first|apply Kd.R_alloc|apply Kd.R_drewN|apply Kd.R_drew));exact Kd.R_mono HO141.out (fun _ hk=>hk.1)⟩,⟨kr_ HO144.out⟩,⟨ks_ HO150.out⟩,⟨bw HB.out⟩⟩
                  rw[if_neg c36] at H
                  have c36b0:=decide_eq_false c36
                  clear c36
                  have H':=A_ H
                  clear H
                  go_wp2_with (first|((with_reducible refine gate_builtin (b:=.append) (xs:=#[.tmp 49,.tmp 51]) rfl ?_);(try (refine gate_guard (by rfl) ?_;dsimp only));at_builtin;refine Kd.R_append (Kd.int .i64) (w0:=w) w.heap.size rfl (.tmp 49) (.tmp 51) 53 3 (.int .i64 0) 8 rfl Try.underlying53 info3 rfl (by decide) (by omega) (.slice Ao28 x7_2.length co28) x7_2 x33_2 [.int .i64 x33_2] (fun k_=>some k_≠(v126:Value).ownBlock) (fun _=>False) rfl rfl ?aP (fun _ hk=>hk.elim) ?aF ?aO ?aB ?aS ?aL ?_;(case aP=>exact rfl);(case aB=>exact(bw HB.out));(case aF=>exact(fun k_ hk=>Kd.fresh' (Kd.R_lt (kr_ HO_5.out)) k_ hk));(case aO=>exact(kr_ HO_7.out));(case aS=>exact(below_size (bw HB.out)));(case aL=>have:=LMc33.out;omega);intro v140 w45 ho hb hg hat;rw[←Ny139.out] at ho;have HO141:=A_ (ho);replace HO_5:=A_ (Kd.R_after (ok:=(fun _=>True)) (by(with_reducible repeat (first|apply Kd.R_alloc|apply Kd.R_drewN|apply Kd.R_drew));exact Kd.R_mono HO_5.out (fun _ hk=>⟨trivial,hk⟩)) hg hat);replace HO_8:=A_ (Kd.R_over' (kr_ HO_8.out) (Kd.R_typed (kr_ HO_7.out)) (by decide) hg);replace HO_9:=A_ (Kd.S_after (ok:=(fun k_=>some k_≠(v126:Value).ownBlock)) (ks_ HO_9.out) hg hat);replace BK138:=A_ (blk_grown (g:=gb138) (o:=.cells #[.int .i64 ((rd_T71 l0 x33_2).f0),.int .i64 ((rd_T71 l0 x33_2).f1)] 71 (0,0)) (bk BK138.out) hg (Kd.R_ne HO_7.out BK138.out (by decide)));replace HB:=A_ (hb);clear HO_7;clear ho hb hg hat;obtain⟨hcz46_0,hcz46_1⟩:=cs2_ BK138.out;obtain⟨hfz46_0,hfz46_1⟩:=fz2_ BK138.out)|((with_reducible refine gate_builtin (b:=.append) (xs:=#[.tmp 53,.tmp 57]) rfl ?_);(try (refine gate_guard (by rfl) ?_;dsimp only));at_builtin;refine Kd.R_append Kd.bool (w0:=w) w.heap.size rfl (.tmp 53) (.tmp 57) 104 4 (.bool false) 1 rfl Try.underlying104 info4 rfl (by decide) (by omega) u8 x8_2 (((rd_T71 l0 x33_2).f0) !=4) [.bool (((rd_T71 l0 x33_2).f0) !=4)] (fun _=>True) (fun _=>False) rfl rfl ?aP (fun _ hk=>hk.elim) ?aF ?aO ?aB ?aS ?aL ?_;(case aP=>exact rfl);(case aB=>exact(bw HB.out));(case aF=>exact(fun _ _=>trivial));(case aO=>exact(kr_ HO_8.out));(case aS=>exact(below_size (bw HB.out)));(case aL=>have:=LMc34.out;omega);intro v143 w47 ho hb hg hat;rw[←Ny142.out] at ho;have HO144:=A_ (ho);replace HO_5:=A_ (Kd.R_over' (kr_ HO_5.out) (Kd.R_typed (kr_ HO_8.out)) (by decide) hg);replace HO_9:=A_ (Kd.S_over' (ks_ HO_9.out) (Kd.R_typed (kr_ HO_8.out)) (by decide) hg);replace BK138:=A_ (blk_grown (g:=gb138) (o:=.cells #[.int .i64 ((rd_T71 l0 x33_2).f0),.int .i64 ((rd_T71 l0 x33_2).f1)] 71 (0,0)) (bk BK138.out) hg (Kd.R_ne HO_8.out BK138.out (by decide)));replace HO141:=A_ (Kd.R_over' (kr_ HO141.out) (Kd.R_typed (kr_ HO_8.out)) (by decide) hg);replace HB:=A_ (hb);clear HO_8;clear ho hb hg hat)|((with_reducible refine gd_ 61 rfl ?_);(try (refine gate_guard (by rfl) ?_;dsimp only));refine Kd.R_lit (Kd.int .i64) _ 3 ?hg (N:=61) ?hd (xs:=([x33_2]:List Int)) (inner:=[.int .i64 x33_2]) (ok:=fun _=>True) (okp:=fun _=>True) ?hr ?hp (fun _ hk=>hk) trivial (Below.refl _ _) (Nat.le_refl _) (by simp) ?_;(case hd=>rfl);(case hg=>rfl);(case hr=>first|(go_simp;done)|(go_simp;rfl));(case hp=>exact(Reps.one (show Kd.M (Kd.int .i64) _ _ _ x33_2 [.int .i64 x33_2] from rfl) (Reps.none _ _)));intro v146 w48 ho49 hb hg_ hnew_;clear hg_ hnew_;(first|rw[←Ny145.out] at ho49|(simp only[Int.reduceToNat] at ho49;rw[←Ny145.out] at ho49));have HO147:=A_ (Kd.R_lower (Kd.R_new' (Kd.R_new' ho49 (Kd.R_lt (kr_ HO_5.out))) (Kd.R_lt (kr_ HO141.out))) (below_size (bw HB.out)));replace HO_5:=A_ (Kd.R_elder' (kr_ HO_5.out) (Kd.R_base ho49) hb);replace HO_9:=A_ (Kd.S_elder' (ks_ HO_9.out) (Kd.R_base ho49) hb);replace HO141:=A_ (Kd.R_elder' (kr_ HO141.out) (Kd.R_base ho49) hb);replace HO144:=A_ (Kd.R_below (kr_ HO144.out) hb);replace BK138:=kb_ BK138 hb;replace HB:=bs_ HB hb;clear hb ho49;obtain⟨Ao51,co51,eo51⟩:=Kd.R_slice HO147.out;subst eo51)|((with_reducible refine gate_builtin (b:=.append) (xs:=#[.tmp 59,.tmp 62]) rfl ?_);(try (refine gate_guard (by rfl) ?_;dsimp only));at_builtin;refine Kd.S_append (Kd.slice 3 (Kd.int .i64)) (w0:=w) w.heap.size rfl (.tmp 59) (.tmp 62) 105 53 (.slice none 0 0) 24 rfl Try.underlying105 info53 rfl (by decide) (by omega) u9 x9_2 y145 [.slice Ao51 y145.length co51] (fun k_=>some k_≠(v126:Value).ownBlock∧some k_≠(v140:Value).ownBlock) (fun k_=>some k_=(.slice Ao51 y145.length co51:Value).ownBlock) rfl rfl ?aP (fun k_ hk_=>((Kd.R_mono (ok':=fun k_=>((fun k_=>some k_≠(v126:Value).ownBlock∧some k_≠(v140:Value).ownBlock)) k_∧some k_≠(u9:Value).ownBlock) (Kd.R_apart' (HO147.out) (Kd.S_typed HO_9.out) (by decide)) (fun k_ hk=>⟨⟨hk.1.1.2,hk.1.2⟩,hk.2⟩))).1 k_ hk_.symm) ?aF ?aO ?aB ?aS ?aL ?_;(case aP=>exact Kd.M_row (Kd.R_mono (Kd.R_tight rfl (Kd.R_mono (ok':=fun k_=>((fun k_=>some k_≠(v126:Value).ownBlock∧some k_≠(v140:Value).ownBlock)) k_∧some k_≠(u9:Value).ownBlock) (Kd.R_apart' (HO147.out) (Kd.S_typed HO_9.out) (by decide)) (fun k_ hk=>⟨⟨hk.1.1.2,hk.1.2⟩,hk.2⟩))) (fun _ h_=>h_)));(case aB=>exact(bw HB.out));(case aF=>exact(fun k_ hk=>⟨Kd.fresh' (Kd.R_lt (kr_ HO_5.out)) k_ hk,Kd.fresh' (Kd.R_lt (kr_ HO141.out)) k_ hk⟩));(case aO=>exact(by(with_reducible repeat (first|apply Kd.S_alloc|apply Kd.S_drewN|apply Kd.S_drew));exact Kd.S_mono HO_9.out (fun k_ hk=>⟨⟨hk.1.1,hk.1.2⟩,fun e_=>hk.2 e_⟩)));(case aS=>exact(below_size (bw HB.out)));(case aL=>have:=LMc35.out;omega);intro v149 w50 ho hb hg hat;rw[←Ny148.out] at ho;have HO150:=A_ (ho);replace HO_5:=A_ (Kd.R_over' (kr_ HO_5.out) (Kd.S_typed (ks_ HO_9.out)) (by decide) hg);replace BK138:=A_ (blk_grown (g:=gb138) (o:=.cells #[.int .i64 ((rd_T71 l0 x33_2).f0),.int .i64 ((rd_T71 l0 x33_2).f1)] 71 (0,0)) (bk BK138.out) hg (Kd.S_ne HO_9.out BK138.out (by decide)));replace HO141:=A_ (Kd.R_over' (kr_ HO141.out) (Kd.S_typed (ks_ HO_9.out)) (by decide) hg);replace HO144:=A_ (Kd.R_over' (kr_ HO144.out) (Kd.S_typed (ks_ HO_9.out)) (by decide) hg);replace HB:=A_ (hb);clear HO_9 HO147;clear ho hb hg hat;obtain⟨Ao52,co52,eo52⟩:=Kd.R_slice HO141.out;subst eo52))
                  go_roundg kj28
                  case measure=>have:=HJ1.out;have:=HK2.out;have:=HJ28.out;omega
                  case rel=>exact⟨(x5_2),(x6_2),(y139),(y142),(y148),(wrap64 (x33_2+1)),rs_,rs_,H',⟨by have:=HJ1.out;have:=HK2.out;have:=HJ28.out;omega⟩,⟨by (with_reducible repeat (first|apply Kd.R_alloc|apply Kd.R_drewN|apply Kd.R_drew));exact Kd.R_mono HO_5.out (fun _ hk=>hk.1.2)⟩,⟨by (with_reducible repeat (first|apply Kd.R_alloc|apply Kd.R_drewN|apply Kd.R_drew));exact Kd.R_mono HO141.out (fun _ hk=>hk.1)⟩,⟨kr_ HO144.out⟩,⟨ks_ HO150.out⟩,⟨bw HB.out⟩⟩
                 rw[if_neg c35] at H
                 exact absurd H (by simp)
                rw[if_neg c34] at H
                exact absurd H (by simp)
               rw[if_neg c33] at H
               exact absurd H (by simp)
              replace c32:=Bool.eq_false_iff.mpr c32
              subst c32
              replace H:=iF_ H
              by_cases c53:((rd_T71 l0 x33_2).f0)=5
              ·
               rw[if_pos c53] at H
               obtain⟨c53b0,c53b1⟩:=eT_ c53
               clear c53
               obtain⟨ji54,hji54⟩:∃ j_:Int,(wrap64 ((x7_2.length:Int) - 1))=j_:=⟨_,rfl⟩
               replace H:(if 0≤(ji54) then (if (ji54)<(x8_2.length:Int) then (if rdOf false x8_2 (ji54)=true then (some (([]:List Int),0,false)) else (spec_l6Ends.j3 kj28 x5_2 x6_2 x7_2 (x8_2.set ((ji54):Int).toNat true) x9_2 x33_2 (ji54) l0 (l0.length:Int) x33_2 ((rd_T71 l0 x33_2).f0) ((rd_T71 l0 x33_2).f1))) else (none)) else (none))=some (r1,r2,r3):=by first|(rw[hji54] at H;exact H)|(simp only[hji54] at H ⊢;exact H)
               (try rw[hji54] at c21b0)
               have hji54w:(IntKind.i64.wrap ((x7_2.length:Int) - 1))=ji54:=(i64_w _).trans hji54
               by_cases c55:0≤(ji54)
               ·
                rw[if_pos c55] at H
                have c55b0:=decide_eq_true c55
                clear c55
                by_cases c56:(ji54)<(x8_2.length:Int)
                ·
                 rw[if_pos c56] at H
                 have c56b0:=decide_eq_true c56
                 clear c56
                 obtain⟨bq57,hbq57⟩:∃ b_:Bool,b_=(rdOf false x8_2 (ji54)):=⟨_,rfl⟩
                 replace H:(if bq57=true then (some (([]:List Int),0,false)) else (spec_l6Ends.j3 kj28 x5_2 x6_2 x7_2 (x8_2.set ((ji54):Int).toNat true) x9_2 x33_2 (ji54) l0 (l0.length:Int) x33_2 ((rd_T71 l0 x33_2).f0) ((rd_T71 l0 x33_2).f1)))=some (r1,r2,r3):=by rw[←hbq57] at H;exact H
                 have Nbq57:=A_ hbq57
                 clear hbq57
                 by_cases c58:bq57=true
                 ·
                  subst c58
                  replace H:=iT_ H
                  simp only[Option.some.injEq,Prod.mk.injEq] at H
                  obtain⟨rfl,rfl,rfl⟩:=H
                  obtain⟨Ao59,co59,eo59⟩:=Kd.R_slice HO_8.out
                  subst eo59
                  have p151:0≤((ji54):Int):=od_
                  have q151:(ji54)<(x8_2.length:Int):=od_
                  obtain⟨ad151,e151,hx151_0⟩:=Kd.at_bool (Kd.R_reads' HO_8.out).2.2 (ji54) p151 q151
                  (try rw[←Nbq57.out] at hx151_0)
                  cases e151
                  replace p151:=eq_true p151
                  replace q151:=eq_true q151
                  go_wp2
                  go_ret3
                  exact⟨_,by first|rfl|(simp[errW_none,errW_some]<;>rfl)|(simp only[←hji54];first|rfl|(simp[errW_none,errW_some]<;>rfl))|(simp[*,errW_none,errW_some]<;>rfl),by first|exact Kd.R_nil _ _ _ _ _|exact Kd.N_nil _ _ _ _ _|exact Kd.V_nil _ _ _ _ _|exact Kd.Q_nil _ _ _ _ _|exact Kd.S_nil _ _ _ _ _,bw HB.out⟩
                 replace c58:=Bool.eq_false_iff.mpr c58
                 subst c58
                 replace H:=iF_ H
                 obtain⟨y152,hy152⟩:∃ y_:List Bool,y_=(x8_2.set ((ji54):Int).toNat true):=⟨_,rfl⟩
                 replace H:(spec_l6Ends.j3 kj28 x5_2 x6_2 x7_2 y152 x9_2 x33_2 (ji54) l0 (l0.length:Int) x33_2 ((rd_T71 l0 x33_2).f0) ((rd_T71 l0 x33_2).f1))=some (r1,r2,r3):=by first|(rw[hy152];with_reducible exact H)|(have H2_:=(Option.bind_some _ _).symm.trans H;rw[hy152];with_reducible exact H2_)|(have H2_:=(Option.bind_some _ _).symm.trans H;with_reducible exact H2_)|with_reducible exact H|(rw[hy152];exact H)|exact H
                 have Ny152:=A_ hy152
                 clear hy152
                 have H':=A_ H
                 clear H
                 obtain⟨Ao61,co61,eo61⟩:=Kd.R_slice HO_8.out
                 subst eo61
                 have p151:0≤((ji54):Int):=od_
                 have q151:(ji54)<(x8_2.length:Int):=od_
                 obtain⟨ad151,e151,hx151_0⟩:=Kd.at_bool (Kd.R_reads' HO_8.out).2.2 (ji54) p151 q151
                 (try rw[←Nbq57.out] at hx151_0)
                 cases e151
                 replace p151:=eq_true p151
                 replace q151:=eq_true q151
                 have p60:0≤((ji54):Int):=od_
                 have q60:((ji54):Int)<((x8_2.length:Int):Int):=od_
                 obtain⟨go60,co60,eo60,gb60,gl60,cl60,HG60⟩:=Kd.R_form HO_8.out (by omega)
                 (first|cases eo60|(injection eo60 with ea_ en_ ec_;(first|subst ea_|(injection ea_ with ea_;subst ea_));subst ec_;clear en_))
                 have GB60:=A_ gb60
                 have GG60:=A_ HG60
                 clear gb60 gl60 HG60
                 (first|simp only[add_plain] at hx151_0|skip)
                 obtain⟨hx60_0,hf60_0⟩:=Kd.R_celln false HO_8.out ((ji54):Int) p60 q60
                 replace p60:=eq_true p60
                 replace q60:=eq_true q60
                 have HP62:=Kd.R_putg HO_8.out ((ji54):Int) true
                 go_wp2_with (first|((with_reducible refine gate_store (t:=4) (p:=78) rfl ?_);refine store_event (t:=4) (p:=78) (v:=?vo_w63) (w1:=(wc.setCell ⟨go60,((ji54):Int).toNat,none⟩ (.bool true))) ?hg ?ho ?hn ?hr ?_;(case ho=>rfl);(case hg=>rfl);(case hn=>rfl);(case hr=>first|(go_simp;done)|(go_simp;rfl));intro w63 hw;have hg:wc.grownBy w63 (some go60):=(by rw[hw];exact HP62.2);have hp_:Kd.R Kd.bool 4 w63 w.heap.size (fun _=>True) (.slice (some ⟨go60,0,none⟩) x8_2.length co61) y152:=(by rw[hw,Ny152.out];exact HP62.1);clear HP62;replace HO_5:=A_ (Kd.R_over' (v:=(.slice (some ⟨go60,0,none⟩) x8_2.length co61)) (kr_ HO_5.out) (Kd.R_typed HO_8.out) (by decide) hg);replace HO_7:=A_ (Kd.R_over' (v:=(.slice (some ⟨go60,0,none⟩) x8_2.length co61)) (kr_ HO_7.out) (Kd.R_typed HO_8.out) (by decide) hg);replace HO_9:=A_ (Kd.S_over' (v:=(.slice (some ⟨go60,0,none⟩) x8_2.length co61)) (ks_ HO_9.out) (Kd.R_typed HO_8.out) (by decide) hg);replace BK138:=A_ (blk_grown (g:=gb138) (o:=.cells #[.int .i64 ((rd_T71 l0 x33_2).f0),.int .i64 ((rd_T71 l0 x33_2).f1)] 71 (0,0)) (bk BK138.out) hg (Kd.R_ne HO_8.out BK138.out (by decide)));replace HO_8:=A_ (hp_);replace HB:=A_ ((by rw[hw];exact below_set (HB.out) GB60.out:Below w.heap.size w w63));clear hg hw hp_))
                 first|go_meet|((simp only[←hji54]);go_meet)
                 case rel=>exact⟨kj28,(x6_2),(x7_2),(y152),(x9_2),rs_,(by rw[hji54];exact H'),⟨by have:=HJ1.out;have:=HK2.out;have:=HJ28.out;first|omega|exact Nat.le_refl _⟩,⟨kr_ HO_5.out⟩,⟨kr_ HO_7.out⟩,⟨kr_ HO_8.out⟩,⟨ks_ HO_9.out⟩,⟨bk BK138.out⟩,⟨bw HB.out⟩⟩
                rw[if_neg c56] at H
                exact absurd H (by simp)
               rw[if_neg c55] at H
               exact absurd H (by simp)
              rw[if_neg c53] at H
              obtain⟨c53b0,c53b1⟩:=eF_ c53
              have H':=A_ H
              clear H
              go_wp2
              go_meet
              case rel=>exact⟨_,(x6_2),(x7_2),(x8_2),(x9_2),rs_,H',⟨by have:=HJ1.out;have:=HK2.out;have:=HJ28.out;first|omega|exact Nat.le_refl _⟩,⟨kr_ HO_5.out⟩,⟨kr_ HO_7.out⟩,⟨kr_ HO_8.out⟩,⟨ks_ HO_9.out⟩,⟨bk BK138.out⟩,⟨bw HB.out⟩⟩
           case rest=>
            clear HC25
            try clear c7 c8 c8b0 c8b1 c9 c9b0 c9b1 c10 c18 c18b0 c19 c19b0 c20 c20b0 c21 c21b0 hcz27_0 hcz27_1 hfz27_0 hfz27_1 hx137_0 hx137_1 p137 q137
            obtain⟨kq,x6_24,x7_24,x8_24,x9_24,rfl,HA,HJ24,HO_5,HO_7,HO_8,HO_9,BK138,HB⟩:=hcut
            cases kq with
            |zero=>exact absurd HA.out (by simp[spec_l6Ends.j3])
            |succ kj24=>
             have H:=HA.out
             clear HA
             simp only[spec_l6Ends.j3] at H
             obtain⟨ji64,hji64⟩:∃ j_:Int,(wrap64 ((x7_2.length:Int) - 1))=j_:=⟨_,rfl⟩
             replace H:(if 0≤(ji64) then (if (ji64)<(x9_24.length:Int) then (if (rd_L2 x9_24 (ji64)).length<17592186044416 then ((some (x9_24.set ((ji64):Int).toNat ((rd_L2 x9_24 (ji64))++[x33_2]):List (List Int))).bind fun y157=>(if ((rd_T71 l0 x33_2).f0)=11 then (spec_l6Ends.l1 kj24 x5_2 x6_24 x7_24 x8_24 y157 x33_2 (ji64) l0 (l0.length:Int) x33_2 (rd_L2 y157 (ji64)) ((rd_L2 y157 (ji64)).length:Int) 0) else (spec_l6Ends.l0 kj24 x5_2 x6_24 x7_24 x8_24 y157 l0 (l0.length:Int) (wrap64 (x33_2+1))))) else (none)) else (none)) else (none))=some (r1,r2,r3):=by first|(rw[hji64] at H;exact H)|(simp only[hji64] at H ⊢;exact H)
             (try rw[hji64] at c21b0)
             have hji64w:(IntKind.i64.wrap ((x7_2.length:Int) - 1))=ji64:=(i64_w _).trans hji64
             by_cases c65:0≤(ji64)
             ·
              rw[if_pos c65] at H
              have c65b0:=decide_eq_true c65
              clear c65
              by_cases c66:(ji64)<(x9_24.length:Int)
              ·
               rw[if_pos c66] at H
               have c66b0:=decide_eq_true c66
               clear c66
               by_cases c67:(rd_L2 x9_24 (ji64)).length<17592186044416
               ·
                rw[if_pos c67] at H
                have LMc67:=A_ c67
                clear c67
                obtain⟨y154,hy154⟩:∃ y_:List Int,y_=((rd_L2 x9_24 (ji64))++[x33_2]):=⟨_,rfl⟩
                replace H:((some (x9_24.set ((ji64):Int).toNat y154:List (List Int))).bind fun y157=>(if ((rd_T71 l0 x33_2).f0)=11 then (spec_l6Ends.l1 kj24 x5_2 x6_24 x7_24 x8_24 y157 x33_2 (ji64) l0 (l0.length:Int) x33_2 (rd_L2 y157 (ji64)) ((rd_L2 y157 (ji64)).length:Int) 0) else (spec_l6Ends.l0 kj24 x5_2 x6_24 x7_24 x8_24 y157 l0 (l0.length:Int) (wrap64 (x33_2+1)))))=some (r1,r2,r3):=by first|(rw[hy154];with_reducible exact H)|(have H2_:=(Option.bind_some _ _).symm.trans H;rw[hy154];with_reducible exact H2_)|(have H2_:=(Option.bind_some _ _).symm.trans H;with_reducible exact H2_)|with_reducible exact H|(rw[hy154];exact H)|exact H
                have Ny154:=A_ hy154
                clear hy154
                obtain⟨y157,hy157⟩:∃ y_:List (List Int),y_=(x9_24.set ((ji64):Int).toNat y154):=⟨_,rfl⟩
                replace H:(if ((rd_T71 l0 x33_2).f0)=11 then (spec_l6Ends.l1 kj24 x5_2 x6_24 x7_24 x8_24 y157 x33_2 (ji64) l0 (l0.length:Int) x33_2 (rd_L2 y157 (ji64)) ((rd_L2 y157 (ji64)).length:Int) 0) else (spec_l6Ends.l0 kj24 x5_2 x6_24 x7_24 x8_24 y157 l0 (l0.length:Int) (wrap64 (x33_2+1))))=some (r1,r2,r3):=by first|(rw[hy157];with_reducible exact H)|(have H2_:=(Option.bind_some _ _).symm.trans H;rw[hy157];with_reducible exact H2_)|(have H2_:=(Option.bind_some _ _).symm.trans H;with_reducible exact H2_)|with_reducible exact H|(rw[hy157];exact H)|exact H
                have Ny157:=A_ hy157
                clear hy157
                by_cases c69:((rd_T71 l0 x33_2).f0)=11
                ·
                 rw[if_pos c69] at H
                 obtain⟨c69b0,c69b1⟩:=eT_ c69
                 clear c69
                 have H':=A_ H
                 clear H
                 obtain⟨Ao70,co70,eo70⟩:=Kd.S_slice HO_9.out
                 subst eo70
                 have p153:0≤((ji64):Int):=od_
                 have q153:(ji64)<(x9_24.length:Int):=od_
                 obtain⟨ad153,A153_0,c153_0,e153,hx153_0,hl153_0,hi153_0⟩:=at_L2 (Kd.S_reads' HO_9.out).2.2 (ji64) p153 q153
                 cases e153
                 obtain⟨ce153,hce153,hMe153,hcc153⟩:=Kd.S_get HO_9.out [] (ji64) p153 (by first|exact q153|exact od_|(have e_:=(Kd.S_reads' HO_9.out).1;omega))
                 obtain⟨ve153_0,rfl,ge153_0⟩:=hMe153
                 have hv153_0:=hcc153 0 _ rfl
                 rw[Nat.add_zero,show ((Kd.slice 3 (Kd.int .i64))).sz=1 from rfl,Nat.mul_one] at hv153_0
                 replace hv153_0:=Option.some.inj (hv153_0.symm.trans hx153_0)
                 rw[hv153_0] at ge153_0
                 have HL153_0:=A_ (show Kd.R (Kd.int .i64) 3 _ _ _ _ (rd_L2 x9_24 (ji64)) from ge153_0)
                 clear hv153_0 ge153_0
                 have HX153_0:=A_ hx153_0
                 clear hcc153 hce153
                 have HR153_0:=A_ hi153_0
                 have HC153_0:=A_ hl153_0
                 clear hi153_0 hl153_0
                 replace p153:=eq_true p153
                 replace q153:=eq_true q153
                 obtain⟨go71,co71,eo71,gb71,gl71,cl71,HG71⟩:=Kd.S_form HO_9.out (by have h_:((ji64):Int)<((x9_24.length:Int):Int):=od_;have h2_:0≤((ji64):Int):=(od_);omega)
                 (first|cases eo71|(injection eo71 with ea_ en_ ec_;(first|subst ea_|(injection ea_ with ea_;subst ea_));subst ec_;clear en_))
                 have GB71:=A_ gb71
                 have GG71:=A_ HG71
                 clear gb71 gl71 HG71
                 (first|simp only[add_plain] at hx153_0|skip)
                 obtain⟨oki71,ce71,hcl71,hM71,hcc71,_,_,hH71⟩:=Kd.S_elem HO_9.out [] ((ji64):Int) (od_) (by have h_:((ji64):Int)<((x9_24.length:Int):Int):=od_;first|exact h_|(have e_:=(Kd.S_reads' HO_9.out).1;omega)|simpa using h_)
                 obtain⟨ve71_0,rfl,ge71_0⟩:=hM71
                 have hv71:=hcc71 0 _ rfl
                 have hX71:=HX153_0.out
                 (try simp only[add_plain] at hX71)
                 (try simp only[Nat.add_zero] at hv71)
                 (try rw[show ((Kd.slice 3 (Kd.int .i64))).sz=1 from rfl,Nat.mul_one] at hv71)
                 replace hv71:=Option.some.inj (hv71.symm.trans hX71)
                 subst hv71
                 clear hX71 hcc71 hcl71
                 have UU71:=A_ (show Kd.R (Kd.int .i64) 3 _ w.heap.size oki71 (.slice A153_0 (rd_L2 x9_24 (ji64)).length c153_0) (rd_L2 x9_24 (ji64)) from ge71_0)
                 have HH71:=A_ hH71
                 have HN71:=A_ (Kd.S_reads' HO_9.out).1
                 clear hH71 ge71_0
                 go_wp2_with (first|((with_reducible refine gate_builtin (b:=.append) (xs:=#[.tmp 84,.tmp 86]) rfl ?_);(try (refine gate_guard (by rfl) ?_;dsimp only));at_builtin;refine Kd.R_append (Kd.int .i64) (w0:=w) w.heap.size rfl (.tmp 84) (.tmp 86) 53 3 (.int .i64 0) 8 rfl Try.underlying53 info3 rfl (by decide) (by omega) (.slice A153_0 (rd_L2 x9_24 (ji64)).length c153_0) (rd_L2 x9_24 (ji64)) x33_2 [.int .i64 x33_2] (fun k_=>oki71 k_∨((fun k_=>some k_≠(v126:Value).ownBlock∧some k_≠(u7:Value).ownBlock)) k_∧wc.heap.size≤k_) (fun _=>False) rfl rfl ?aP (fun _ hk=>hk.elim) ?aF ?aO ?aB ?aS ?aL ?_;(case aP=>exact rfl);(case aB=>exact(bw HB.out));(case aF=>exact(fun k_ hk=>.inr ⟨⟨Kd.fresh' (Kd.R_lt (kr_ HO_5.out)) k_ hk,Kd.fresh' (Kd.R_lt (kr_ HO_7.out)) k_ hk⟩,hk⟩));(case aO=>exact(by(with_reducible repeat (first|apply Kd.R_alloc|apply Kd.R_drewN|apply Kd.R_drew));exact Kd.R_mono UU71.out (fun _ hk=>.inl hk)));(case aS=>exact(below_size (bw HB.out)));(case aL=>have:=LMc67.out;omega);intro v155 w72 ho hb hg hat;rw[←Ny154.out] at ho;have HO156:=A_ (ho);replace HO_5:=A_ (Kd.R_grown2 (kr_ HO_5.out) rfl hg (fun k_ e_=>(HL153_0.out.1 k_ e_).1.1));replace HO_7:=A_ (Kd.R_grown2 (kr_ HO_7.out) rfl hg (fun k_ e_=>(HL153_0.out.1 k_ e_).1.2));replace HO_8:=A_ (Kd.R_over' (v:=(.slice A153_0 (rd_L2 x9_24 (ji64)).length c153_0)) (kr_ HO_8.out) (Kd.R_typed HL153_0.out) (by decide) hg);replace BK138:=A_ (blk_grown (g:=gb138) (o:=.cells #[.int .i64 ((rd_T71 l0 x33_2).f0),.int .i64 ((rd_T71 l0 x33_2).f1)] 71 (0,0)) (bk BK138.out) hg (Kd.R_ne HL153_0.out BK138.out (by decide)));replace HB:=A_ (hb);replace HH71:=A_ (Kd.H_grown (Kd.H_widen (by repeat (first|exact HH71.out|refine Kd.H_alloc ?_ _|refine Kd.H_drewN ?_ _|refine Kd.H_drew ?_))) hg (fun k_ e_=>.inl (UU71.out.1 k_ e_)));clear HO_9 UU71 HL153_0;clear ho hb hg hat;have p68:0≤((ji64):Int):=od_;have q68:((ji64):Int)<((x9_24.length:Int):Int):=od_;replace p68:=eq_true p68;replace q68:=eq_true q68;obtain⟨Ao75,co75,eo75⟩:=Kd.R_slice HO156.out;subst eo75;obtain⟨_,_,hraw73,_,_,hcc73,_⟩:=Kd.H_raw HH71.out (od_) (by have h_:((ji64):Int)<((x9_24.length:Int):Int):=od_;first|exact h_|(have e_:=(HN71.out);omega)|simpa using h_);obtain⟨_,hfr73⟩:=Kd.H_at HH71.out (od_) (by have h_:((ji64):Int)<((x9_24.length:Int):Int):=od_;first|exact h_|(have e_:=(HN71.out);omega)|simpa using h_);have hx73_0:=hcc73 0 _ rfl;have hf73_0:=hfr73 0;(try simp only[Nat.add_zero] at hx73_0 hf73_0);(try rw[show ((Kd.slice 3 (Kd.int .i64))).sz=1 from rfl,Nat.mul_one] at hx73_0);(try rw[show ((Kd.slice 3 (Kd.int .i64))).sz=1 from rfl,Nat.mul_one] at hf73_0);have HP73:=Kd.S_seg0 HH71.out (od_) (by have h_:((ji64):Int)<((x9_24.length:Int):Int):=od_;first|exact h_|(have e_:=(HN71.out);omega)|simpa using h_) (seg:=[.slice Ao75 y154.length co75]) (j:=0) (show 1≤1 from by decide) (x':=y154) (Kd.M_row HO156.out) (fun _ hk=>hk);(try simp only[show ((Kd.slice 3 (Kd.int .i64))).sz=1 from rfl,Nat.mul_one,Nat.add_zero] at HP73);clear hcc73 hfr73)|((with_reducible refine gate_store (t:=53) (p:=88) rfl ?_);refine store_event (t:=53) (p:=88) (v:=?vo_w74) (w1:=(w72.setCell ⟨go71,((ji64):Int).toNat,none⟩ (.slice Ao75 y154.length co75))) ?hg ?ho ?hn ?hr ?_;(case ho=>rfl);(case hg=>rfl);(case hn=>rfl);(case hr=>first|(go_simp;done)|(go_simp;rfl));intro w74 hw;have hg:w72.grownBy w74 (some go71):=(by rw[hw];exact HP73.2);have hp_:Kd.S (Kd.slice 3 (Kd.int .i64)) 53 w74 w.heap.size (fun k_=>some k_≠(v126:Value).ownBlock∧some k_≠(u7:Value).ownBlock) (.slice (some ⟨go71,0,none⟩) x9_24.length co70) y157:=(by rw[hw,Ny157.out];exact HP73.1);clear HP73;have HO_9:=A_ (hp_);replace HO_5:=A_ (Kd.R_over' (v:=(.slice (some ⟨go71,0,none⟩) x9_24.length co70)) (kr_ HO_5.out) (Kd.R_typed hraw73) (by decide) hg);replace HO_7:=A_ (Kd.R_over' (v:=(.slice (some ⟨go71,0,none⟩) x9_24.length co70)) (kr_ HO_7.out) (Kd.R_typed hraw73) (by decide) hg);replace HO_8:=A_ (Kd.R_over' (v:=(.slice (some ⟨go71,0,none⟩) x9_24.length co70)) (kr_ HO_8.out) (Kd.R_typed hraw73) (by decide) hg);replace BK138:=A_ (blk_grown (g:=gb138) (o:=.cells #[.int .i64 ((rd_T71 l0 x33_2).f0),.int .i64 ((rd_T71 l0 x33_2).f1)] 71 (0,0)) (bk BK138.out) hg (Kd.R_ne hraw73 BK138.out (by decide)));replace HB:=A_ ((by rw[hw];exact below_set HB.out GB71.out:Below w.heap.size w w74));clear HO156 HH71;clear hg hw hp_ hraw73;obtain⟨hcz76_0,hcz76_1⟩:=cs2_ BK138.out;obtain⟨hfz76_0,hfz76_1⟩:=fz2_ BK138.out;have p158:0≤((ji64):Int):=od_;have q158:(ji64)<(y157.length:Int):=(by have h_:((ji64):Int)<((x9_24.length:Int):Int):=od_;first|(have e_:=(Kd.S_reads' HO_9.out).1;omega)|simpa only [Ny157.out,List.length_set] using h_);have ql158:(((ji64):Int)<((x9_24.length:Int):Int))=True:=eq_true (od_);obtain⟨ad158,A158_0,c158_0,e158,hx158_0,hl158_0,hi158_0⟩:=at_L2 (Kd.S_reads' HO_9.out).2.2 (ji64) p158 q158;obtain rfl:(⟨go71,0,none⟩:Addr)=ad158:=(by injection e158);obtain⟨ce158,hce158,hMe158,hcc158⟩:=Kd.S_get HO_9.out [] (ji64) p158 (by first|exact q158|exact od_|(have e_:=(Kd.S_reads' HO_9.out).1;omega));obtain⟨ve158_0,rfl,ge158_0⟩:=hMe158;have hv158_0:=hcc158 0 _ rfl;rw[Nat.add_zero,show ((Kd.slice 3 (Kd.int .i64))).sz=1 from rfl,Nat.mul_one] at hv158_0;replace hv158_0:=Option.some.inj (hv158_0.symm.trans hx158_0);rw[hv158_0] at ge158_0;have HL158_0:=A_ (show Kd.R (Kd.int .i64) 3 _ _ _ _ (rd_L2 y157 (ji64)) from ge158_0);clear hv158_0 ge158_0;have HX158_0:=A_ hx158_0;clear hcc158 hce158;(first|simp only[add_plain] at hx158_0|simp only[add_at] at hx158_0|simp only[Addr.add,Nat.zero_add] at hx158_0|skip);have HR158_0:=A_ hi158_0;have HC158_0:=A_ hl158_0;clear hi158_0 hl158_0;replace p158:=eq_true p158;replace q158:=eq_true q158))
                 (try simp only[Act.put,List.setIfInBounds_toArray,List.set_cons_zero,List.set_cons_succ])
                 go_loopg [97] kj24 (fun kq v97 w'=>∃ (x5_4:List Int) (x97_4:Int),v97=.int .i64 x97_4∧Aside0 (spec_l6Ends.l1 kq x5_4 x6_24 x7_24 x8_24 y157 x33_2 (ji64) l0 (l0.length:Int) x33_2 (rd_L2 y157 (ji64)) ((rd_L2 y157 (ji64)).length:Int) x97_4=some (r1,r2,r3))∧Aside0 (kq≤kj24)∧Aside0 (Kd.R (Kd.int .i64) 3 w' w.heap.size (fun k_=>some k_≠(u7:Value).ownBlock) v126 x5_4)∧Aside0 (Kd.R (Kd.int .i64) 3 w' w.heap.size (fun k_=>some k_≠(v126:Value).ownBlock) u7 x7_24)∧Aside0 (Kd.R Kd.bool 4 w' w.heap.size (fun _=>True) u8 x8_24)∧Aside0 (Kd.S (Kd.slice 3 (Kd.int .i64)) 53 w' w.heap.size (fun k_=>some k_≠(v126:Value).ownBlock∧some k_≠(u7:Value).ownBlock) (.slice (some ⟨go71,0,none⟩) x9_24.length co70) y157)∧Aside0 (w'.heap[gb138]? =some (.cells #[.int .i64 ((rd_T71 l0 x33_2).f0),.int .i64 ((rd_T71 l0 x33_2).f1)] 71 (0,0)))∧Aside0 (Below w.heap.size w w')∧Aside0 (Kd.R (Kd.int .i64) 3 w' w.heap.size (fun k_=>some k_≠(v126:Value).ownBlock) (.slice A158_0 (rd_L2 y157 (ji64)).length c158_0) (rd_L2 y157 (ji64))))
                 case atStart=>exact⟨(x5_2),(0),rs_,H',⟨Nat.le_refl _⟩,⟨kr_ HO_5.out⟩,⟨kr_ HO_7.out⟩,⟨kr_ HO_8.out⟩,⟨ks_ HO_9.out⟩,⟨bk BK138.out⟩,⟨bw HB.out⟩,⟨Kd.R_mono HL158_0.out (fun _ hk=>hk.1.1)⟩⟩
                 case round=>
                  clear H'
                  try clear c7 c8 c8b0 c8b1 c9 c9b0 c9b1 c10 c18 c18b0 c19 c19b0 c20 c20b0 c21 c21b0 c65 c65b0 c66 c66b0 c67 p68 q68 c69 c69b0 c69b1 hcz27_0 hcz27_1 hcz76_0 hcz76_1 hfz27_0 hfz27_1 hfz76_0 hfz76_1 hx137_0 hx137_1 hx153_0 hx158_0 hx73_0 p137 p153 p158 p68 q137 q153 q158 q68
                  obtain⟨x5_4,x97_4,rfl,HA,HK4,HO_5,HO_7,HO_8,HO_9,BK138,HB,HLr⟩:=hrel
                  have hl9_4:=(Kd.S_reads' HO_9.out).1
                  rw[hl9_4] at HO_9
                  (try simp only[hl9_4])
                  (try simp only[hl9_4] at BK138)
                  (try simp only[hl9_4] at HO_5)
                  (try simp only[hl9_4] at HO_7)
                  (try simp only[hl9_4] at HO_8)
                  cases gk with
                  |zero=>exact absurd HA.out (by simp[spec_l6Ends.l1])
                  |succ k4=>
                   have H:=HA.out
                   clear HA
                   simp only[spec_l6Ends.l1] at H
                   by_cases c77:x97_4<((rd_L2 y157 (ji64)).length:Int)
                   ·
                    rw[if_pos c77] at H
                    have c77b0:=decide_eq_true c77
                    clear c77
                    by_cases c78:0≤x97_4
                    ·
                     rw[if_pos c78] at H
                     have c78b0:=decide_eq_true c78
                     clear c78
                     by_cases c79:x97_4<((rd_L2 y157 (ji64)).length:Int)
                     ·
                      rw[if_pos c79] at H
                      have c79b0:=decide_eq_true c79
                      clear c79
                      by_cases c80:0≤(rd (rd_L2 y157 (ji64)) x97_4)
                      ·
                       rw[if_pos c80] at H
                       have c80b0:=decide_eq_true c80
                       clear c80
                       by_cases c81:(rd (rd_L2 y157 (ji64)) x97_4)<(x5_4.length:Int)
                       ·
                        rw[if_pos c81] at H
                        have c81b0:=decide_eq_true c81
                        clear c81
                        obtain⟨y160,hy160⟩:∃ y_:List Int,y_=(x5_4.set ((rd (rd_L2 y157 (ji64)) x97_4):Int).toNat x33_2):=⟨_,rfl⟩
                        replace H:(spec_l6Ends.l1 k4 y160 x6_24 x7_24 x8_24 y157 x33_2 (ji64) l0 (l0.length:Int) x33_2 (rd_L2 y157 (ji64)) ((rd_L2 y157 (ji64)).length:Int) (wrap64 (x97_4+1)))=some (r1,r2,r3):=by first|(rw[hy160];with_reducible exact H)|(have H2_:=(Option.bind_some _ _).symm.trans H;rw[hy160];with_reducible exact H2_)|(have H2_:=(Option.bind_some _ _).symm.trans H;with_reducible exact H2_)|with_reducible exact H|(rw[hy160];exact H)|exact H
                        have Ny160:=A_ hy160
                        clear hy160
                        have H':=A_ H
                        clear H
                        have p159:0≤(x97_4:Int):=od_
                        have q159:x97_4<((rd_L2 y157 (ji64)).length:Int):=od_
                        obtain⟨ad159,e159,hx159_0⟩:=Kd.at_int (Kd.R_reads' HLr.out).2.2 x97_4 p159 q159
                        cases e159
                        replace p159:=eq_true p159
                        replace q159:=eq_true q159
                        have p82:0≤((rd (rd_L2 y157 (ji64)) x97_4):Int):=od_
                        have q82:((rd (rd_L2 y157 (ji64)) x97_4):Int)<((x5_4.length:Int):Int):=od_
                        obtain⟨go82,co82,eo82,gb82,gl82,cl82,HG82⟩:=Kd.R_form HO_5.out (by omega)
                        (first|cases eo82|(injection eo82 with ea_ en_ ec_;(first|subst ea_|(injection ea_ with ea_;subst ea_));subst ec_;clear en_))
                        have GB82:=A_ gb82
                        have GG82:=A_ HG82
                        clear gb82 gl82 HG82
                        obtain⟨hx82_0,hf82_0⟩:=Kd.R_celln 0 HO_5.out ((rd (rd_L2 y157 (ji64)) x97_4):Int) p82 q82
                        replace p82:=eq_true p82
                        replace q82:=eq_true q82
                        have HP83:=Kd.R_putg HO_5.out ((rd (rd_L2 y157 (ji64)) x97_4):Int) x33_2
                        go_wp2_with (first|((with_reducible refine gate_store (t:=3) (p:=104) rfl ?_);refine store_event (t:=3) (p:=104) (v:=?vo_w84) (w1:=(wr.setCell ⟨go82,((rd (rd_L2 y157 (ji64)) x97_4):Int).toNat,none⟩ (.int .i64 x33_2))) ?hg ?ho ?hn ?hr ?_;(case ho=>rfl);(case hg=>rfl);(case hn=>rfl);(case hr=>first|(go_simp;done)|(go_simp;rfl));intro w84 hw;have hg:wr.grownBy w84 (some go82):=(by rw[hw];exact HP83.2);have hp_:Kd.R (Kd.int .i64) 3 w84 w.heap.size (fun k_=>some k_≠(u7:Value).ownBlock) (.slice (some ⟨go82,0,none⟩) x5_4.length co82) y160:=(by rw[hw,Ny160.out];exact HP83.1);clear HP83;replace HO_7:=A_ (Kd.R_after (v:=(.slice (some ⟨go82,0,none⟩) x5_4.length co82)) (v1:=(.slice (some ⟨go82,0,none⟩) x5_4.length co82)) (ok:=(fun _=>True)) (by(with_reducible repeat (first|apply Kd.R_alloc|apply Kd.R_drewN|apply Kd.R_drew));exact Kd.R_mono HO_7.out (fun _ hk=>⟨trivial,hk⟩)) hg (.inl rfl));replace HO_8:=A_ (Kd.R_over' (v:=(.slice (some ⟨go82,0,none⟩) x5_4.length co82)) (kr_ HO_8.out) (Kd.R_typed HO_5.out) (by decide) hg);replace HO_9:=A_ (Kd.S_after (v:=(.slice (some ⟨go82,0,none⟩) x5_4.length co82)) (v1:=(.slice (some ⟨go82,0,none⟩) x5_4.length co82)) (ok:=(fun k_=>some k_≠(u7:Value).ownBlock)) (by(with_reducible repeat (first|apply Kd.S_alloc|apply Kd.S_drewN|apply Kd.S_drew));exact Kd.S_mono HO_9.out (fun _ hk=>⟨hk.2,hk.1⟩)) hg (.inl rfl));replace BK138:=A_ (blk_grown (g:=gb138) (o:=.cells #[.int .i64 ((rd_T71 l0 x33_2).f0),.int .i64 ((rd_T71 l0 x33_2).f1)] 71 (0,0)) (bk BK138.out) hg (Kd.R_ne HO_5.out BK138.out (by decide)));replace HO_5:=A_ (hp_);replace HB:=A_ ((by rw[hw];exact below_set (HB.out) GB82.out:Below w.heap.size w w84));replace HLr:=A_ (Kd.R_after (v:=(.slice (some ⟨go82,0,none⟩) x5_4.length co82)) (v1:=(.slice (some ⟨go82,0,none⟩) x5_4.length co82)) (ok:=(fun _=>True)) (Kd.R_mono HLr.out (fun _ hk=>⟨trivial,hk⟩)) hg (.inl rfl));clear hg hw hp_))
                        (try simp only[←hl9_4])
                        go_roundg k4
                        case measure=>have:=HJ1.out;have:=HK2.out;have:=HJ24.out;have:=HK4.out;omega
                        case rel=>exact⟨(y160),(wrap64 (x97_4+1)),rs_,H',⟨by have:=HJ1.out;have:=HK2.out;have:=HJ24.out;have:=HK4.out;omega⟩,⟨by (try simp only[hl9_4]);(with_reducible repeat (first|apply Kd.R_alloc|apply Kd.R_drewN|apply Kd.R_drew));exact HO_5.out⟩,⟨by (try simp only[hl9_4]);(with_reducible repeat (first|apply Kd.R_alloc|apply Kd.R_drewN|apply Kd.R_drew));exact Kd.R_mono HO_7.out (fun _ hk=>hk.2)⟩,⟨by (try simp only[hl9_4]);(with_reducible repeat (first|apply Kd.R_alloc|apply Kd.R_drewN|apply Kd.R_drew));exact HO_8.out⟩,⟨by (try simp only[hl9_4]);(with_reducible repeat (first|apply Kd.S_alloc|apply Kd.S_drewN|apply Kd.S_drew));exact Kd.S_mono HO_9.out (fun _ hk=>⟨hk.2,hk.1⟩)⟩,⟨by (try simp only[hl9_4]);(with_reducible repeat (first|refine blk_drewN ?_ _|refine blk_drew ?_|refine blk_alloc ?_ _));exact BK138.out⟩,⟨bw HB.out⟩,⟨Kd.R_mono HLr.out (fun _ hk=>hk.2)⟩⟩
                       rw[if_neg c81] at H
                       exact absurd H (by simp)
                      rw[if_neg c80] at H
                      exact absurd H (by simp)
                     rw[if_neg c79] at H
                     exact absurd H (by simp)
                    rw[if_neg c78] at H
                    exact absurd H (by simp)
                   rw[if_neg c77] at H
                   have c77b0:=decide_eq_false c77
                   clear c77
                   by_cases c85:0≤(ji64)
                   ·
                    rw[if_pos c85] at H
                    have c85b0:=eq_true c85
                    have c85b1:=decide_eq_true c85
                    clear c85
                    by_cases c86:(ji64)≤(x7_24.length:Int)
                    ·
                     rw[if_pos c86] at H
                     have c86b0:=eq_true c86
                     have c86b1:=decide_eq_true c86
                     clear c86
                     obtain⟨y161,hy161⟩:∃ y_:List Int,y_=(x7_24.take ((ji64):Int).toNat):=⟨_,rfl⟩
                     replace H:(if (ji64)≤(x8_24.length:Int) then (if (ji64)≤(y157.length:Int) then (spec_l6Ends.l0 k4 x5_4 x6_24 y161 (x8_24.take ((ji64):Int).toNat) (y157.take ((ji64):Int).toNat) l0 (l0.length:Int) (wrap64 (x33_2+1))) else (none)) else (none))=some (r1,r2,r3):=by first|(rw[hy161];with_reducible exact H)|(have H2_:=(Option.bind_some _ _).symm.trans H;rw[hy161];with_reducible exact H2_)|(have H2_:=(Option.bind_some _ _).symm.trans H;with_reducible exact H2_)|with_reducible exact H|(rw[hy161];exact H)|exact H
                     have Ny161:=A_ hy161
                     clear hy161
                     by_cases c87:(ji64)≤(x8_24.length:Int)
                     ·
                      rw[if_pos c87] at H
                      have c87b0:=eq_true c87
                      have c87b1:=decide_eq_true c87
                      clear c87
                      obtain⟨y164,hy164⟩:∃ y_:List Bool,y_=(x8_24.take ((ji64):Int).toNat):=⟨_,rfl⟩
                      replace H:(if (ji64)≤(y157.length:Int) then (spec_l6Ends.l0 k4 x5_4 x6_24 y161 y164 (y157.take ((ji64):Int).toNat) l0 (l0.length:Int) (wrap64 (x33_2+1))) else (none))=some (r1,r2,r3):=by first|(rw[hy164];with_reducible exact H)|(have H2_:=(Option.bind_some _ _).symm.trans H;rw[hy164];with_reducible exact H2_)|(have H2_:=(Option.bind_some _ _).symm.trans H;with_reducible exact H2_)|with_reducible exact H|(rw[hy164];exact H)|exact H
                      have Ny164:=A_ hy164
                      clear hy164
                      by_cases c88:(ji64)≤(y157.length:Int)
                      ·
                       rw[if_pos c88] at H
                       have c88b0:=eq_true c88
                       have c88b1:=decide_eq_true c88
                       clear c88
                       obtain⟨y167,hy167⟩:∃ y_:List (List Int),y_=(y157.take ((ji64):Int).toNat):=⟨_,rfl⟩
                       replace H:(spec_l6Ends.l0 k4 x5_4 x6_24 y161 y164 y167 l0 (l0.length:Int) (wrap64 (x33_2+1)))=some (r1,r2,r3):=by first|(rw[hy167];with_reducible exact H)|(have H2_:=(Option.bind_some _ _).symm.trans H;rw[hy167];with_reducible exact H2_)|(have H2_:=(Option.bind_some _ _).symm.trans H;with_reducible exact H2_)|with_reducible exact H|(rw[hy167];exact H)|exact H
                       have Ny167:=A_ hy167
                       clear hy167
                       have H':=A_ H
                       clear H
                       obtain⟨Ao89,co89,eo89⟩:=Kd.R_slice HO_7.out
                       subst eo89
                       have q90:((ji64):Int)≤((x7_24.length:Int):Int):=od_
                       obtain⟨i090,hi090,_,hsz90,_⟩:=info_parts info3
                       have hcut90:=cut_to (P:=Try.prog) 53 3 .i64 Try.underlying53 hi090 Ao89 x7_24.length co89 (ji64) (od_) q90 (Kd.R_reads' HO_7.out).2.1
                       have hr90:=Kd.R_take (m:=((ji64):Int).toNat) HO_7.out (by omega)
                       have hy90:y161.length=((ji64):Int).toNat:=(by rw[Ny161.out,List.length_take];omega)
                       rw[←Ny161.out] at hr90
                       rw[←hy90] at hr90 hcut90
                       clear hy90 hi090 hsz90 HO_7
                       have HO163:=A_ hr90
                       clear hr90
                       replace q90:=eq_true q90
                       obtain⟨Ao91,co91,eo91⟩:=Kd.R_slice HO_8.out
                       subst eo91
                       have q92:((ji64):Int)≤((x8_24.length:Int):Int):=od_
                       obtain⟨i092,hi092,_,hsz92,_⟩:=info_parts info4
                       have hcut92:=cut_to (P:=Try.prog) 104 4 .i64 Try.underlying104 hi092 Ao91 x8_24.length co91 (ji64) (od_) q92 (Kd.R_reads' HO_8.out).2.1
                       have hr92:=Kd.R_take (m:=((ji64):Int).toNat) HO_8.out (by omega)
                       have hy92:y164.length=((ji64):Int).toNat:=(by rw[Ny164.out,List.length_take];omega)
                       rw[←Ny164.out] at hr92
                       rw[←hy92] at hr92 hcut92
                       clear hy92 hi092 hsz92 HO_8
                       have HO166:=A_ hr92
                       clear hr92
                       replace q92:=eq_true q92
                       have q93:((ji64):Int)≤((y157.length:Int):Int):=od_
                       obtain⟨i093,hi093,_,hsz93,_⟩:=info_parts info53
                       have hcut93:=cut_to (P:=Try.prog) 105 53 .i64 Try.underlying105 hi093 (some ⟨go71,0,none⟩) y157.length co70 (ji64) (od_) q93 (Kd.S_reads' HO_9.out).2.1
                       have hr93:=Kd.S_take (m:=((ji64):Int).toNat) HO_9.out (by omega)
                       have hy93:y167.length=((ji64):Int).toNat:=(by rw[Ny167.out,List.length_take];omega)
                       rw[←Ny167.out] at hr93
                       rw[←hy93] at hr93 hcut93
                       clear hy93 hi093 hsz93 HO_9
                       have HO169:=A_ hr93
                       clear hr93
                       replace q93:=eq_true q93
                       go_wp2
                       (try simp only[←hl9_4])
                       go_roundg k4
                       case measure=>have:=HJ1.out;have:=HK2.out;have:=HJ24.out;have:=HK4.out;omega
                       case rel=>exact⟨(x5_4),(x6_24),(y161),(y164),(y167),(wrap64 (x33_2+1)),rs_,rs_,H',⟨by have:=HJ1.out;have:=HK2.out;have:=HJ24.out;have:=HK4.out;omega⟩,⟨by (try simp only[hl9_4]);(with_reducible repeat (first|apply Kd.R_alloc|apply Kd.R_drewN|apply Kd.R_drew));exact Kd.R_mono HO_5.out (fun k_ hk_=>by cases Ao89<;>exact hk_)⟩,⟨by (try simp only[hl9_4]);(with_reducible repeat (first|apply Kd.R_alloc|apply Kd.R_drewN|apply Kd.R_drew));exact HO163.out⟩,⟨by (try simp only[hl9_4]);(with_reducible repeat (first|apply Kd.R_alloc|apply Kd.R_drewN|apply Kd.R_drew));exact HO166.out⟩,⟨by (try simp only[hl9_4]);(with_reducible repeat (first|apply Kd.S_alloc|apply Kd.S_drewN|apply Kd.S_drew));exact Kd.S_mono HO169.out (fun k_ hk_=>⟨hk_.1,by cases Ao89<;>exact hk_.2⟩)⟩,⟨bw HB.out⟩⟩
                      rw[if_neg c88] at H
                      exact absurd H (by simp)
                     rw[if_neg c87] at H
                     exact absurd H (by simp)
                    rw[if_neg c86] at H
                    exact absurd H (by simp)
                   rw[if_neg c85] at H
                   exact absurd H (by simp)
                rw[if_neg c69] at H
                obtain⟨c69b0,c69b1⟩:=eF_ c69
                have H':=A_ H
                clear H
                obtain⟨Ao94,co94,eo94⟩:=Kd.S_slice HO_9.out
                subst eo94
                have p153:0≤((ji64):Int):=od_
                have q153:(ji64)<(x9_24.length:Int):=od_
                obtain⟨ad153,A153_0,c153_0,e153,hx153_0,hl153_0,hi153_0⟩:=at_L2 (Kd.S_reads' HO_9.out).2.2 (ji64) p153 q153
                cases e153
                obtain⟨ce153,hce153,hMe153,hcc153⟩:=Kd.S_get HO_9.out [] (ji64) p153 (by first|exact q153|exact od_|(have e_:=(Kd.S_reads' HO_9.out).1;omega))
                obtain⟨ve153_0,rfl,ge153_0⟩:=hMe153
                have hv153_0:=hcc153 0 _ rfl
                rw[Nat.add_zero,show ((Kd.slice 3 (Kd.int .i64))).sz=1 from rfl,Nat.mul_one] at hv153_0
                replace hv153_0:=Option.some.inj (hv153_0.symm.trans hx153_0)
                rw[hv153_0] at ge153_0
                have HL153_0:=A_ (show Kd.R (Kd.int .i64) 3 _ _ _ _ (rd_L2 x9_24 (ji64)) from ge153_0)
                clear hv153_0 ge153_0
                have HX153_0:=A_ hx153_0
                clear hcc153 hce153
                have HR153_0:=A_ hi153_0
                have HC153_0:=A_ hl153_0
                clear hi153_0 hl153_0
                replace p153:=eq_true p153
                replace q153:=eq_true q153
                obtain⟨go95,co95,eo95,gb95,gl95,cl95,HG95⟩:=Kd.S_form HO_9.out (by have h_:((ji64):Int)<((x9_24.length:Int):Int):=od_;have h2_:0≤((ji64):Int):=(od_);omega)
                (first|cases eo95|(injection eo95 with ea_ en_ ec_;(first|subst ea_|(injection ea_ with ea_;subst ea_));subst ec_;clear en_))
                have GB95:=A_ gb95
                have GG95:=A_ HG95
                clear gb95 gl95 HG95
                (first|simp only[add_plain] at hx153_0|skip)
                obtain⟨oki95,ce95,hcl95,hM95,hcc95,_,_,hH95⟩:=Kd.S_elem HO_9.out [] ((ji64):Int) (od_) (by have h_:((ji64):Int)<((x9_24.length:Int):Int):=od_;first|exact h_|(have e_:=(Kd.S_reads' HO_9.out).1;omega)|simpa using h_)
                obtain⟨ve95_0,rfl,ge95_0⟩:=hM95
                have hv95:=hcc95 0 _ rfl
                have hX95:=HX153_0.out
                (try simp only[add_plain] at hX95)
                (try simp only[Nat.add_zero] at hv95)
                (try rw[show ((Kd.slice 3 (Kd.int .i64))).sz=1 from rfl,Nat.mul_one] at hv95)
                replace hv95:=Option.some.inj (hv95.symm.trans hX95)
                subst hv95
                clear hX95 hcc95 hcl95
                have UU95:=A_ (show Kd.R (Kd.int .i64) 3 _ w.heap.size oki95 (.slice A153_0 (rd_L2 x9_24 (ji64)).length c153_0) (rd_L2 x9_24 (ji64)) from ge95_0)
                have HH95:=A_ hH95
                have HN95:=A_ (Kd.S_reads' HO_9.out).1
                clear hH95 ge95_0
                go_wp2_with (first|((with_reducible refine gate_builtin (b:=.append) (xs:=#[.tmp 84,.tmp 86]) rfl ?_);(try (refine gate_guard (by rfl) ?_;dsimp only));at_builtin;refine Kd.R_append (Kd.int .i64) (w0:=w) w.heap.size rfl (.tmp 84) (.tmp 86) 53 3 (.int .i64 0) 8 rfl Try.underlying53 info3 rfl (by decide) (by omega) (.slice A153_0 (rd_L2 x9_24 (ji64)).length c153_0) (rd_L2 x9_24 (ji64)) x33_2 [.int .i64 x33_2] (fun k_=>oki95 k_∨((fun k_=>some k_≠(v126:Value).ownBlock∧some k_≠(u7:Value).ownBlock)) k_∧wc.heap.size≤k_) (fun _=>False) rfl rfl ?aP (fun _ hk=>hk.elim) ?aF ?aO ?aB ?aS ?aL ?_;(case aP=>exact rfl);(case aB=>exact(bw HB.out));(case aF=>exact(fun k_ hk=>.inr ⟨⟨Kd.fresh' (Kd.R_lt (kr_ HO_5.out)) k_ hk,Kd.fresh' (Kd.R_lt (kr_ HO_7.out)) k_ hk⟩,hk⟩));(case aO=>exact(by(with_reducible repeat (first|apply Kd.R_alloc|apply Kd.R_drewN|apply Kd.R_drew));exact Kd.R_mono UU95.out (fun _ hk=>.inl hk)));(case aS=>exact(below_size (bw HB.out)));(case aL=>have:=LMc67.out;omega);intro v155 w96 ho hb hg hat;rw[←Ny154.out] at ho;have HO156:=A_ (ho);replace HO_5:=A_ (Kd.R_grown2 (kr_ HO_5.out) rfl hg (fun k_ e_=>(HL153_0.out.1 k_ e_).1.1));replace HO_7:=A_ (Kd.R_grown2 (kr_ HO_7.out) rfl hg (fun k_ e_=>(HL153_0.out.1 k_ e_).1.2));replace HO_8:=A_ (Kd.R_over' (v:=(.slice A153_0 (rd_L2 x9_24 (ji64)).length c153_0)) (kr_ HO_8.out) (Kd.R_typed HL153_0.out) (by decide) hg);replace BK138:=A_ (blk_grown (g:=gb138) (o:=.cells #[.int .i64 ((rd_T71 l0 x33_2).f0),.int .i64 ((rd_T71 l0 x33_2).f1)] 71 (0,0)) (bk BK138.out) hg (Kd.R_ne HL153_0.out BK138.out (by decide)));replace HB:=A_ (hb);replace HH95:=A_ (Kd.H_grown (Kd.H_widen (by repeat (first|exact HH95.out|refine Kd.H_alloc ?_ _|refine Kd.H_drewN ?_ _|refine Kd.H_drew ?_))) hg (fun k_ e_=>.inl (UU95.out.1 k_ e_)));clear HO_9 UU95 HL153_0;clear ho hb hg hat;have p68:0≤((ji64):Int):=od_;have q68:((ji64):Int)<((x9_24.length:Int):Int):=od_;replace p68:=eq_true p68;replace q68:=eq_true q68;obtain⟨Ao99,co99,eo99⟩:=Kd.R_slice HO156.out;subst eo99;obtain⟨_,_,hraw97,_,_,hcc97,_⟩:=Kd.H_raw HH95.out (od_) (by have h_:((ji64):Int)<((x9_24.length:Int):Int):=od_;first|exact h_|(have e_:=(HN95.out);omega)|simpa using h_);obtain⟨_,hfr97⟩:=Kd.H_at HH95.out (od_) (by have h_:((ji64):Int)<((x9_24.length:Int):Int):=od_;first|exact h_|(have e_:=(HN95.out);omega)|simpa using h_);have hx97_0:=hcc97 0 _ rfl;have hf97_0:=hfr97 0;(try simp only[Nat.add_zero] at hx97_0 hf97_0);(try rw[show ((Kd.slice 3 (Kd.int .i64))).sz=1 from rfl,Nat.mul_one] at hx97_0);(try rw[show ((Kd.slice 3 (Kd.int .i64))).sz=1 from rfl,Nat.mul_one] at hf97_0);have HP97:=Kd.S_seg0 HH95.out (od_) (by have h_:((ji64):Int)<((x9_24.length:Int):Int):=od_;first|exact h_|(have e_:=(HN95.out);omega)|simpa using h_) (seg:=[.slice Ao99 y154.length co99]) (j:=0) (show 1≤1 from by decide) (x':=y154) (Kd.M_row HO156.out) (fun _ hk=>hk);(try simp only[show ((Kd.slice 3 (Kd.int .i64))).sz=1 from rfl,Nat.mul_one,Nat.add_zero] at HP97);clear hcc97 hfr97)|((with_reducible refine gate_store (t:=53) (p:=88) rfl ?_);refine store_event (t:=53) (p:=88) (v:=?vo_w98) (w1:=(w96.setCell ⟨go95,((ji64):Int).toNat,none⟩ (.slice Ao99 y154.length co99))) ?hg ?ho ?hn ?hr ?_;(case ho=>rfl);(case hg=>rfl);(case hn=>rfl);(case hr=>first|(go_simp;done)|(go_simp;rfl));intro w98 hw;have hg:w96.grownBy w98 (some go95):=(by rw[hw];exact HP97.2);have hp_:Kd.S (Kd.slice 3 (Kd.int .i64)) 53 w98 w.heap.size (fun k_=>some k_≠(v126:Value).ownBlock∧some k_≠(u7:Value).ownBlock) (.slice (some ⟨go95,0,none⟩) x9_24.length co94) y157:=(by rw[hw,Ny157.out];exact HP97.1);clear HP97;have HO_9:=A_ (hp_);replace HO_5:=A_ (Kd.R_over' (v:=(.slice (some ⟨go95,0,none⟩) x9_24.length co94)) (kr_ HO_5.out) (Kd.R_typed hraw97) (by decide) hg);replace HO_7:=A_ (Kd.R_over' (v:=(.slice (some ⟨go95,0,none⟩) x9_24.length co94)) (kr_ HO_7.out) (Kd.R_typed hraw97) (by decide) hg);replace HO_8:=A_ (Kd.R_over' (v:=(.slice (some ⟨go95,0,none⟩) x9_24.length co94)) (kr_ HO_8.out) (Kd.R_typed hraw97) (by decide) hg);replace BK138:=A_ (blk_grown (g:=gb138) (o:=.cells #[.int .i64 ((rd_T71 l0 x33_2).f0),.int .i64 ((rd_T71 l0 x33_2).f1)] 71 (0,0)) (bk BK138.out) hg (Kd.R_ne hraw97 BK138.out (by decide)));replace HB:=A_ ((by rw[hw];exact below_set HB.out GB95.out:Below w.heap.size w w98));clear HO156 HH95;clear hg hw hp_ hraw97;obtain⟨hcz100_0,hcz100_1⟩:=cs2_ BK138.out;obtain⟨hfz100_0,hfz100_1⟩:=fz2_ BK138.out))
                go_roundg kj24
                case measure=>have:=HJ1.out;have:=HK2.out;have:=HJ24.out;omega
                case rel=>exact⟨(x5_2),(x6_24),(x7_24),(x8_24),(y157),(wrap64 (x33_2+1)),rs_,rs_,H',⟨by have:=HJ1.out;have:=HK2.out;have:=HJ24.out;omega⟩,⟨kr_ HO_5.out⟩,⟨kr_ HO_7.out⟩,⟨kr_ HO_8.out⟩,⟨ks_ HO_9.out⟩,⟨bw HB.out⟩⟩
               rw[if_neg c67] at H
               exact absurd H (by simp)
              rw[if_neg c66] at H
              exact absurd H (by simp)
             rw[if_neg c65] at H
             exact absurd H (by simp)
          rw[if_neg c20] at H
          exact absurd H (by simp)
         rw[if_neg c19] at H
         exact absurd H (by simp)
        rw[if_neg c18] at H
        have c18b0:=decide_eq_false c18
        clear c18
        simp only[Option.some.injEq,Prod.mk.injEq] at H
        obtain⟨rfl,rfl,rfl⟩:=H
        obtain⟨Ao101,co101,eo101⟩:=Kd.R_slice HO_7.out
        subst eo101
        go_wp2
        go_ret3
        exact⟨_,rr_,by (with_reducible repeat (first|apply Kd.R_alloc|apply Kd.R_drewN|apply Kd.R_drew));exact Kd.R_mono HO_5.out (fun _ hk=>trivial),bw HB.out⟩
     rw[if_neg c10] at H
     exact absurd H (by simp)
    rw[if_neg c9] at H
    exact absurd H (by simp)
   rw[if_neg c8] at H
   exact absurd H (by simp)

/-! ### spec_l7Types: function 41 -/
def spec_l7Types.l0:Nat→List Int→Int→List Int→Int→Int→Option (Bool)
 |0,_,_,_,_,_=>none
 |k+1,x0,x1,x7,x8,x9=>if x9<x8 then (if 0≤x9 then (if x9<(x7.length:Int) then ((spec_l6Type.f (rd x7 x9)).bind fun t171=>(if t171=true then (spec_l7Types.l0 k x0 x1 x7 x8 (wrap64 (x9+1))) else (some false))) else (none)) else (none)) else (some (decide ((x0.length:Int)≤x1)))
def spec_l7Types.f (k:Nat) (l0:List Int) (a1:Int):Option (Bool):=spec_l7Types.l0 k l0 a1 l0 (l0.length:Int) 0
theorem spec_l7Types.calls (k:Nat) (A0:Option Addr) (c0:Nat) (l0:List Int) (a1:Int) (r:Bool) (w:World) (hr0:Kd.C (Kd.int .i64) w A0 l0.length l0) (hc0:l0.length≤c0) (h:spec_l7Types.f k l0 a1=some r):
  Calls Try.prog 41 #[.slice A0 l0.length c0,.int .i64 a1] w fun e w'=>e=.returned (.bool r)∧Drawn0 w w':=by
 have HR0:=A_ hr0
 have HC0:=A_ hc0
 clear hr0 hc0
 have H:(spec_l7Types.l0 k l0 a1 l0 (l0.length:Int) 0)=some r:=h
 clear h
 have H':=A_ H
 clear H
 go_enter Try.func41,Try.ntmps41
 go_wp2
 (try simp only[Act.put,List.setIfInBounds_toArray,List.set_cons_zero,List.set_cons_succ])
 go_loopg [9] k (fun kq v9 w'=>∃ (x9_1:Int),v9=.int .i64 x9_1∧Aside0 (spec_l7Types.l0 kq l0 a1 l0 (l0.length:Int) x9_1=some r)∧Aside0 (kq≤k)∧Drawn0 w w')
 case atStart=>exact⟨(0),rs_,H',⟨Nat.le_refl _⟩,dr_⟩
 case round=>
  clear H'
  obtain⟨x9_1,rfl,HA,HK1,⟨m1,rfl⟩⟩:=hrel
  cases gk with
  |zero=>exact absurd HA.out (by simp[spec_l7Types.l0])
  |succ k1=>
   have H:=HA.out
   clear HA
   simp only[spec_l7Types.l0] at H
   by_cases c3:x9_1<(l0.length:Int)
   ·
    rw[if_pos c3] at H
    have c3b0:=decide_eq_true c3
    clear c3
    by_cases c4:0≤x9_1
    ·
     rw[if_pos c4] at H
     have c4b0:=decide_eq_true c4
     clear c4
     by_cases c5:x9_1<(l0.length:Int)
     ·
      rw[if_pos c5] at H
      have c5b0:=decide_eq_true c5
      clear c5
      replace H:=bi_ H
      obtain⟨t171,A60,H⟩:=H
      have A6:=A_ A60
      clear A60
      by_cases c7:t171=true
      ·
       subst c7
       replace H:=iT_ H
       have H':=A_ H
       clear H
       have p170:0≤(x9_1:Int):=od_
       have q170:x9_1<(l0.length:Int):=od_
       obtain⟨ad170,e170,hx170_0⟩:=Kd.at_int HR0.out x9_1 p170 q170
       cases e170
       replace p170:=eq_true p170
       replace q170:=eq_true q170
       go_wp2_with (first|((with_reducible refine gc_ 28 rfl ?_);refine gn_ (some 14) Try.func28 (spec_l6Type.calls (rd l0 x9_1) true _ A6.out) ?_;intro nd))
       go_roundg k1
       case measure=>have:=HK1.out;omega
       case rel=>exact⟨(wrap64 (x9_1+1)),rs_,H',⟨by have:=HK1.out;omega⟩,dr_⟩
      replace c7:=Bool.eq_false_iff.mpr c7
      subst c7
      replace H:=iF_ H
      obtain rfl:=Option.some.inj H
      clear H
      have p170:0≤(x9_1:Int):=od_
      have q170:x9_1<(l0.length:Int):=od_
      obtain⟨ad170,e170,hx170_0⟩:=Kd.at_int HR0.out x9_1 p170 q170
      cases e170
      replace p170:=eq_true p170
      replace q170:=eq_true q170
      go_wp2_with (first|((with_reducible refine gc_ 28 rfl ?_);refine gn_ (some 14) Try.func28 (spec_l6Type.calls (rd l0 x9_1) false _ A6.out) ?_;intro nd))
      go_ret
      exact⟨rs_,dr_⟩
     rw[if_neg c5] at H
     exact absurd H (by simp)
    rw[if_neg c4] at H
    exact absurd H (by simp)
   rw[if_neg c3] at H
   have c3b0:=decide_eq_false c3
   clear c3
   obtain rfl:=Option.some.inj H
   clear H
   go_wp2
   go_ret
   exact⟨rs_,dr_⟩

/-! ### spec_l7Func: function 27 -/
def spec_l7Func.f (k:Nat) (l0_0:List Int) (a0_1:Int) (l0_2:List Int) (l0_3:List (S71)):Option (Bool):=(spec_l6Ends.f k l0_3).bind fun bt173=>(if bt173.2.2=true then ((spec_l7Types.f k l0_0 6).bind fun t178=>(if t178=true then ((spec_l7Types.f k l0_2 20).bind fun t179=>(if t179=true then ((spec_l6Type.f a0_1).bind fun t180=>(if t180=true then (some true) else (some (a0_1==64)))) else (some false))) else (some false))) else (some false))
theorem spec_l7Func.calls (k:Nat) (A0_0:Option Addr) (c0_0:Nat) (l0_0:List Int) (a0_1:Int) (A0_2:Option Addr) (c0_2:Nat) (l0_2:List Int) (A0_3:Option Addr) (c0_3:Nat) (l0_3:List (S71)) (r:Bool) (w:World) (hr0_0:Kd.C (Kd.int .i64) w A0_0 l0_0.length l0_0) (hc0_0:l0_0.length≤c0_0) (hr0_2:Kd.C (Kd.int .i64) w A0_2 l0_2.length l0_2) (hc0_2:l0_2.length≤c0_2) (hr0_3:Kd.C k71 w A0_3 l0_3.length l0_3) (hc0_3:l0_3.length≤c0_3) (h:spec_l7Func.f k l0_0 a0_1 l0_2 l0_3=some r):
  Calls Try.prog 27 #[.agg #[.slice A0_0 l0_0.length c0_0,.int .i64 a0_1,.slice A0_2 l0_2.length c0_2,.slice A0_3 l0_3.length c0_3]] w fun e w'=>e=.returned (.bool r)∧Below w.heap.size w w':=by
 have hu59:=Try.underlying59
 have HR0_0:=A_ hr0_0
 have HC0_0:=A_ hc0_0
 clear hr0_0 hc0_0
 have HR0_2:=A_ hr0_2
 have HC0_2:=A_ hc0_2
 clear hr0_2 hc0_2
 have HR0_3:=A_ hr0_3
 have HC0_3:=A_ hc0_3
 clear hr0_3 hc0_3
 have HB:=A_ (Below.refl w.heap.size w)
 have H:((spec_l6Ends.f k l0_3).bind fun bt173=>(if bt173.2.2=true then ((spec_l7Types.f k l0_0 6).bind fun t178=>(if t178=true then ((spec_l7Types.f k l0_2 20).bind fun t179=>(if t179=true then ((spec_l6Type.f a0_1).bind fun t180=>(if t180=true then (some true) else (some (a0_1==64)))) else (some false))) else (some false))) else (some false)))=some r:=h
 clear h
 replace H:=Option.bind_eq_some_iff.mp H
 obtain⟨⟨t173,t174,t175⟩,A20,H⟩:=H
 replace H:(if t175=true then ((spec_l7Types.f k l0_0 6).bind fun t178=>(if t178=true then ((spec_l7Types.f k l0_2 20).bind fun t179=>(if t179=true then ((spec_l6Type.f a0_1).bind fun t180=>(if t180=true then (some true) else (some (a0_1==64)))) else (some false))) else (some false))) else (some false))=some r:=H
 have A2:=A_ A20
 clear A20
 by_cases c3:t175=true
 ·
  subst c3
  replace H:=iT_ H
  replace H:=bi_ H
  obtain⟨t178,A40,H⟩:=H
  have A4:=A_ A40
  clear A40
  by_cases c5:t178=true
  ·
   subst c5
   replace H:=iT_ H
   replace H:=bi_ H
   obtain⟨t179,A60,H⟩:=H
   have A6:=A_ A60
   clear A60
   by_cases c7:t179=true
   ·
    subst c7
    replace H:=iT_ H
    replace H:=bi_ H
    obtain⟨t180,A80,H⟩:=H
    have A8:=A_ A80
    clear A80
    by_cases c9:t180=true
    ·
     subst c9
     replace H:=iT_ H
     obtain rfl:=Option.some.inj H
     clear H
     go_enter Try.func27,Try.ntmps27
     go_wp2_with (first|((with_reducible refine gd_ 1 rfl ?_);refine bx_ #[.slice A0_0 l0_0.length c0_0,.int .i64 a0_1,.slice A0_2 l0_2.length c0_2,.slice A0_3 l0_3.length c0_3] 59 ?_;intro gb172 hg w10 hbox hb;have BK172:=A_ hbox;have GW172:=gw_ hg HB;have GE172:=GW172;replace HB:=bs_ HB hb;clear hb hbox hg;obtain⟨hcz11_0,hcz11_1,hcz11_2,hcz11_3⟩:=cs4_ BK172.out;obtain⟨hfz11_0,hfz11_1,hfz11_2,hfz11_3⟩:=fz4_ BK172.out)|((with_reducible refine gc_ 40 rfl ?_);refine goesL_ (some 9) rfl rfl Try.func40 (by kernel_rfl) rfl #[.slice A0_3 l0_3.length c0_3] rfl ar ?_;(with_reducible refine(spec_l6Ends.calls k _ _ l0_3 t173 t174 true _ ?side1 ?side2 A2.out).mono ?_);(case side1=>exact cb_ HR0_3 HB);(case side2=>exact HC0_3.out);rintro e w12 ⟨v176,rfl,ho0,hb⟩;refine⟨_,rfl,?_⟩;have HO177:=A_ (Kd.R_lower ho0 (below_size (bw HB.out)));replace BK172:=kb_ BK172 hb;replace HB:=bs_ HB hb;(try clear hb);(try clear hb2);(try clear hk);(try clear hi);(try clear ho0);obtain⟨hcz13_0,hcz13_1,hcz13_2,hcz13_3⟩:=cs4_ BK172.out;obtain⟨hfz13_0,hfz13_1,hfz13_2,hfz13_3⟩:=fz4_ BK172.out)|(go_at_call 41;(with_reducible refine(spec_l7Types.calls k _ _ l0_0 6 true _ ?side1 ?side2 A4.out).mono ?_);(case side1=>exact cb_ HR0_0 HB);(case side2=>exact HC0_0.out);rintro e w' ⟨rfl,⟨nd,rfl⟩⟩)|(go_at_call 41;(with_reducible refine(spec_l7Types.calls k _ _ l0_2 20 true _ ?side1 ?side2 A6.out).mono ?_);(case side1=>exact cb_ HR0_2 HB);(case side2=>exact HC0_2.out);rintro e w' ⟨rfl,⟨nd,rfl⟩⟩)|(go_at_call 28;(with_reducible refine(spec_l6Type.calls a0_1 true _ A8.out).mono ?_);rintro e w' ⟨rfl,⟨nd,rfl⟩⟩))
     go_ret
     exact⟨rr_,bw HB.out⟩
    replace c9:=Bool.eq_false_iff.mpr c9
    subst c9
    replace H:=iF_ H
    obtain rfl:=Option.some.inj H
    clear H
    go_enter Try.func27,Try.ntmps27
    go_wp2_with (first|((with_reducible refine gd_ 1 rfl ?_);refine bx_ #[.slice A0_0 l0_0.length c0_0,.int .i64 a0_1,.slice A0_2 l0_2.length c0_2,.slice A0_3 l0_3.length c0_3] 59 ?_;intro gb172 hg w14 hbox hb;have BK172:=A_ hbox;have GW172:=gw_ hg HB;have GE172:=GW172;replace HB:=bs_ HB hb;clear hb hbox hg;obtain⟨hcz15_0,hcz15_1,hcz15_2,hcz15_3⟩:=cs4_ BK172.out;obtain⟨hfz15_0,hfz15_1,hfz15_2,hfz15_3⟩:=fz4_ BK172.out)|((with_reducible refine gc_ 40 rfl ?_);refine goesL_ (some 9) rfl rfl Try.func40 (by kernel_rfl) rfl #[.slice A0_3 l0_3.length c0_3] rfl ar ?_;(with_reducible refine(spec_l6Ends.calls k _ _ l0_3 t173 t174 true _ ?side1 ?side2 A2.out).mono ?_);(case side1=>exact cb_ HR0_3 HB);(case side2=>exact HC0_3.out);rintro e w16 ⟨v176,rfl,ho0,hb⟩;refine⟨_,rfl,?_⟩;have HO177:=A_ (Kd.R_lower ho0 (below_size (bw HB.out)));replace BK172:=kb_ BK172 hb;replace HB:=bs_ HB hb;(try clear hb);(try clear hb2);(try clear hk);(try clear hi);(try clear ho0);obtain⟨hcz17_0,hcz17_1,hcz17_2,hcz17_3⟩:=cs4_ BK172.out;obtain⟨hfz17_0,hfz17_1,hfz17_2,hfz17_3⟩:=fz4_ BK172.out)|(go_at_call 41;(with_reducible refine(spec_l7Types.calls k _ _ l0_0 6 true _ ?side1 ?side2 A4.out).mono ?_);(case side1=>exact cb_ HR0_0 HB);(case side2=>exact HC0_0.out);rintro e w' ⟨rfl,⟨nd,rfl⟩⟩)|(go_at_call 41;(with_reducible refine(spec_l7Types.calls k _ _ l0_2 20 true _ ?side1 ?side2 A6.out).mono ?_);(case side1=>exact cb_ HR0_2 HB);(case side2=>exact HC0_2.out);rintro e w' ⟨rfl,⟨nd,rfl⟩⟩)|(go_at_call 28;(with_reducible refine(spec_l6Type.calls a0_1 false _ A8.out).mono ?_);rintro e w' ⟨rfl,⟨nd,rfl⟩⟩))
    go_ret
    exact⟨rr_,bw HB.out⟩
   replace c7:=Bool.eq_false_iff.mpr c7
   subst c7
   replace H:=iF_ H
   obtain rfl:=Option.some.inj H
   clear H
   go_enter Try.func27,Try.ntmps27
   go_wp2_with (first|((with_reducible refine gd_ 1 rfl ?_);refine bx_ #[.slice A0_0 l0_0.length c0_0,.int .i64 a0_1,.slice A0_2 l0_2.length c0_2,.slice A0_3 l0_3.length c0_3] 59 ?_;intro gb172 hg w18 hbox hb;have BK172:=A_ hbox;have GW172:=gw_ hg HB;have GE172:=GW172;replace HB:=bs_ HB hb;clear hb hbox hg;obtain⟨hcz19_0,hcz19_1,hcz19_2,hcz19_3⟩:=cs4_ BK172.out;obtain⟨hfz19_0,hfz19_1,hfz19_2,hfz19_3⟩:=fz4_ BK172.out)|((with_reducible refine gc_ 40 rfl ?_);refine goesL_ (some 9) rfl rfl Try.func40 (by kernel_rfl) rfl #[.slice A0_3 l0_3.length c0_3] rfl ar ?_;(with_reducible refine(spec_l6Ends.calls k _ _ l0_3 t173 t174 true _ ?side1 ?side2 A2.out).mono ?_);(case side1=>exact cb_ HR0_3 HB);(case side2=>exact HC0_3.out);rintro e w20 ⟨v176,rfl,ho0,hb⟩;refine⟨_,rfl,?_⟩;have HO177:=A_ (Kd.R_lower ho0 (below_size (bw HB.out)));replace BK172:=kb_ BK172 hb;replace HB:=bs_ HB hb;(try clear hb);(try clear hb2);(try clear hk);(try clear hi);(try clear ho0);obtain⟨hcz21_0,hcz21_1,hcz21_2,hcz21_3⟩:=cs4_ BK172.out;obtain⟨hfz21_0,hfz21_1,hfz21_2,hfz21_3⟩:=fz4_ BK172.out)|(go_at_call 41;(with_reducible refine(spec_l7Types.calls k _ _ l0_0 6 true _ ?side1 ?side2 A4.out).mono ?_);(case side1=>exact cb_ HR0_0 HB);(case side2=>exact HC0_0.out);rintro e w' ⟨rfl,⟨nd,rfl⟩⟩)|(go_at_call 41;(with_reducible refine(spec_l7Types.calls k _ _ l0_2 20 false _ ?side1 ?side2 A6.out).mono ?_);(case side1=>exact cb_ HR0_2 HB);(case side2=>exact HC0_2.out);rintro e w' ⟨rfl,⟨nd,rfl⟩⟩))
   go_ret
   exact⟨rr_,bw HB.out⟩
  replace c5:=Bool.eq_false_iff.mpr c5
  subst c5
  replace H:=iF_ H
  obtain rfl:=Option.some.inj H
  clear H
  go_enter Try.func27,Try.ntmps27
  go_wp2_with (first|((with_reducible refine gd_ 1 rfl ?_);refine bx_ #[.slice A0_0 l0_0.length c0_0,.int .i64 a0_1,.slice A0_2 l0_2.length c0_2,.slice A0_3 l0_3.length c0_3] 59 ?_;intro gb172 hg w22 hbox hb;have BK172:=A_ hbox;have GW172:=gw_ hg HB;have GE172:=GW172;replace HB:=bs_ HB hb;clear hb hbox hg;obtain⟨hcz23_0,hcz23_1,hcz23_2,hcz23_3⟩:=cs4_ BK172.out;obtain⟨hfz23_0,hfz23_1,hfz23_2,hfz23_3⟩:=fz4_ BK172.out)|((with_reducible refine gc_ 40 rfl ?_);refine goesL_ (some 9) rfl rfl Try.func40 (by kernel_rfl) rfl #[.slice A0_3 l0_3.length c0_3] rfl ar ?_;(with_reducible refine(spec_l6Ends.calls k _ _ l0_3 t173 t174 true _ ?side1 ?side2 A2.out).mono ?_);(case side1=>exact cb_ HR0_3 HB);(case side2=>exact HC0_3.out);rintro e w24 ⟨v176,rfl,ho0,hb⟩;refine⟨_,rfl,?_⟩;have HO177:=A_ (Kd.R_lower ho0 (below_size (bw HB.out)));replace BK172:=kb_ BK172 hb;replace HB:=bs_ HB hb;(try clear hb);(try clear hb2);(try clear hk);(try clear hi);(try clear ho0);obtain⟨hcz25_0,hcz25_1,hcz25_2,hcz25_3⟩:=cs4_ BK172.out;obtain⟨hfz25_0,hfz25_1,hfz25_2,hfz25_3⟩:=fz4_ BK172.out)|(go_at_call 41;(with_reducible refine(spec_l7Types.calls k _ _ l0_0 6 false _ ?side1 ?side2 A4.out).mono ?_);(case side1=>exact cb_ HR0_0 HB);(case side2=>exact HC0_0.out);rintro e w' ⟨rfl,⟨nd,rfl⟩⟩))
  go_ret
  exact⟨rr_,bw HB.out⟩
 replace c3:=Bool.eq_false_iff.mpr c3
 subst c3
 replace H:=iF_ H
 obtain rfl:=Option.some.inj H
 clear H
 go_enter Try.func27,Try.ntmps27
 go_wp2_with (first|((with_reducible refine gd_ 1 rfl ?_);refine bx_ #[.slice A0_0 l0_0.length c0_0,.int .i64 a0_1,.slice A0_2 l0_2.length c0_2,.slice A0_3 l0_3.length c0_3] 59 ?_;intro gb172 hg w26 hbox hb;have BK172:=A_ hbox;have GW172:=gw_ hg HB;have GE172:=GW172;replace HB:=bs_ HB hb;clear hb hbox hg;obtain⟨hcz27_0,hcz27_1,hcz27_2,hcz27_3⟩:=cs4_ BK172.out;obtain⟨hfz27_0,hfz27_1,hfz27_2,hfz27_3⟩:=fz4_ BK172.out)|((with_reducible refine gc_ 40 rfl ?_);refine goesL_ (some 9) rfl rfl Try.func40 (by kernel_rfl) rfl #[.slice A0_3 l0_3.length c0_3] rfl ar ?_;(with_reducible refine(spec_l6Ends.calls k _ _ l0_3 t173 t174 false _ ?side1 ?side2 A2.out).mono ?_);(case side1=>exact cb_ HR0_3 HB);(case side2=>exact HC0_3.out);rintro e w28 ⟨v176,rfl,ho0,hb⟩;refine⟨_,rfl,?_⟩;have HO177:=A_ (Kd.R_lower ho0 (below_size (bw HB.out)));replace BK172:=kb_ BK172 hb;replace HB:=bs_ HB hb;(try clear hb);(try clear hb2);(try clear hk);(try clear hi);(try clear ho0)))
 go_ret
 exact⟨rr_,bw HB.out⟩

/-! ### spec_GoodShape: function 17 -/
mutual
def spec_GoodShape.j0:Nat→Bool→List (S59)→List (S63)→Bool→Int→Int→Int→Option (Bool)
 |0,_,_,_,_,_,_,_=>none
 |k+1,x16,x182000,x182001,x182002,x182003,x182004,x182005=>if x16=true then (some false) else (spec_GoodShape.l0 k x182000 (x182000.length:Int) 0 x182000 x182001 x182002 x182003 x182004 x182005)
def spec_GoodShape.l0:Nat→List (S59)→Int→Int→List (S59)→List (S63)→Bool→Int→Int→Int→Option (Bool)
 |0,_,_,_,_,_,_,_,_,_=>none
 |k+1,x18,x19,x20,x182000,x182001,x182002,x182003,x182004,x182005=>if x20<x19 then (if 0≤x20 then (if x20<(x18.length:Int) then ((spec_l7Func.f k ((rd_T59 x18 x20).f0) ((rd_T59 x18 x20).f1) ((rd_T59 x18 x20).f2) ((rd_T59 x18 x20).f3)).bind fun t184=>(if t184=true then (spec_GoodShape.l0 k x18 x19 (wrap64 (x20+1)) x182000 x182001 x182002 x182003 x182004 x182005) else (some false))) else (none)) else (none)) else (spec_GoodShape.l1 k x182001 (x182001.length:Int) 0 x182000 x182001 x182002 x182003 x182004 x182005)
def spec_GoodShape.l1:Nat→List (S63)→Int→Int→List (S59)→List (S63)→Bool→Int→Int→Int→Option (Bool)
 |0,_,_,_,_,_,_,_,_,_=>none
 |k+1,x29,x30,x31,x182000,x182001,x182002,x182003,x182004,x182005=>if x31<x30 then (if 0≤x31 then (if x31<(x29.length:Int) then ((spec_l6Type.f ((rd_T63 x29 x31).f0)).bind fun t187=>(if t187=true then (if ((rd_T63 x29 x31).f0)=126 then (spec_GoodShape.l1 k x29 x30 (wrap64 (x31+1)) x182000 x182001 x182002 x182003 x182004 x182005) else (if ((rd_T63 x29 x31).f2) > 4294967295 then (some false) else (spec_GoodShape.l1 k x29 x30 (wrap64 (x31+1)) x182000 x182001 x182002 x182003 x182004 x182005))) else (some false))) else (none)) else (none)) else (if x182002=true then ((spec_l1In.f x182004 0 8).bind fun t188=>(if t188=true then ((spec_l1In.f x182003 0 x182004).bind fun t189=>(if t189=true then (spec_GoodShape.j3 k false x182000 x182001 x182002 x182003 x182004 x182005) else (spec_GoodShape.j3 k true x182000 x182001 x182002 x182003 x182004 x182005))) else (spec_GoodShape.j3 k true x182000 x182001 x182002 x182003 x182004 x182005))) else (if x182003=0 then (spec_GoodShape.j3 k (x182004 !=0) x182000 x182001 x182002 x182003 x182004 x182005) else (spec_GoodShape.j3 k true x182000 x182001 x182002 x182003 x182004 x182005)))
def spec_GoodShape.j3:Nat→Bool→List (S59)→List (S63)→Bool→Int→Int→Int→Option (Bool)
 |0,_,_,_,_,_,_,_=>none
 |k+1,x80,x182000,x182001,x182002,x182003,x182004,x182005=>if x80=true then (some false) else (if x182005=(-1) then (some true) else ((spec_l1In.f x182005 0 (wrap64 ((x182000.length:Int) - 1))).bind fun t190=>(if t190=true then (if 0≤x182005 then (if x182005<(x182000.length:Int) then (if (((rd_T59 x182000 x182005).f0).length:Int)=0 then (some (((rd_T59 x182000 x182005).f1)==64)) else (some false)) else (none)) else (none)) else (some false))))
end
def spec_GoodShape.f (k:Nat) (l0_0:List (S59)) (l0_1:List (S63)) (a0_2:Bool) (a0_3:Int) (a0_4:Int) (a0_5:Int):Option (Bool):=if (l0_0.length:Int) > 10 then (spec_GoodShape.j0 k true l0_0 l0_1 a0_2 a0_3 a0_4 a0_5) else (spec_GoodShape.j0 k (decide ((l0_1.length:Int) > 6)) l0_0 l0_1 a0_2 a0_3 a0_4 a0_5)
theorem spec_GoodShape.calls (k:Nat) (A0_0:Option Addr) (c0_0:Nat) (l0_0:List (S59)) (A0_1:Option Addr) (c0_1:Nat) (l0_1:List (S63)) (a0_2:Bool) (a0_3:Int) (a0_4:Int) (a0_5:Int) (r:Bool) (w:World) (hr0_0:Kd.C k59 w A0_0 l0_0.length l0_0) (hc0_0:l0_0.length≤c0_0) (hr0_1:Kd.C k63 w A0_1 l0_1.length l0_1) (hc0_1:l0_1.length≤c0_1) (h:spec_GoodShape.f k l0_0 l0_1 a0_2 a0_3 a0_4 a0_5=some r):
  Calls Try.prog 17 #[.agg #[.slice A0_0 l0_0.length c0_0,.slice A0_1 l0_1.length c0_1,.bool a0_2,.int .i64 a0_3,.int .i64 a0_4,.int .i64 a0_5]] w fun e w'=>e=.returned (.bool r)∧Below w.heap.size w w':=by
 have hu32:=Try.underlying32
 have hu59:=Try.underlying59
 have hu63:=Try.underlying63
 have HR0_0:=A_ hr0_0
 have HC0_0:=A_ hc0_0
 clear hr0_0 hc0_0
 have HR0_1:=A_ hr0_1
 have HC0_1:=A_ hc0_1
 clear hr0_1 hc0_1
 have HB:=A_ (Below.refl w.heap.size w)
 have H:(if (l0_0.length:Int) > 10 then (spec_GoodShape.j0 k true l0_0 l0_1 a0_2 a0_3 a0_4 a0_5) else (spec_GoodShape.j0 k (decide ((l0_1.length:Int) > 6)) l0_0 l0_1 a0_2 a0_3 a0_4 a0_5))=some r:=h
 clear h
 have HC2:=A_ H
 clear H
 go_enter Try.func17,Try.ntmps17
 go_upto_region 1 with (first|((with_reducible refine gd_ 1 rfl ?_);(try (refine gate_guard (by rfl) ?_;dsimp only));refine bx_ #[.slice A0_0 l0_0.length c0_0,.slice A0_1 l0_1.length c0_1,.bool a0_2,.int .i64 a0_3,.int .i64 a0_4,.int .i64 a0_5] 32 ?_;intro gb181 hg w3 hbox hb;have BK181:=A_ hbox;have GW181:=gw_ hg HB;have GE181:=GW181;replace HB:=bs_ HB hb;clear hb hbox hg))
 (try simp only[Act.put,List.setIfInBounds_toArray,List.set_cons_zero,List.set_cons_succ])
 go_cut [16] (fun v16 wc=>∃ (kq:Nat) (x16_1:Bool),v16=.bool x16_1∧Aside0 (spec_GoodShape.j0 kq x16_1 l0_0 l0_1 a0_2 a0_3 a0_4 a0_5=some r)∧Aside0 (kq≤k)∧Aside0 (wc.heap[gb181]? =some (.cells #[(.slice A0_0 l0_0.length c0_0),(.slice A0_1 l0_1.length c0_1),.bool a0_2,.int .i64 a0_3,.int .i64 a0_4,.int .i64 a0_5] 32 (0,0)))∧Aside0 (Below w.heap.size w wc))
 case first=>
  have H:=HC2.out
  clear HC2
  by_cases c4:(l0_0.length:Int) > 10
  ·
   rw[if_pos c4] at H
   have c4b0:=decide_eq_true c4
   have c4b1:decide (10<l0_0.length)=true:=decide_eq_true (by omega)
   clear c4
   (first|rw[c4b0]|(simp only[i64_w,i32_w];rw[c4b0])|skip)
   have H':=A_ H
   clear H
   obtain⟨hcz5_0,hcz5_1,hcz5_2,hcz5_3,hcz5_4,hcz5_5⟩:=cs6_ BK181.out
   obtain⟨hfz5_0,hfz5_1,hfz5_2,hfz5_3,hfz5_4,hfz5_5⟩:=fz6_ BK181.out
   go_wp2
   go_meet
   case rel=>exact⟨_,(true),rs_,H',⟨by first|omega|exact Nat.le_refl _⟩,⟨bk BK181.out⟩,⟨bw HB.out⟩⟩
  rw[if_neg c4] at H
  have c4b0:=decide_eq_false c4
  have c4b1:decide (10<l0_0.length)=false:=decide_eq_false (by omega)
  clear c4
  (first|rw[c4b0]|(simp only[i64_w,i32_w];rw[c4b0])|skip)
  have H':=A_ H
  clear H
  obtain⟨hcz6_0,hcz6_1,hcz6_2,hcz6_3,hcz6_4,hcz6_5⟩:=cs6_ BK181.out
  obtain⟨hfz6_0,hfz6_1,hfz6_2,hfz6_3,hfz6_4,hfz6_5⟩:=fz6_ BK181.out
  go_wp2
  go_meet
  case rel=>exact⟨_,(decide ((l0_1.length:Int) > 6)),rs_,H',⟨by first|omega|exact Nat.le_refl _⟩,⟨bk BK181.out⟩,⟨bw HB.out⟩⟩
 case rest=>
  clear HC2
  obtain⟨kq,x16_1,rfl,HA,HJ1,BK181,HB⟩:=hcut
  cases kq with
  |zero=>exact absurd HA.out (by simp[spec_GoodShape.j0])
  |succ kj1=>
   have H:=HA.out
   clear HA
   simp only[spec_GoodShape.j0] at H
   by_cases c7:x16_1=true
   ·
    subst c7
    replace H:=iT_ H
    obtain rfl:=Option.some.inj H
    clear H
    go_wp2
    go_ret
    exact⟨rr_,bw HB.out⟩
   replace c7:=Bool.eq_false_iff.mpr c7
   subst c7
   replace H:=iF_ H
   have H':=A_ H
   clear H
   obtain⟨hcz8_0,hcz8_1,hcz8_2,hcz8_3,hcz8_4,hcz8_5⟩:=cs6_ BK181.out
   obtain⟨hfz8_0,hfz8_1,hfz8_2,hfz8_3,hfz8_4,hfz8_5⟩:=fz6_ BK181.out
   go_wp2
   (try simp only[Act.put,List.setIfInBounds_toArray,List.set_cons_zero,List.set_cons_succ])
   go_loopg [20] kj1 (fun kq v20 w'=>∃ (x20_2:Int),v20=.int .i64 x20_2∧Aside0 (spec_GoodShape.l0 kq l0_0 (l0_0.length:Int) x20_2 l0_0 l0_1 a0_2 a0_3 a0_4 a0_5=some r)∧Aside0 (kq≤kj1)∧Aside0 (w'.heap[gb181]? =some (.cells #[(.slice A0_0 l0_0.length c0_0),(.slice A0_1 l0_1.length c0_1),.bool a0_2,.int .i64 a0_3,.int .i64 a0_4,.int .i64 a0_5] 32 (0,0)))∧Aside0 (Below w.heap.size w w'))
   case atStart=>exact⟨(0),rs_,H',⟨Nat.le_refl _⟩,⟨bk BK181.out⟩,⟨bw HB.out⟩⟩
   case round=>
    clear H'
    try clear c7 hcz8_0 hcz8_1 hcz8_2 hcz8_3 hcz8_4 hcz8_5 hfz8_0 hfz8_1 hfz8_2 hfz8_3 hfz8_4 hfz8_5
    obtain⟨x20_2,rfl,HA,HK2,BK181,HB⟩:=hrel
    cases gk with
    |zero=>exact absurd HA.out (by simp[spec_GoodShape.l0])
    |succ k2=>
     have H:=HA.out
     clear HA
     simp only[spec_GoodShape.l0] at H
     by_cases c9:x20_2<(l0_0.length:Int)
     ·
      rw[if_pos c9] at H
      have c9b0:=decide_eq_true c9
      clear c9
      by_cases c10:0≤x20_2
      ·
       rw[if_pos c10] at H
       have c10b0:=decide_eq_true c10
       clear c10
       by_cases c11:x20_2<(l0_0.length:Int)
       ·
        rw[if_pos c11] at H
        have c11b0:=decide_eq_true c11
        clear c11
        replace H:=bi_ H
        obtain⟨t184,A120,H⟩:=H
        have A12:=A_ A120
        clear A120
        by_cases c13:t184=true
        ·
         subst c13
         replace H:=iT_ H
         have H':=A_ H
         clear H
         have p182:0≤(x20_2:Int):=od_
         have q182:x20_2<(l0_0.length:Int):=od_
         obtain⟨ad182,A182_0,c182_0,A182_2,c182_2,A182_3,c182_3,e182,hx182_0,hx182_1,hx182_2,hx182_3,hl182_0,hi182_0,hl182_2,hi182_2,hl182_3,hi182_3⟩:=at_T59 HR0_0.out x20_2 p182 q182
         cases e182
         replace hx182_0:=cl_ HB.out hx182_0
         replace hx182_1:=cl_ HB.out hx182_1
         replace hx182_2:=cl_ HB.out hx182_2
         replace hx182_3:=cl_ HB.out hx182_3
         have HR182_0:=A_ hi182_0
         have HC182_0:=A_ hl182_0
         clear hi182_0 hl182_0
         have HR182_2:=A_ hi182_2
         have HC182_2:=A_ hl182_2
         clear hi182_2 hl182_2
         have HR182_3:=A_ hi182_3
         have HC182_3:=A_ hl182_3
         clear hi182_3 hl182_3
         replace p182:=eq_true p182
         replace q182:=eq_true q182
         go_wp2_with (first|((with_reducible refine gd_ 4 rfl ?_);(try (refine gate_guard (by rfl) ?_;dsimp only));refine bx_ #[.slice none 0 0,.int .i64 0,.slice none 0 0,.slice none 0 0] 59 ?_;intro gb183 hg w14 hbox hb;have BK183:=A_ hbox;have GW183:=gw_ hg HB;have GE183:=GW183;obtain⟨NB181_183,NB183_181⟩:=nb_ BK181 hg;replace BK181:=kb_ BK181 hb;replace HB:=bs_ HB hb;clear hb hbox hg;have hnb15:=NB183_181.out;have hnc15:=NB181_183.out;obtain⟨hcz16_0,hcz16_1,hcz16_2,hcz16_3⟩:=cs4_ BK183.out;obtain⟨hfz16_0,hfz16_1,hfz16_2,hfz16_3⟩:=fz4_ BK183.out)|((with_reducible refine gc_ 27 rfl ?_);refine goesL_ (some 25) rfl rfl Try.func27 (by kernel_rfl) rfl #[.agg #[.slice A182_0 ((rd_T59 l0_0 x20_2).f0).length c182_0,.int .i64 ((rd_T59 l0_0 x20_2).f1),.slice A182_2 ((rd_T59 l0_0 x20_2).f2).length c182_2,.slice A182_3 ((rd_T59 l0_0 x20_2).f3).length c182_3]] rfl ar ?_;(with_reducible refine(spec_l7Func.calls k2 _ _ ((rd_T59 l0_0 x20_2).f0) ((rd_T59 l0_0 x20_2).f1) _ _ ((rd_T59 l0_0 x20_2).f2) _ _ ((rd_T59 l0_0 x20_2).f3) true _ ?side1 ?side2 ?side3 ?side4 ?side5 ?side6 A12.out).mono ?_);(case side1=>exact Kd.C_below HR182_0.out (bw HB.out));(case side2=>exact HC182_0.out);(case side3=>exact Kd.C_below HR182_2.out (bw HB.out));(case side4=>exact HC182_2.out);(case side5=>exact Kd.C_below HR182_3.out (bw HB.out));(case side6=>exact HC182_3.out);rintro e w17 ⟨rfl,hb⟩;refine⟨_,rfl,?_⟩;replace BK181:=A_ (blk_below (g:=gb181) (o:=.cells #[.slice (some ad182) l0_0.length c0_0,.slice A0_1 l0_1.length c0_1,.bool a0_2,.int .i64 a0_3,.int .i64 a0_4,.int .i64 a0_5] 32 (0,0)) (by refine blk_far ?_ NB181_183.out _;refine blk_far ?_ NB181_183.out _;refine blk_far ?_ NB181_183.out _;refine blk_far ?_ NB181_183.out _;(with_reducible repeat (first|refine blk_drewN ?_ _|refine blk_drew ?_|refine blk_alloc ?_ _));exact BK181.out) hb);replace BK183:=A_ (blk_below (g:=gb183) (o:=.cells #[.slice A182_0 ((rd_T59 l0_0 x20_2).f0).length c182_0,.int .i64 ((rd_T59 l0_0 x20_2).f1),.slice A182_2 ((rd_T59 l0_0 x20_2).f2).length c182_2,.slice A182_3 ((rd_T59 l0_0 x20_2).f3).length c182_3] 59 (0,0)) (by refine blk_put (cs:=#[.slice A182_0 ((rd_T59 l0_0 x20_2).f0).length c182_0,.int .i64 ((rd_T59 l0_0 x20_2).f1),.slice A182_2 ((rd_T59 l0_0 x20_2).f2).length c182_2,.slice none 0 0]) ?_ 3 _ rfl;refine blk_put (cs:=#[.slice A182_0 ((rd_T59 l0_0 x20_2).f0).length c182_0,.int .i64 ((rd_T59 l0_0 x20_2).f1),.slice none 0 0,.slice none 0 0]) ?_ 2 _ rfl;refine blk_put (cs:=#[.slice A182_0 ((rd_T59 l0_0 x20_2).f0).length c182_0,.int .i64 0,.slice none 0 0,.slice none 0 0]) ?_ 1 _ rfl;refine blk_put (cs:=#[.slice none 0 0,.int .i64 0,.slice none 0 0,.slice none 0 0]) ?_ 0 _ rfl;(with_reducible repeat (first|refine blk_drewN ?_ _|refine blk_drew ?_|refine blk_alloc ?_ _));exact BK183.out) hb);replace HB:=bs_ HB hb;(try clear hb)))
         go_roundg k2
         case measure=>have:=HJ1.out;have:=HK2.out;omega
         case rel=>exact⟨(wrap64 (x20_2+1)),rs_,H',⟨by have:=HJ1.out;have:=HK2.out;omega⟩,⟨bk BK181.out⟩,⟨bw HB.out⟩⟩
        replace c13:=Bool.eq_false_iff.mpr c13
        subst c13
        replace H:=iF_ H
        obtain rfl:=Option.some.inj H
        clear H
        have p182:0≤(x20_2:Int):=od_
        have q182:x20_2<(l0_0.length:Int):=od_
        obtain⟨ad182,A182_0,c182_0,A182_2,c182_2,A182_3,c182_3,e182,hx182_0,hx182_1,hx182_2,hx182_3,hl182_0,hi182_0,hl182_2,hi182_2,hl182_3,hi182_3⟩:=at_T59 HR0_0.out x20_2 p182 q182
        cases e182
        replace hx182_0:=cl_ HB.out hx182_0
        replace hx182_1:=cl_ HB.out hx182_1
        replace hx182_2:=cl_ HB.out hx182_2
        replace hx182_3:=cl_ HB.out hx182_3
        have HR182_0:=A_ hi182_0
        have HC182_0:=A_ hl182_0
        clear hi182_0 hl182_0
        have HR182_2:=A_ hi182_2
        have HC182_2:=A_ hl182_2
        clear hi182_2 hl182_2
        have HR182_3:=A_ hi182_3
        have HC182_3:=A_ hl182_3
        clear hi182_3 hl182_3
        replace p182:=eq_true p182
        replace q182:=eq_true q182
        go_wp2_with (first|((with_reducible refine gd_ 4 rfl ?_);(try (refine gate_guard (by rfl) ?_;dsimp only));refine bx_ #[.slice none 0 0,.int .i64 0,.slice none 0 0,.slice none 0 0] 59 ?_;intro gb183 hg w18 hbox hb;have BK183:=A_ hbox;have GW183:=gw_ hg HB;have GE183:=GW183;obtain⟨NB181_183,NB183_181⟩:=nb_ BK181 hg;replace BK181:=kb_ BK181 hb;replace HB:=bs_ HB hb;clear hb hbox hg;have hnb19:=NB183_181.out;have hnc19:=NB181_183.out;obtain⟨hcz20_0,hcz20_1,hcz20_2,hcz20_3⟩:=cs4_ BK183.out;obtain⟨hfz20_0,hfz20_1,hfz20_2,hfz20_3⟩:=fz4_ BK183.out)|((with_reducible refine gc_ 27 rfl ?_);refine goesL_ (some 25) rfl rfl Try.func27 (by kernel_rfl) rfl #[.agg #[.slice A182_0 ((rd_T59 l0_0 x20_2).f0).length c182_0,.int .i64 ((rd_T59 l0_0 x20_2).f1),.slice A182_2 ((rd_T59 l0_0 x20_2).f2).length c182_2,.slice A182_3 ((rd_T59 l0_0 x20_2).f3).length c182_3]] rfl ar ?_;(with_reducible refine(spec_l7Func.calls k2 _ _ ((rd_T59 l0_0 x20_2).f0) ((rd_T59 l0_0 x20_2).f1) _ _ ((rd_T59 l0_0 x20_2).f2) _ _ ((rd_T59 l0_0 x20_2).f3) false _ ?side1 ?side2 ?side3 ?side4 ?side5 ?side6 A12.out).mono ?_);(case side1=>exact Kd.C_below HR182_0.out (bw HB.out));(case side2=>exact HC182_0.out);(case side3=>exact Kd.C_below HR182_2.out (bw HB.out));(case side4=>exact HC182_2.out);(case side5=>exact Kd.C_below HR182_3.out (bw HB.out));(case side6=>exact HC182_3.out);rintro e w21 ⟨rfl,hb⟩;refine⟨_,rfl,?_⟩;replace BK181:=A_ (blk_below (g:=gb181) (o:=.cells #[.slice (some ad182) l0_0.length c0_0,.slice A0_1 l0_1.length c0_1,.bool a0_2,.int .i64 a0_3,.int .i64 a0_4,.int .i64 a0_5] 32 (0,0)) (by refine blk_far ?_ NB181_183.out _;refine blk_far ?_ NB181_183.out _;refine blk_far ?_ NB181_183.out _;refine blk_far ?_ NB181_183.out _;(with_reducible repeat (first|refine blk_drewN ?_ _|refine blk_drew ?_|refine blk_alloc ?_ _));exact BK181.out) hb);replace BK183:=A_ (blk_below (g:=gb183) (o:=.cells #[.slice A182_0 ((rd_T59 l0_0 x20_2).f0).length c182_0,.int .i64 ((rd_T59 l0_0 x20_2).f1),.slice A182_2 ((rd_T59 l0_0 x20_2).f2).length c182_2,.slice A182_3 ((rd_T59 l0_0 x20_2).f3).length c182_3] 59 (0,0)) (by refine blk_put (cs:=#[.slice A182_0 ((rd_T59 l0_0 x20_2).f0).length c182_0,.int .i64 ((rd_T59 l0_0 x20_2).f1),.slice A182_2 ((rd_T59 l0_0 x20_2).f2).length c182_2,.slice none 0 0]) ?_ 3 _ rfl;refine blk_put (cs:=#[.slice A182_0 ((rd_T59 l0_0 x20_2).f0).length c182_0,.int .i64 ((rd_T59 l0_0 x20_2).f1),.slice none 0 0,.slice none 0 0]) ?_ 2 _ rfl;refine blk_put (cs:=#[.slice A182_0 ((rd_T59 l0_0 x20_2).f0).length c182_0,.int .i64 0,.slice none 0 0,.slice none 0 0]) ?_ 1 _ rfl;refine blk_put (cs:=#[.slice none 0 0,.int .i64 0,.slice none 0 0,.slice none 0 0]) ?_ 0 _ rfl;(with_reducible repeat (first|refine blk_drewN ?_ _|refine blk_drew ?_|refine blk_alloc ?_ _));exact BK183.out) hb);replace HB:=bs_ HB hb;(try clear hb)))
        go_ret
        exact⟨rr_,bw HB.out⟩
       rw[if_neg c11] at H
       exact absurd H (by simp)
      rw[if_neg c10] at H
      exact absurd H (by simp)
     rw[if_neg c9] at H
     have c9b0:=decide_eq_false c9
     clear c9
     have H':=A_ H
     clear H
     obtain⟨hcz22_0,hcz22_1,hcz22_2,hcz22_3,hcz22_4,hcz22_5⟩:=cs6_ BK181.out
     obtain⟨hfz22_0,hfz22_1,hfz22_2,hfz22_3,hfz22_4,hfz22_5⟩:=fz6_ BK181.out
     go_wp2
     (try simp only[Act.put,List.setIfInBounds_toArray,List.set_cons_zero,List.set_cons_succ])
     go_loopg [31] k2 (fun kq v31 w'=>∃ (x31_3:Int),v31=.int .i64 x31_3∧Aside0 (spec_GoodShape.l1 kq l0_1 (l0_1.length:Int) x31_3 l0_0 l0_1 a0_2 a0_3 a0_4 a0_5=some r)∧Aside0 (kq≤k2)∧Aside0 (w'.heap[gb181]? =some (.cells #[(.slice A0_0 l0_0.length c0_0),(.slice A0_1 l0_1.length c0_1),.bool a0_2,.int .i64 a0_3,.int .i64 a0_4,.int .i64 a0_5] 32 (0,0)))∧Aside0 (Below w.heap.size w w'))
     case atStart=>exact⟨(0),rs_,H',⟨Nat.le_refl _⟩,⟨bk BK181.out⟩,⟨bw HB.out⟩⟩
     case round=>
      clear H'
      try clear c7 c9 c9b0 hcz22_0 hcz22_1 hcz22_2 hcz22_3 hcz22_4 hcz22_5 hcz8_0 hcz8_1 hcz8_2 hcz8_3 hcz8_4 hcz8_5 hfz22_0 hfz22_1 hfz22_2 hfz22_3 hfz22_4 hfz22_5 hfz8_0 hfz8_1 hfz8_2 hfz8_3 hfz8_4 hfz8_5
      obtain⟨x31_3,rfl,HA,HK3,BK181,HB⟩:=hrel
      cases gk with
      |zero=>exact absurd HA.out (by simp[spec_GoodShape.l1])
      |succ k3=>
       have H:=HA.out
       clear HA
       simp only[spec_GoodShape.l1] at H
       by_cases c23:x31_3<(l0_1.length:Int)
       ·
        rw[if_pos c23] at H
        have c23b0:=decide_eq_true c23
        clear c23
        by_cases c24:0≤x31_3
        ·
         rw[if_pos c24] at H
         have c24b0:=decide_eq_true c24
         clear c24
         by_cases c25:x31_3<(l0_1.length:Int)
         ·
          rw[if_pos c25] at H
          have c25b0:=decide_eq_true c25
          clear c25
          replace H:=bi_ H
          obtain⟨t187,A260,H⟩:=H
          have A26:=A_ A260
          clear A260
          by_cases c27:t187=true
          ·
           subst c27
           replace H:=iT_ H
           by_cases c28:((rd_T63 l0_1 x31_3).f0)=126
           ·
            rw[if_pos c28] at H
            obtain⟨c28b0,c28b1⟩:=eT_ c28
            clear c28
            have H':=A_ H
            clear H
            have p185:0≤(x31_3:Int):=od_
            have q185:x31_3<(l0_1.length:Int):=od_
            obtain⟨ad185,e185,hx185_0,hx185_1,hx185_2⟩:=at_T63 HR0_1.out x31_3 p185 q185
            cases e185
            replace hx185_0:=cl_ HB.out hx185_0
            replace hx185_1:=cl_ HB.out hx185_1
            replace hx185_2:=cl_ HB.out hx185_2
            replace p185:=eq_true p185
            replace q185:=eq_true q185
            go_wp2_with (first|((with_reducible refine gd_ 6 rfl ?_);(try (refine gate_guard (by rfl) ?_;dsimp only));refine bx_ #[.int .i64 0,.bool false,.int .u64 0] 63 ?_;intro gb186 hg w29 hbox hb;have BK186:=A_ hbox;have GW186:=gw_ hg HB;have GE186:=GW186;obtain⟨NB181_186,NB186_181⟩:=nb_ BK181 hg;replace BK181:=kb_ BK181 hb;replace HB:=bs_ HB hb;clear hb hbox hg;have hnb30:=NB186_181.out;have hnc30:=NB181_186.out;obtain⟨hcz31_0,hcz31_1,hcz31_2⟩:=cs3_ BK186.out;obtain⟨hfz31_0,hfz31_1,hfz31_2⟩:=fz3_ BK186.out)|((with_reducible refine gc_ 28 rfl ?_);refine gn_ (some 37) Try.func28 (spec_l6Type.calls ((rd_T63 l0_1 x31_3).f0) true _ A26.out) ?_;intro nd))
            go_roundg k3
            case measure=>have:=HJ1.out;have:=HK2.out;have:=HK3.out;omega
            case rel=>exact⟨(wrap64 (x31_3+1)),rs_,H',⟨by have:=HJ1.out;have:=HK2.out;have:=HK3.out;omega⟩,⟨by refine blk_far ?_ NB181_186.out _;refine blk_far ?_ NB181_186.out _;refine blk_far ?_ NB181_186.out _;(with_reducible repeat (first|refine blk_drewN ?_ _|refine blk_drew ?_|refine blk_alloc ?_ _));exact BK181.out⟩,⟨bw HB.out⟩⟩
           rw[if_neg c28] at H
           obtain⟨c28b0,c28b1⟩:=eF_ c28
           by_cases c32:((rd_T63 l0_1 x31_3).f2) > 4294967295
           ·
            rw[if_pos c32] at H
            have c32b0:=decide_eq_true c32
            clear c32
            obtain rfl:=Option.some.inj H
            clear H
            have p185:0≤(x31_3:Int):=od_
            have q185:x31_3<(l0_1.length:Int):=od_
            obtain⟨ad185,e185,hx185_0,hx185_1,hx185_2⟩:=at_T63 HR0_1.out x31_3 p185 q185
            cases e185
            replace hx185_0:=cl_ HB.out hx185_0
            replace hx185_1:=cl_ HB.out hx185_1
            replace hx185_2:=cl_ HB.out hx185_2
            replace p185:=eq_true p185
            replace q185:=eq_true q185
            go_wp2_with (first|((with_reducible refine gd_ 6 rfl ?_);(try (refine gate_guard (by rfl) ?_;dsimp only));refine bx_ #[.int .i64 0,.bool false,.int .u64 0] 63 ?_;intro gb186 hg w33 hbox hb;have BK186:=A_ hbox;have GW186:=gw_ hg HB;have GE186:=GW186;obtain⟨NB181_186,NB186_181⟩:=nb_ BK181 hg;replace BK181:=kb_ BK181 hb;replace HB:=bs_ HB hb;clear hb hbox hg;have hnb34:=NB186_181.out;have hnc34:=NB181_186.out;obtain⟨hcz35_0,hcz35_1,hcz35_2⟩:=cs3_ BK186.out;obtain⟨hfz35_0,hfz35_1,hfz35_2⟩:=fz3_ BK186.out)|((with_reducible refine gc_ 28 rfl ?_);refine gn_ (some 37) Try.func28 (spec_l6Type.calls ((rd_T63 l0_1 x31_3).f0) true _ A26.out) ?_;intro nd))
            go_ret
            exact⟨rr_,bw HB.out⟩
           rw[if_neg c32] at H
           have c32b0:=decide_eq_false c32
           clear c32
           have H':=A_ H
           clear H
           have p185:0≤(x31_3:Int):=od_
           have q185:x31_3<(l0_1.length:Int):=od_
           obtain⟨ad185,e185,hx185_0,hx185_1,hx185_2⟩:=at_T63 HR0_1.out x31_3 p185 q185
           cases e185
           replace hx185_0:=cl_ HB.out hx185_0
           replace hx185_1:=cl_ HB.out hx185_1
           replace hx185_2:=cl_ HB.out hx185_2
           replace p185:=eq_true p185
           replace q185:=eq_true q185
           go_wp2_with (first|((with_reducible refine gd_ 6 rfl ?_);(try (refine gate_guard (by rfl) ?_;dsimp only));refine bx_ #[.int .i64 0,.bool false,.int .u64 0] 63 ?_;intro gb186 hg w36 hbox hb;have BK186:=A_ hbox;have GW186:=gw_ hg HB;have GE186:=GW186;obtain⟨NB181_186,NB186_181⟩:=nb_ BK181 hg;replace BK181:=kb_ BK181 hb;replace HB:=bs_ HB hb;clear hb hbox hg;have hnb37:=NB186_181.out;have hnc37:=NB181_186.out;obtain⟨hcz38_0,hcz38_1,hcz38_2⟩:=cs3_ BK186.out;obtain⟨hfz38_0,hfz38_1,hfz38_2⟩:=fz3_ BK186.out)|((with_reducible refine gc_ 28 rfl ?_);refine gn_ (some 37) Try.func28 (spec_l6Type.calls ((rd_T63 l0_1 x31_3).f0) true _ A26.out) ?_;intro nd))
           go_roundg k3
           case measure=>have:=HJ1.out;have:=HK2.out;have:=HK3.out;omega
           case rel=>exact⟨(wrap64 (x31_3+1)),rs_,H',⟨by have:=HJ1.out;have:=HK2.out;have:=HK3.out;omega⟩,⟨by refine blk_far ?_ NB181_186.out _;refine blk_far ?_ NB181_186.out _;refine blk_far ?_ NB181_186.out _;(with_reducible repeat (first|refine blk_drewN ?_ _|refine blk_drew ?_|refine blk_alloc ?_ _));exact BK181.out⟩,⟨bw HB.out⟩⟩
          replace c27:=Bool.eq_false_iff.mpr c27
          subst c27
          replace H:=iF_ H
          obtain rfl:=Option.some.inj H
          clear H
          have p185:0≤(x31_3:Int):=od_
          have q185:x31_3<(l0_1.length:Int):=od_
          obtain⟨ad185,e185,hx185_0,hx185_1,hx185_2⟩:=at_T63 HR0_1.out x31_3 p185 q185
          cases e185
          replace hx185_0:=cl_ HB.out hx185_0
          replace hx185_1:=cl_ HB.out hx185_1
          replace hx185_2:=cl_ HB.out hx185_2
          replace p185:=eq_true p185
          replace q185:=eq_true q185
          go_wp2_with (first|((with_reducible refine gd_ 6 rfl ?_);(try (refine gate_guard (by rfl) ?_;dsimp only));refine bx_ #[.int .i64 0,.bool false,.int .u64 0] 63 ?_;intro gb186 hg w39 hbox hb;have BK186:=A_ hbox;have GW186:=gw_ hg HB;have GE186:=GW186;obtain⟨NB181_186,NB186_181⟩:=nb_ BK181 hg;replace BK181:=kb_ BK181 hb;replace HB:=bs_ HB hb;clear hb hbox hg;have hnb40:=NB186_181.out;have hnc40:=NB181_186.out;obtain⟨hcz41_0,hcz41_1,hcz41_2⟩:=cs3_ BK186.out;obtain⟨hfz41_0,hfz41_1,hfz41_2⟩:=fz3_ BK186.out)|((with_reducible refine gc_ 28 rfl ?_);refine gn_ (some 37) Try.func28 (spec_l6Type.calls ((rd_T63 l0_1 x31_3).f0) false _ A26.out) ?_;intro nd))
          go_ret
          exact⟨rr_,bw HB.out⟩
         rw[if_neg c25] at H
         exact absurd H (by simp)
        rw[if_neg c24] at H
        exact absurd H (by simp)
       rw[if_neg c23] at H
       have c23b0:=decide_eq_false c23
       clear c23
       have HC42:=A_ H
       clear H
       go_upto_region 15 with (fail)
       go_cut [80] (fun v80 wc=>∃ (kq:Nat) (x80_41:Bool),v80=.bool x80_41∧Aside0 (spec_GoodShape.j3 kq x80_41 l0_0 l0_1 a0_2 a0_3 a0_4 a0_5=some r)∧Aside0 (kq≤k3)∧Aside0 (wc.heap[gb181]? =some (.cells #[(.slice A0_0 l0_0.length c0_0),(.slice A0_1 l0_1.length c0_1),.bool a0_2,.int .i64 a0_3,.int .i64 a0_4,.int .i64 a0_5] 32 (0,0)))∧Aside0 (Below w.heap.size w wc))
       case first=>
        have H:=HC42.out
        clear HC42
        by_cases c43:a0_2=true
        ·
         subst c43
         replace H:=iT_ H
         replace H:=bi_ H
         obtain⟨t188,A440,H⟩:=H
         have A44:=A_ A440
         clear A440
         by_cases c45:t188=true
         ·
          subst c45
          replace H:=iT_ H
          replace H:=bi_ H
          obtain⟨t189,A460,H⟩:=H
          have A46:=A_ A460
          clear A460
          by_cases c47:t189=true
          ·
           subst c47
           replace H:=iT_ H
           have H':=A_ H
           clear H
           obtain⟨hcz48_0,hcz48_1,hcz48_2,hcz48_3,hcz48_4,hcz48_5⟩:=cs6_ BK181.out
           obtain⟨hfz48_0,hfz48_1,hfz48_2,hfz48_3,hfz48_4,hfz48_5⟩:=fz6_ BK181.out
           go_wp2_with (first|(go_at_call 18;(with_reducible refine(spec_l1In.calls a0_4 0 8 true _ A44.out).mono ?_);rintro e w' ⟨rfl,⟨nd,rfl⟩⟩)|(go_at_call 18;(with_reducible refine(spec_l1In.calls a0_3 0 a0_4 true _ A46.out).mono ?_);rintro e w' ⟨rfl,⟨nd,rfl⟩⟩))
           go_meet
           case rel=>exact⟨_,(false),rs_,H',⟨by have:=HJ1.out;have:=HK2.out;have:=HK3.out;first|omega|exact Nat.le_refl _⟩,⟨bk BK181.out⟩,⟨bw HB.out⟩⟩
          replace c47:=Bool.eq_false_iff.mpr c47
          subst c47
          replace H:=iF_ H
          have H':=A_ H
          clear H
          obtain⟨hcz49_0,hcz49_1,hcz49_2,hcz49_3,hcz49_4,hcz49_5⟩:=cs6_ BK181.out
          obtain⟨hfz49_0,hfz49_1,hfz49_2,hfz49_3,hfz49_4,hfz49_5⟩:=fz6_ BK181.out
          go_wp2_with (first|(go_at_call 18;(with_reducible refine(spec_l1In.calls a0_4 0 8 true _ A44.out).mono ?_);rintro e w' ⟨rfl,⟨nd,rfl⟩⟩)|(go_at_call 18;(with_reducible refine(spec_l1In.calls a0_3 0 a0_4 false _ A46.out).mono ?_);rintro e w' ⟨rfl,⟨nd,rfl⟩⟩))
          go_meet
          case rel=>exact⟨_,(true),rs_,H',⟨by have:=HJ1.out;have:=HK2.out;have:=HK3.out;first|omega|exact Nat.le_refl _⟩,⟨bk BK181.out⟩,⟨bw HB.out⟩⟩
         replace c45:=Bool.eq_false_iff.mpr c45
         subst c45
         replace H:=iF_ H
         have H':=A_ H
         clear H
         obtain⟨hcz50_0,hcz50_1,hcz50_2,hcz50_3,hcz50_4,hcz50_5⟩:=cs6_ BK181.out
         obtain⟨hfz50_0,hfz50_1,hfz50_2,hfz50_3,hfz50_4,hfz50_5⟩:=fz6_ BK181.out
         go_wp2_with (first|(go_at_call 18;(with_reducible refine(spec_l1In.calls a0_4 0 8 false _ A44.out).mono ?_);rintro e w' ⟨rfl,⟨nd,rfl⟩⟩))
         go_meet
         case rel=>exact⟨_,(true),rs_,H',⟨by have:=HJ1.out;have:=HK2.out;have:=HK3.out;first|omega|exact Nat.le_refl _⟩,⟨bk BK181.out⟩,⟨bw HB.out⟩⟩
        replace c43:=Bool.eq_false_iff.mpr c43
        subst c43
        replace H:=iF_ H
        by_cases c51:a0_3=0
        ·
         rw[if_pos c51] at H
         obtain⟨c51b0,c51b1⟩:=eT_ c51
         clear c51
         (first|rw[c51b0]|(simp only[i64_w,i32_w];rw[c51b0])|skip)
         have H':=A_ H
         clear H
         obtain⟨hcz52_0,hcz52_1,hcz52_2,hcz52_3,hcz52_4,hcz52_5⟩:=cs6_ BK181.out
         obtain⟨hfz52_0,hfz52_1,hfz52_2,hfz52_3,hfz52_4,hfz52_5⟩:=fz6_ BK181.out
         go_wp2
         go_meet
         case rel=>exact⟨_,((a0_4 !=0)),rs_,H',⟨by have:=HJ1.out;have:=HK2.out;have:=HK3.out;first|omega|exact Nat.le_refl _⟩,⟨bk BK181.out⟩,⟨bw HB.out⟩⟩
        rw[if_neg c51] at H
        obtain⟨c51b0,c51b1⟩:=eF_ c51
        (first|rw[c51b0]|(simp only[i64_w,i32_w];rw[c51b0])|skip)
        have H':=A_ H
        clear H
        obtain⟨hcz53_0,hcz53_1,hcz53_2,hcz53_3,hcz53_4,hcz53_5⟩:=cs6_ BK181.out
        obtain⟨hfz53_0,hfz53_1,hfz53_2,hfz53_3,hfz53_4,hfz53_5⟩:=fz6_ BK181.out
        go_wp2
        go_meet
        case rel=>exact⟨_,(true),rs_,H',⟨by have:=HJ1.out;have:=HK2.out;have:=HK3.out;first|omega|exact Nat.le_refl _⟩,⟨bk BK181.out⟩,⟨bw HB.out⟩⟩
       case rest=>
        clear HC42
        try clear c7 c9 c9b0 c23 c23b0 hcz22_0 hcz22_1 hcz22_2 hcz22_3 hcz22_4 hcz22_5 hcz8_0 hcz8_1 hcz8_2 hcz8_3 hcz8_4 hcz8_5 hfz22_0 hfz22_1 hfz22_2 hfz22_3 hfz22_4 hfz22_5 hfz8_0 hfz8_1 hfz8_2 hfz8_3 hfz8_4 hfz8_5
        obtain⟨kq,x80_41,rfl,HA,HJ41,BK181,HB⟩:=hcut
        cases kq with
        |zero=>exact absurd HA.out (by simp[spec_GoodShape.j3])
        |succ kj41=>
         have H:=HA.out
         clear HA
         simp only[spec_GoodShape.j3] at H
         by_cases c54:x80_41=true
         ·
          subst c54
          replace H:=iT_ H
          obtain rfl:=Option.some.inj H
          clear H
          go_wp2
          go_ret
          exact⟨rr_,bw HB.out⟩
         replace c54:=Bool.eq_false_iff.mpr c54
         subst c54
         replace H:=iF_ H
         by_cases c55:a0_5=(-1)
         ·
          rw[if_pos c55] at H
          obtain⟨c55b0,c55b1⟩:=eT_ c55
          clear c55
          obtain rfl:=Option.some.inj H
          clear H
          obtain⟨hcz56_0,hcz56_1,hcz56_2,hcz56_3,hcz56_4,hcz56_5⟩:=cs6_ BK181.out
          obtain⟨hfz56_0,hfz56_1,hfz56_2,hfz56_3,hfz56_4,hfz56_5⟩:=fz6_ BK181.out
          go_wp2
          go_ret
          exact⟨rr_,bw HB.out⟩
         rw[if_neg c55] at H
         obtain⟨c55b0,c55b1⟩:=eF_ c55
         replace H:=bi_ H
         obtain⟨t190,A570,H⟩:=H
         have A57:=A_ A570
         clear A570
         by_cases c58:t190=true
         ·
          subst c58
          replace H:=iT_ H
          by_cases c59:0≤a0_5
          ·
           rw[if_pos c59] at H
           have c59b0:=decide_eq_true c59
           clear c59
           by_cases c60:a0_5<(l0_0.length:Int)
           ·
            rw[if_pos c60] at H
            have c60b0:=decide_eq_true c60
            clear c60
            by_cases c61:(((rd_T59 l0_0 a0_5).f0).length:Int)=0
            ·
             rw[if_pos c61] at H
             obtain⟨c61b0,c61b1⟩:=eT_ c61
             clear c61
             obtain rfl:=Option.some.inj H
             clear H
             obtain⟨hcz62_0,hcz62_1,hcz62_2,hcz62_3,hcz62_4,hcz62_5⟩:=cs6_ BK181.out
             obtain⟨hfz62_0,hfz62_1,hfz62_2,hfz62_3,hfz62_4,hfz62_5⟩:=fz6_ BK181.out
             go_wp2_with (first|((with_reducible refine gc_ 18 rfl ?_);refine gn_ (some 90) Try.func18 (spec_l1In.calls a0_5 0 (wrap64 ((l0_0.length:Int) - 1)) true _ A57.out) ?_;intro nd;have p191:0≤(a0_5:Int):=od_;have q191:a0_5<(l0_0.length:Int):=od_;obtain⟨ad191,A191_0,c191_0,A191_2,c191_2,A191_3,c191_3,e191,hx191_0,hx191_1,hx191_2,hx191_3,hl191_0,hi191_0,hl191_2,hi191_2,hl191_3,hi191_3⟩:=at_T59 HR0_0.out a0_5 p191 q191;cases e191;replace hx191_0:=cl_ HB.out hx191_0;replace hx191_1:=cl_ HB.out hx191_1;replace hx191_2:=cl_ HB.out hx191_2;replace hx191_3:=cl_ HB.out hx191_3;have HR191_0:=A_ hi191_0;have HC191_0:=A_ hl191_0;clear hi191_0 hl191_0;have HR191_2:=A_ hi191_2;have HC191_2:=A_ hl191_2;clear hi191_2 hl191_2;have HR191_3:=A_ hi191_3;have HC191_3:=A_ hl191_3;clear hi191_3 hl191_3;replace p191:=eq_true p191;replace q191:=eq_true q191;have p192:0≤(a0_5:Int):=od_;have q192:a0_5<(l0_0.length:Int):=od_;obtain⟨ad192,A192_0,c192_0,A192_2,c192_2,A192_3,c192_3,e192,hx192_0,hx192_1,hx192_2,hx192_3,hl192_0,hi192_0,hl192_2,hi192_2,hl192_3,hi192_3⟩:=at_T59 HR0_0.out a0_5 p192 q192;obtain rfl:ad191=ad192:=(by injection e192);replace hx192_0:=cl_ HB.out hx192_0;replace hx192_1:=cl_ HB.out hx192_1;replace hx192_2:=cl_ HB.out hx192_2;replace hx192_3:=cl_ HB.out hx192_3;have HR192_0:=A_ hi192_0;have HC192_0:=A_ hl192_0;clear hi192_0 hl192_0;have HR192_2:=A_ hi192_2;have HC192_2:=A_ hl192_2;clear hi192_2 hl192_2;have HR192_3:=A_ hi192_3;have HC192_3:=A_ hl192_3;clear hi192_3 hl192_3;replace p192:=eq_true p192;replace q192:=eq_true q192;have ea_:=Option.some.inj (hx191_0.symm.trans hx192_0);injection ea_ with ea_ en_ ec_;subst ea_;subst ec_;clear en_;have ea_:=Option.some.inj (hx191_2.symm.trans hx192_2);injection ea_ with ea_ en_ ec_;subst ea_;subst ec_;clear en_;have ea_:=Option.some.inj (hx191_3.symm.trans hx192_3);injection ea_ with ea_ en_ ec_;subst ea_;subst ec_;clear en_))
             go_ret
             exact⟨rr_,bw HB.out⟩
            rw[if_neg c61] at H
            obtain⟨c61b0,c61b1⟩:=eF_ c61
            have c61b2:¬(((rd_T59 l0_0 a0_5).f0)=[]):=fun h_=>c61 (by rw[h_];rfl)
            obtain rfl:=Option.some.inj H
            clear H
            obtain⟨hcz63_0,hcz63_1,hcz63_2,hcz63_3,hcz63_4,hcz63_5⟩:=cs6_ BK181.out
            obtain⟨hfz63_0,hfz63_1,hfz63_2,hfz63_3,hfz63_4,hfz63_5⟩:=fz6_ BK181.out
            go_wp2_with (first|((with_reducible refine gc_ 18 rfl ?_);refine gn_ (some 90) Try.func18 (spec_l1In.calls a0_5 0 (wrap64 ((l0_0.length:Int) - 1)) true _ A57.out) ?_;intro nd;have p191:0≤(a0_5:Int):=od_;have q191:a0_5<(l0_0.length:Int):=od_;obtain⟨ad191,A191_0,c191_0,A191_2,c191_2,A191_3,c191_3,e191,hx191_0,hx191_1,hx191_2,hx191_3,hl191_0,hi191_0,hl191_2,hi191_2,hl191_3,hi191_3⟩:=at_T59 HR0_0.out a0_5 p191 q191;cases e191;replace hx191_0:=cl_ HB.out hx191_0;replace hx191_1:=cl_ HB.out hx191_1;replace hx191_2:=cl_ HB.out hx191_2;replace hx191_3:=cl_ HB.out hx191_3;have HR191_0:=A_ hi191_0;have HC191_0:=A_ hl191_0;clear hi191_0 hl191_0;have HR191_2:=A_ hi191_2;have HC191_2:=A_ hl191_2;clear hi191_2 hl191_2;have HR191_3:=A_ hi191_3;have HC191_3:=A_ hl191_3;clear hi191_3 hl191_3;replace p191:=eq_true p191;replace q191:=eq_true q191))
            go_ret
            exact⟨rr_,bw HB.out⟩
           rw[if_neg c60] at H
           exact absurd H (by simp)
          rw[if_neg c59] at H
          exact absurd H (by simp)
         replace c58:=Bool.eq_false_iff.mpr c58
         subst c58
         replace H:=iF_ H
         obtain rfl:=Option.some.inj H
         clear H
         obtain⟨hcz64_0,hcz64_1,hcz64_2,hcz64_3,hcz64_4,hcz64_5⟩:=cs6_ BK181.out
         obtain⟨hfz64_0,hfz64_1,hfz64_2,hfz64_3,hfz64_4,hfz64_5⟩:=fz6_ BK181.out
         go_wp2_with (first|((with_reducible refine gc_ 18 rfl ?_);refine gn_ (some 90) Try.func18 (spec_l1In.calls a0_5 0 (wrap64 ((l0_0.length:Int) - 1)) false _ A57.out) ?_;intro nd))
         go_ret
         exact⟨rr_,bw HB.out⟩


/-! ### spec_l7S_begin: function 29 (walked by hand) -/

/-! Steps of a walk through a drawn region, each said once. -/
section
variable {P:Program} {ops:Array Oper} {Q:Exit→Act→World→Prop} {md:Region.Mode} {S:World→Prop} {ds:List Nat} {T:Bool × List (List Nat × List Nat)} {BB:List Nat} {fuel:Nat} {l:Array Bool} {a a':Act} {w:World} {oi:Oper}
theorem sS (n:Nat) (S:World→Prop) (ds:List Nat) {id:Nat} (hS:S w.drew) (hT:rtab .any ops=T) (hB:waitsOk T.2 BB=true)
  (h:S w.drew→Aside0 (rtab .any ops=T)→Aside0 (waitsOk T.2 BB=true)→wpAnyLast P .any ops Q S ds n (Array.replicate n false) a w.drew)
  (hm:P.follows .mixedOrders=true:=by kernel_rfl) (hn:ops.size=n:=by rfl):(Code.region id ops true).wp P Q a w:=
 start_ _ hm hn rfl hS (fun k=>h k ⟨hT⟩ ⟨hB⟩)
theorem pS (HT:Aside0 (rtab md ops=T)) (i:Nat) (N:Tmp) {v:Value} (h:wpAnyLast P md ops Q S ds fuel (l.setIfInBounds i true) a' w) (hi:ops[i]? =some oi:=by rfl) (hN:oi.dst=some N:=by rfl)
  (hc:anyT T l.toList (l.setIfInBounds i true).toList i=true:=by kernel_rfl) (hQ:∀ c a w,Q (.panic c) (a.put (some N) v) w→Q (.panic c) a w:=by exact fun _ _ _ h=>h)
  (hw:Region.wanted oi (yielded ops a.tmps)=true:=by rfl) (hy:∀ w,(execOp a.eval oi).run P w=.ok (.value v) w:=by intro w';go_simp;with_reducible rfl)
  (ha:a.put (some N) v=a':=by simp only[Act.put,List.setIfInBounds_toArray,List.set_cons_zero,List.set_cons_succ,i64_w,i32_w];rfl):wpAnyLast P md ops Q S ds (fuel+1) l a w:=
 pure_ _ hi hN (any_of HT.out hc) (fun c a w h=>hQ c a w (hN▸h)) (.inl ⟨hw,hy⟩) ha h
theorem pO (HT:Aside0 (rtab md ops=T)) (i:Nat) (N:Tmp) {v:Value} (hy:∀ w,(execOp a.eval oi).run P w=.ok (.value v) w) (h:wpAnyLast P md ops Q S ds fuel (l.setIfInBounds i true) a' w) (hi:ops[i]? =some oi:=by rfl) (hN:oi.dst=some N:=by rfl)
  (hc:anyT T l.toList (l.setIfInBounds i true).toList i=true:=by kernel_rfl) (hQ:∀ c a w,Q (.panic c) (a.put (some N) v) w→Q (.panic c) a w:=by exact fun _ _ _ h=>h)
  (hw:Region.wanted oi (yielded ops a.tmps)=true:=by rfl)
  (ha:a.put (some N) v=a':=by simp only[Act.put,List.setIfInBounds_toArray,List.set_cons_zero,List.set_cons_succ,i64_w,i32_w];rfl):wpAnyLast P md ops Q S ds (fuel+1) l a w:=
 pure_ _ hi hN (any_of HT.out hc) (fun c a w h=>hQ c a w (hN▸h)) (.inl ⟨hw,hy⟩) ha h
theorem pN (HT:Aside0 (rtab md ops=T)) (i:Nat) (N:Tmp) (h:wpAnyLast P md ops Q S ds fuel (l.setIfInBounds i true) a' w) (hi:ops[i]? =some oi:=by rfl) (hN:oi.dst=some N:=by rfl)
  (hc:anyT T l.toList (l.setIfInBounds i true).toList i=true:=by kernel_rfl) (hQ:∀ c a w,Q (.panic c) (a.put (some N) undef) w→Q (.panic c) a w:=by exact fun _ _ _ h=>h)
  (hw:Region.wanted oi (yielded ops a.tmps)=false:=by rfl)
  (ha:a.put (some N) undef=a':=by simp only[Act.put,List.setIfInBounds_toArray,List.set_cons_zero,List.set_cons_succ,i64_w,i32_w];rfl):wpAnyLast P md ops Q S ds (fuel+1) l a w:=
 pure_ _ hi hN (any_of HT.out hc) (fun c a w h=>hQ c a w (hN▸h)) (.inr ⟨hw,rfl⟩) ha h
theorem tS (HT:Aside0 (rtab md ops=T)) (HW:Aside0 (waitsOk T.2 BB=true)) (i:Nat) (N:Tmp) {v:Value} (hS:S w) (h:wpAnyLast P md ops Q S ds fuel (l.setIfInBounds i true) a' w) (hi:ops[i]? =some oi:=by rfl) (hN:oi.dst=some N:=by rfl)
  (hc:takeW T BB ds l.toList (l.setIfInBounds i true).toList i=true:=by kernel_rfl) (hQ:∀ c a w,Q (.panic c) (a.put (some N) v) w→Q (.panic c) a w:=by exact fun _ _ _ h=>h)
  (hw:Region.wanted oi (yielded ops a.tmps)=true:=by rfl) (hy:∀ w,S w→(execOp a.eval oi).run P w=.ok (.value v) w:=by intro w' hs_;(try dsimp only at hs_);go_simp;with_reducible rfl)
  (ha:a.put (some N) v=a':=by simp only[Act.put,List.setIfInBounds_toArray,List.set_cons_zero,List.set_cons_succ,i64_w,i32_w];rfl):wpAnyLast P md ops Q S ds (fuel+1) l a w:=
 take_ _ hi hN (take_ofW HT.out HW.out hc) (fun c a w h=>hQ c a w (hN▸h)) (.inl ⟨hw,hy⟩) hS ha h
theorem oS (HT:Aside0 (rtab md ops=T)) (i:Nat) (N:Option Tmp)
  (h:∀ K:Act→World→Prop,Shut (∀ a' w',S w'→(S w'→wpAnyLast P md ops Q S ds fuel (l.setIfInBounds i true) a' w')→K a' w')→if Region.wanted oi (yielded ops a.tmps)=true then Oper.wp P oi a w K Q else K (a.put N undef) w)
  (hi:ops[i]? =some oi:=by rfl) (hN:oi.dst=N:=by rfl) (hc:(readyT T.2 l.toList==[i] && l.toList.set i true==(l.setIfInBounds i true).toList)=true:=by kernel_rfl) (hd:i∉ds:=by decide):wpAnyLast P md ops Q S ds (fuel+1) l a w:=
 one_ _ hi hN (one_of HT.out hc) hd h
theorem lS (HT:Aside0 (rtab md ops=T)) (i:Nat) (N:Option Tmp)
  (h:∀ K:Act→World→Prop,Shut (∀ a' w',wpAnyLast P md ops Q S ds fuel (l.setIfInBounds i true) a' w'→K a' w')→if Region.wanted oi (yielded ops a.tmps)=true then Oper.wp P oi a w K Q else K (a.put N undef) w)
  (hi:ops[i]? =some oi:=by rfl) (hN:oi.dst=N:=by rfl) (hc:(readyT T.2 l.toList==[i] && l.toList.set i true==(l.setIfInBounds i true).toList)=true:=by kernel_rfl) (hd:i∈ds:=by decide):wpAnyLast P md ops Q S ds (fuel+1) l a w:=
 last_ _ hi hN (one_of HT.out hc) hd h
theorem nS (N:Option Tmp) {v:Value} (h:wpAnyLast P md ops Q S ds fuel l a' w) (ha:a.put N v=a':=by simp only[Act.put,List.setIfInBounds_toArray,List.set_cons_zero,List.set_cons_succ,i64_w,i32_w];rfl):wpAnyLast P md ops Q S ds fuel l (a.put N v) w:=norm_ ha h
theorem dS (HT:Aside0 (rtab md ops=T)) {n:Nat} (h:Q .normal a w) (hc:(readyT T.2 l.toList==[])=true:=by kernel_rfl):wpAnyLast P md ops Q S ds n l a w:=done_ (done_of HT.out hc) h
end
/-! Rows of one's own: cut, and beside other blocks. -/
theorem Reps.cut_ {α:Type} {R:α→List Value→Prop} {sz:Nat} {ps:List α} {cs:List Value} (h:Reps R sz ps cs) (k:Nat):Reps R sz (ps.take k) (cs.take (k*sz)):=by
 refine⟨?_,fun j p hj=>?_⟩
 ·
  rw[List.length_take,List.length_take,h.1]
  rcases Nat.le_total k ps.length with hk|hk
  ·
   rw[Nat.min_eq_left hk,Nat.min_eq_left (Nat.mul_le_mul_right _ hk)]
  rw[Nat.min_eq_right hk,Nat.min_eq_right (Nat.mul_le_mul_right _ hk)]
 rw[List.getElem?_take] at hj
 split at hj
 ·
  next hlt=>
  have h1:=h.2 j p hj
  have e:((cs.take (k*sz)).drop (j*sz)).take sz=(cs.drop (j*sz)).take sz:=by
   rw[List.drop_take,List.take_take]
   congr 1
   have:(j+1)*sz≤k*sz:=Nat.mul_le_mul_right _ hlt
   rw[Nat.succ_mul] at this
   omega
  rw[e];exact h1
 cases hj
theorem R_cut {α:Type} {d:Kd α} {e:Nat} {w:World} {base:Nat} {ok:Nat→Prop} {A:Option Addr} {n cap:Nat} {xs:List α} (h:d.R e w base ok (.slice A n cap) xs) (k:Nat) (hk:k≤n):d.R e w base ok (.slice A k cap) (xs.take k):=by
 obtain⟨hn,_,_⟩:=Kd.R_reads' h
 obtain⟨h0,inner,⟨hl,ho⟩,hr⟩:=h
 have hkl:(xs.take k).length=k:=by rw[List.length_take];omega
 have hown:∀ m,Value.ownBlock (.slice A m cap)=Value.ownBlock (.slice A n cap):=fun m=>by cases A<;>rfl
 have hsz:(inner.take (k*d.sz)).length=k*d.sz:=by
  rw[List.length_take,hl,←hn]
  exact Nat.min_eq_left (Nat.mul_le_mul_right _ hk)
 refine⟨fun q hq=>h0 q (by rw[←hown k];exact hq),inner.take (k*d.sz),⟨by rw[hkl];exact hsz,?_⟩,?_⟩
 ·
  rw[hkl]
  rcases ho with ⟨hv,h2⟩|⟨g,c,cur,hv,hb,hg,hnc,hc,hcs,ht⟩
  ·
   injection hv with hA hn0 hcap
   subst hA hcap
   obtain rfl:k=0:=by omega
   exact .inl ⟨rfl,rfl⟩
  injection hv with hA hn0 hcap
  subst hA hcap
  refine .inr ⟨g,cap,cur,rfl,hb,hg,by omega,hc,hcs,?_⟩
  rw[←ht,List.take_take,Nat.min_eq_left (Nat.mul_le_mul_right _ (by omega))]
 rw[hown k];exact Reps.cut_ hr k
theorem R_set1 {α:Type} {d:Kd α} {e:Nat} {w:World} {base:Nat} {v:Value} {xs:List α} (h:d.R e w base (fun _=>True) v xs) (hE:d.E=[]) {g t:Nat} {cells:Array Value} (hb:w.heap[g]? =some (.cells cells t (0,0))) (ht:e≠t) (i:Nat) (u:Value):d.R e (w.setCell ⟨g,i,none⟩ u) base (fun _=>True) v xs:=
 Kd.R_mono (Kd.R_far (Kd.R_far1 h hE (Kd.R_ne h hb ht)) (fun k hk=>hk.2) u) (fun _ _=>trivial)
section
variable {α:Type} {d:Kd α} {e:Nat} {w:World} {base:Nat} {ok:Nat→Prop}
theorem R_typed {v:Value} {xs:List α} (h:d.R e w base ok v xs) {g:Nat} (hv:v.ownBlock=some g):base≤g∧∃ cells,w.heap[g]? =some (.cells cells e (0,0)):=by
 obtain⟨_,inner,⟨_,ho⟩,_⟩:=h
 rcases ho with ⟨rfl,_⟩|⟨g',c,cur,rfl,hb,hg,_⟩
 ·
  cases hv
 obtain rfl:=Option.some.inj hv
 exact⟨hb,cur,hg⟩
theorem R_shape {A:Option Addr} {n cap:Nat} {xs:List α} (h:d.R e w base ok (.slice A n cap) xs):(A=none∧n=0∧cap=0)∨∃ gA,A=some ⟨gA,0,none⟩:=by
 obtain⟨_,inner,⟨_,ho⟩,_⟩:=h
 rcases ho with ⟨hv,_⟩|⟨g',c,cur,hv,hb,hg,_⟩
 ·
  injection hv with h1 h2 h3
  exact .inl ⟨h1,h2,h3⟩
 injection hv with h1 h2 h3
 exact .inr ⟨g',h1⟩
end
theorem keep_other {w w1:World} {g gn:Nat} {row:Option Nat} (h:KeepBut w w1 g row) (hg:w.heap.size≤gn) (j:Nat) (u:Value):KeepBut w (w1.setCell ⟨gn,j,none⟩ u) g row:=
 ⟨by have:=(KeepBut.set_ (KeepBut.refl w1 gn none) j u).1;exact Nat.le_trans h.1 this,fun i hi h1 h2=>(Below.heap_setCell w1 ⟨gn,j,none⟩ u i (by show i≠gn;omega)).trans (h.2 i hi h1 h2)⟩
structure CS (β:Type) where
 st:List Int
 sp:List β
 hi:Int
 fa:Int
def CS.fail {β:Type} (c:CS β) (k:Int):CS β:=if c.fa=0 then {c with fa:=k} else c
theorem fail_st {β:Type} (c:CS β) (k:Int):(c.fail k).st=c.st∧(c.fail k).sp=c.sp:=by unfold CS.fail;split<;>exact⟨rfl,rfl⟩
theorem drewN_two (w:World) (a b:Nat):∃ n,(w.drewN a).drewN b=w.drewN n:=⟨a+b,by simp[World.drewN,Nat.add_assoc]⟩
theorem ck_w (n:Int) (h:-9223372036854775808≤n∧n≤9223372036854775807):IntKind.i64.wrap n=n:=IntWalk.i64_in _ h
def CS.put {β:Type} (c:CS β) (k:Int):Option (CS β):=if k=64 then some c else if c.st.length<17592186044416 then some {c with st:=c.st++[k],hi:=if c.hi<(c.st.length:Int)+1 then (c.st.length:Int)+1 else c.hi} else none
/-! #### the program's spans: struct type 82 -/
structure S82 where
 f0:Int
 f1:Int
 f2:Int
 f3:Bool
 f4:Bool
def z82:S82:=⟨(0:Int),(0:Int),(0:Int),false,false⟩
def k82:Kd S82:=Kd.iso (Kd.pair (Kd.int .i64) (Kd.pair (Kd.int .i64) (Kd.pair (Kd.int .i64) (Kd.pair Kd.bool Kd.bool)))) (fun x:S82=>(x.f0,x.f1,x.f2,x.f3,x.f4))
theorem k82_open {w:World} {x:S82} {cs:List Value} (h:k82.K w x cs):cs=[.int .i64 x.f0,.int .i64 x.f1,.int .i64 x.f2,.bool x.f3,.bool x.f4]:=by
 obtain⟨_,_,rfl,rfl,⟨_,_,rfl,rfl,⟨_,_,rfl,rfl,⟨_,_,rfl,rfl,rfl⟩⟩⟩⟩:=h
 exact rfl
theorem k82_openM {w:World} {base:Nat} {ok:Nat→Prop} {x:S82} {cs:List Value} (h:k82.M w base ok x cs):cs=[.int .i64 x.f0,.int .i64 x.f1,.int .i64 x.f2,.bool x.f3,.bool x.f4]:=by
 obtain⟨_,_,rfl,rfl,⟨_,_,rfl,rfl,⟨_,_,rfl,rfl,⟨_,_,rfl,rfl,rfl⟩⟩⟩⟩:=h
 exact rfl
theorem k82_mk (w:World) (x:S82):k82.K w x [.int .i64 x.f0,.int .i64 x.f1,.int .i64 x.f2,.bool x.f3,.bool x.f4]:=⟨[.int .i64 x.f0],[.int .i64 x.f1,.int .i64 x.f2,.bool x.f3,.bool x.f4],rfl,rfl,⟨[.int .i64 x.f1],[.int .i64 x.f2,.bool x.f3,.bool x.f4],rfl,rfl,⟨[.int .i64 x.f2],[.bool x.f3,.bool x.f4],rfl,rfl,⟨[.bool x.f3],[.bool x.f4],rfl,rfl,rfl⟩⟩⟩⟩
theorem k82_mkM (w:World) (base:Nat) (ok:Nat→Prop) (x:S82):k82.M w base ok x [.int .i64 x.f0,.int .i64 x.f1,.int .i64 x.f2,.bool x.f3,.bool x.f4]:=⟨[.int .i64 x.f0],[.int .i64 x.f1,.int .i64 x.f2,.bool x.f3,.bool x.f4],rfl,rfl,⟨[.int .i64 x.f1],[.int .i64 x.f2,.bool x.f3,.bool x.f4],rfl,rfl,⟨[.int .i64 x.f2],[.bool x.f3,.bool x.f4],rfl,rfl,⟨[.bool x.f3],[.bool x.f4],rfl,rfl,rfl⟩⟩⟩⟩
def rd_T82 (xs:List S82) (i:Int):S82:=xs.getD i.toNat z82
theorem at_T82 {w:World} {A:Option Addr} {n:Nat} {xs:List S82} (h:Kd.C k82 w A n xs) (i:Int) (h0:0≤i) (h1:i<n):∃ ad,A=some ad∧w.cell? (ad.add (i.toNat*5))=some (.int .i64 (rd_T82 xs i).f0)∧w.cell? ⟨(ad.add (i.toNat*5)).block,(ad.add (i.toNat*5)).off+1,none⟩=some (.int .i64 (rd_T82 xs i).f1)∧w.cell? ⟨(ad.add (i.toNat*5)).block,(ad.add (i.toNat*5)).off+2,none⟩=some (.int .i64 (rd_T82 xs i).f2)∧w.cell? ⟨(ad.add (i.toNat*5)).block,(ad.add (i.toNat*5)).off+3,none⟩=some (.bool (rd_T82 xs i).f3)∧w.cell? ⟨(ad.add (i.toNat*5)).block,(ad.add (i.toNat*5)).off+4,none⟩=some (.bool (rd_T82 xs i).f4):=by
 obtain⟨ad,c,e,_,hK,hc0⟩:=Kd.C_get h z82 i h0 h1
 have hc:∀ j u,c[j]? =some u→w.cell? (ad.add (i.toNat*5+j))=some u:=hc0
 obtain rfl:=k82_open hK
 exact⟨ad,e,hc 0 _ rfl,by rw[←add_field _ _ 1 (by omega)];exact hc 1 _ rfl,by rw[←add_field _ _ 2 (by omega)];exact hc 2 _ rfl,by rw[←add_field _ _ 3 (by omega)];exact hc 3 _ rfl,by rw[←add_field _ _ 4 (by omega)];exact hc 4 _ rfl⟩
theorem info82:(Try.prog.info? 82).map (fun i=>(i.zero,i.size,i.bytes))=some (some (.agg #[(.int .i64 0),(.int .i64 0),(.int .i64 0),(.bool false),(.bool false)]),5,32):=by kernel_rfl

/-! The state Ck: a block of type 80. -/
def Ck (w0 w:World) (g:Nat) (q:Nat→Value) (c:CS S82) (A:Option Addr) (n1:Nat) (B:Option Addr) (n2:Nat):Prop:=
 w0.heap.size≤g∧Below w0.heap.size w0 w∧w.heap[g]? =some (.cells #[q 0,q 1,.slice A c.st.length n1,.slice B c.sp.length n2,.int .i64 c.hi,.int .i64 c.fa] 80 (0,0))∧Kd.R (Kd.int .i64) 3 w w0.heap.size (fun _=>True) (.slice A c.st.length n1) c.st∧Kd.R k82 82 w w0.heap.size (fun _=>True) (.slice B c.sp.length n2) c.sp
def CkE (w0 w:World) (g:Nat) (q:Nat→Value) (c:CS S82):Prop:=∃ A n1 B n2,Ck w0 w g q c A n1 B n2
section
variable {w0 w w1:World} {g:Nat} {q:Nat→Value} {c:CS S82} {A:Option Addr} {n1:Nat} {B:Option Addr} {n2:Nat}
theorem Ck.below (h:Ck w0 w g q c A n1 B n2) (hb:Below w.heap.size w w1):Ck w0 w1 g q c A n1 B n2:=
 ⟨h.1,below_weaken h.2.1 h.2.1.size hb,blk_below h.2.2.1 hb,Kd.R_below h.2.2.2.1 hb,Kd.R_below h.2.2.2.2 hb⟩
theorem CkE.below (h:CkE w0 w g q c) (hb:Below w.heap.size w w1):CkE w0 w1 g q c:=by
 obtain⟨A,n1,B,n2,h⟩:=h
 exact⟨A,n1,B,n2,h.below hb⟩
theorem Ck.cell0 (h:Ck w0 w g q c A n1 B n2):w.cell? ⟨g,0,none⟩=some (q 0):=(blk_cell h.2.2.1 0).trans rfl
theorem Ck.cell1 (h:Ck w0 w g q c A n1 B n2):w.cell? ⟨g,1,none⟩=some (q 1):=(blk_cell h.2.2.1 1).trans rfl
theorem Ck.cell2 (h:Ck w0 w g q c A n1 B n2):w.cell? ⟨g,2,none⟩=some (.slice A c.st.length n1):=(blk_cell h.2.2.1 2).trans rfl
theorem Ck.cell3 (h:Ck w0 w g q c A n1 B n2):w.cell? ⟨g,3,none⟩=some (.slice B c.sp.length n2):=(blk_cell h.2.2.1 3).trans rfl
theorem Ck.cell4 (h:Ck w0 w g q c A n1 B n2):w.cell? ⟨g,4,none⟩=some (.int .i64 c.hi):=(blk_cell h.2.2.1 4).trans rfl
theorem Ck.cell5 (h:Ck w0 w g q c A n1 B n2):w.cell? ⟨g,5,none⟩=some (.int .i64 c.fa):=(blk_cell h.2.2.1 5).trans rfl
theorem Ck.frozen (h:Ck w0 w g q c A n1 B n2) (i:Nat):w.frozen? ⟨g,i,none⟩=false:=blk_frozen h.2.2.1 i
theorem Ck.setH (h:Ck w0 w g q c A n1 B n2) (x:Int):Ck w0 (w.setCell ⟨g,4,none⟩ (.int .i64 x)) g q {c with hi:=x} A n1 B n2:=
 ⟨h.1,below_set h.2.1 h.1,blk_put h.2.2.1 4 _ rfl,R_set1 h.2.2.2.1 rfl h.2.2.1 (by decide) _ _,R_set1 h.2.2.2.2 rfl h.2.2.1 (by decide) _ _⟩
theorem Ck.setF (h:Ck w0 w g q c A n1 B n2) (x:Int):Ck w0 (w.setCell ⟨g,5,none⟩ (.int .i64 x)) g q {c with fa:=x} A n1 B n2:=
 ⟨h.1,below_set h.2.1 h.1,blk_put h.2.2.1 5 _ rfl,R_set1 h.2.2.2.1 rfl h.2.2.1 (by decide) _ _,R_set1 h.2.2.2.2 rfl h.2.2.1 (by decide) _ _⟩
theorem Ck.cutS (h:Ck w0 w g q c A n1 B n2) (k:Nat) (hk:k≤c.st.length):Ck w0 (w.setCell ⟨g,2,none⟩ (.slice A k n1)) g q {c with st:=c.st.take k} A n1 B n2:=by
 have e:(c.st.take k).length=k:=by rw[List.length_take];omega
 have h1:=R_set1 (R_cut h.2.2.2.1 k hk) rfl h.2.2.1 (by decide) 2 (.slice A k n1)
 refine⟨h.1,below_set h.2.1 h.1,blk_put h.2.2.1 2 _ (by simp only[e];rfl),?_,R_set1 h.2.2.2.2 rfl h.2.2.1 (by decide) _ _⟩
 simp only[e];exact h1
theorem Ck.cutP (h:Ck w0 w g q c A n1 B n2) (k:Nat) (hk:k≤c.sp.length):Ck w0 (w.setCell ⟨g,3,none⟩ (.slice B k n2)) g q {c with sp:=c.sp.take k} A n1 B n2:=by
 have e:(c.sp.take k).length=k:=by rw[List.length_take];omega
 have h1:=R_set1 (R_cut h.2.2.2.2 k hk) rfl h.2.2.1 (by decide) 3 (.slice B k n2)
 refine⟨h.1,below_set h.2.1 h.1,blk_put h.2.2.1 3 _ (by simp only[e];rfl),R_set1 h.2.2.2.1 rfl h.2.2.1 (by decide) _ _,?_⟩
 simp only[e];exact h1
theorem Ck.fresh_ne (h:Ck w0 w g q c A n1 B n2) {gn:Nat} (hg:gn=w.heap.size):gn≠g∧(∀ a,A=some a→a.block≠gn)∧(∀ a,B=some a→a.block≠gn):=by
 subst hg
 refine⟨?_,?_,?_⟩
 ·
  have:=blk_lt h.2.2.1;omega
 ·
  rintro a rfl
  obtain⟨_,cells,hc⟩:=R_typed h.2.2.2.1 (g:=a.block) rfl
  have:=blk_lt hc;omega
 rintro a rfl
 obtain⟨_,cells,hc⟩:=R_typed h.2.2.2.2 (g:=a.block) rfl
 have:=blk_lt hc;omega
theorem Ck.other {gn:Nat} (h:Ck w0 w g q c A n1 B n2) (hge:w0.heap.size≤gn) (hn:gn≠g∧(∀ a,A=some a→a.block≠gn)∧(∀ a,B=some a→a.block≠gn)) (i:Nat) (u:Value):Ck w0 (w.setCell ⟨gn,i,none⟩ u) g q c A n1 B n2:=by
 have hA:some gn≠Value.ownBlock (.slice A c.st.length n1):=by
  intro e
  cases A with
  |none=>cases e
  |some a=>exact hn.2.1 a rfl (Option.some.inj e).symm
 have hB:some gn≠Value.ownBlock (.slice B c.sp.length n2):=by
  intro e
  cases B with
  |none=>cases e
  |some a=>exact hn.2.2 a rfl (Option.some.inj e).symm
 exact⟨h.1,below_set h.2.1 hge,(Below.heap_setCell w ⟨gn,i,none⟩ u g (fun e=>hn.1 e.symm)).trans h.2.2.1,
  Kd.R_mono (Kd.R_far (Kd.R_far1 h.2.2.2.1 rfl hA) (fun k hk=>hk.2) u) (fun _ _=>trivial),Kd.R_mono (Kd.R_far (Kd.R_far1 h.2.2.2.2 rfl hB) (fun k hk=>hk.2) u) (fun _ _=>trivial)⟩
/-- Behind an append to the stack: the block stands, and the spans. -/
theorem Ck.appS (h:Ck w0 w g q c A n1 B n2) {v1:Value} {x:Int} (hv:Kd.R (Kd.int .i64) 3 w1 w0.heap.size (fun _=>True) v1 (c.st++[x])) (hb:Below w0.heap.size w0 w1) (hg:w.grownBy w1 (Value.ownBlock (.slice A c.st.length n1))):
  w1.heap[g]? =some (.cells #[q 0,q 1,.slice A c.st.length n1,.slice B c.sp.length n2,.int .i64 c.hi,.int .i64 c.fa] 80 (0,0))∧∃ A' n',v1=.slice A' (c.st.length+1) n'∧Ck w0 (w1.setCell ⟨g,2,none⟩ v1) g q {c with st:=c.st++[x]} A' n' B n2:=by
 have hne:=Kd.R_ne h.2.2.2.1 h.2.2.1 (by decide)
 have hblk:=blk_grown h.2.2.1 hg hne
 have hsp:Kd.R k82 82 w1 w0.heap.size (fun _=>True) (.slice B c.sp.length n2) c.sp:=Kd.R_grown2 h.2.2.2.2 rfl hg (fun k hk=>by
  obtain⟨_,cells,hc⟩:=R_typed h.2.2.2.1 hk
  exact Kd.R_ne h.2.2.2.2 hc (by decide))
 obtain⟨A',n',e⟩:=Kd.R_slice hv
 subst e
 rw[List.length_append,List.length_singleton] at hv
 refine⟨hblk,A',n',by rw[List.length_append,List.length_singleton],?_⟩
 have e:(c.st++[x]).length=c.st.length+1:=by rw[List.length_append,List.length_singleton]
 have h1:=R_set1 hv rfl hblk (by decide) 2 (.slice A' (c.st++[x]).length n')
 refine⟨h.1,below_set hb h.1,blk_put hblk 2 _ rfl,?_,R_set1 hsp rfl hblk (by decide) _ _⟩
 simp only[e] at h1 ⊢;exact h1
theorem Ck.appP (h:Ck w0 w g q c A n1 B n2) {v1:Value} {x:S82} (hv:Kd.R k82 82 w1 w0.heap.size (fun _=>True) v1 (c.sp++[x])) (hb:Below w0.heap.size w0 w1) (hg:w.grownBy w1 (Value.ownBlock (.slice B c.sp.length n2))):
  w1.heap[g]? =some (.cells #[q 0,q 1,.slice A c.st.length n1,.slice B c.sp.length n2,.int .i64 c.hi,.int .i64 c.fa] 80 (0,0))∧∃ B' n',v1=.slice B' (c.sp.length+1) n'∧Ck w0 (w1.setCell ⟨g,3,none⟩ v1) g q {c with sp:=c.sp++[x]} A n1 B' n':=by
 have hne:=Kd.R_ne h.2.2.2.2 h.2.2.1 (by decide)
 have hblk:=blk_grown h.2.2.1 hg hne
 have hst:Kd.R (Kd.int .i64) 3 w1 w0.heap.size (fun _=>True) (.slice A c.st.length n1) c.st:=Kd.R_grown2 h.2.2.2.1 rfl hg (fun k hk=>by
  obtain⟨_,cells,hc⟩:=R_typed h.2.2.2.2 hk
  exact Kd.R_ne h.2.2.2.1 hc (by decide))
 obtain⟨B',n',e⟩:=Kd.R_slice hv
 subst e
 rw[List.length_append,List.length_singleton] at hv
 refine⟨hblk,B',n',by rw[List.length_append,List.length_singleton],?_⟩
 have e:(c.sp++[x]).length=c.sp.length+1:=by rw[List.length_append,List.length_singleton]
 have h1:=R_set1 hv rfl hblk (by decide) 3 (.slice B' (c.sp++[x]).length n')
 refine⟨h.1,below_set hb h.1,blk_put hblk 3 _ rfl,R_set1 hst rfl hblk (by decide) _ _,?_⟩
 simp only[e] at h1 ⊢;exact h1
theorem Ck.stk (h:Ck w0 w g q c A n1 B n2) (j:Nat) (x:Int) (hx:c.st[j]? =some x):∃ gA,A=some ⟨gA,0,none⟩∧w.cell? ⟨gA,j,none⟩=some (.int .i64 x):=by
 have hj:j<c.st.length:=(List.getElem?_eq_some_iff.1 hx).1
 obtain⟨gA,cap,e,gb,gl,cells,hc⟩:=Kd.R_form h.2.2.2.1 (by omega)
 injection e with eA e2 e3
 subst eA
 have h1:=(Kd.R_celln 0 h.2.2.2.1 (j:Int) (by omega) (by omega)).1
 rw[Int.toNat_natCast] at h1
 refine⟨gA,rfl,h1.trans ?_⟩
 unfold rdOf
 rw[Int.toNat_natCast,List.getD_eq_getElem?_getD,hx]
 rfl
theorem Ck.lenS (h:Ck w0 w g q c A n1 B n2):c.st.length≤9223372036854775807∧c.st.length≤n1:=⟨Kd.C_max (Kd.R_reads' h.2.2.2.1).2.2,(Kd.R_reads' h.2.2.2.1).2.1⟩
theorem Ck.lenP (h:Ck w0 w g q c A n1 B n2):c.sp.length≤9223372036854775807∧c.sp.length≤n2:=⟨Kd.C_max (Kd.R_reads' h.2.2.2.2).2.2,(Kd.R_reads' h.2.2.2.2).2.1⟩
theorem Ck.drewN (h:Ck w0 w g q c A n1 B n2) (n:Nat):Ck w0 (w.drewN n) g q c A n1 B n2:=h.below (pw_below_drewN (Below.refl _ _) n)
theorem Ck.drew (h:Ck w0 w g q c A n1 B n2):Ck w0 w.drew g q c A n1 B n2:=h.below (below_drew (Below.refl _ _))
/-- The j-th span. -/
theorem Ck.span (h:Ck w0 w g q c A n1 B n2) (j:Nat) (x:S82) (hx:c.sp[j]? =some x):∃ gB,B=some ⟨gB,0,none⟩∧w0.heap.size≤gB∧w.cell? ⟨gB,j*5,none⟩=some (.int .i64 x.f0)∧w.cell? ⟨gB,j*5+1,none⟩=some (.int .i64 x.f1)∧w.cell? ⟨gB,j*5+2,none⟩=some (.int .i64 x.f2)∧w.cell? ⟨gB,j*5+3,none⟩=some (.bool x.f3)∧w.cell? ⟨gB,j*5+4,none⟩=some (.bool x.f4)∧∀ i,w.frozen? ⟨gB,i,none⟩=false:=by
 have hj:j<c.sp.length:=(List.getElem?_eq_some_iff.1 hx).1
 obtain⟨gB,cap,e,gb,gl,cells,hc⟩:=Kd.R_form h.2.2.2.2 (by omega)
 injection e with eA e2 e3
 subst eA
 have hR:=h.2.2.2.2
 obtain⟨cs,hl,hM,hcc,_⟩:=Kd.R_elem hR z82 (j:Int) (by omega) (by omega)
 rw[Int.toNat_natCast,List.getD_eq_getElem?_getD,hx] at hM
 rw[Int.toNat_natCast] at hcc
 obtain rfl:=k82_openM hM
 have h5:∀ i u,[Value.int .i64 x.f0,.int .i64 x.f1,.int .i64 x.f2,.bool x.f3,.bool x.f4][i]? =some u→w.cell? ⟨gB,j*5+i,none⟩=some u:=hcc
 exact⟨gB,rfl,gb,h5 0 _ rfl,h5 1 _ rfl,h5 2 _ rfl,h5 3 _ rfl,h5 4 _ rfl,fun i=>blk_frozen hc i⟩
/-- A field of the j-th span is written. -/
theorem Ck.flag (gB:Nat) (h:Ck w0 w g q c A n1 (some ⟨gB,0,none⟩) n2) (j:Nat) (x:S82) (hx:c.sp[j]? =some x) (b:Bool):Ck w0 (w.setCell ⟨gB,j*5+3,none⟩ (.bool b)) g q {c with sp:=c.sp.set j {x with f3:=b}} A n1 (some ⟨gB,0,none⟩) n2∧Ck w0 (w.setCell ⟨gB,j*5+4,none⟩ (.bool b)) g q {c with sp:=c.sp.set j {x with f4:=b}} A n1 (some ⟨gB,0,none⟩) n2:=by
 have hj:j<c.sp.length:=(List.getElem?_eq_some_iff.1 hx).1
 have hR:=h.2.2.2.2
 obtain⟨gb,cells,hc⟩:=R_typed hR (g:=gB) rfl
 obtain⟨cs,hl,hM,hcc,_⟩:=Kd.R_elem hR z82 (j:Int) (by omega) (by omega)
 rw[Int.toNat_natCast,List.getD_eq_getElem?_getD,hx] at hM
 obtain rfl:=k82_openM hM
 have hgne:g≠gB:=by
  rintro rfl
  have h3:=h.2.2.1.symm.trans hc
  injection h3 with h3
  injection h3 with _ h3 _
  exact absurd h3 (by decide)
 have fin:∀ (i:Nat) (y:S82) (u:Value),Kd.R k82 82 (w.setCell ⟨gB,i,none⟩ u) w0.heap.size (fun _=>True) (.slice (some ⟨gB,0,none⟩) c.sp.length n2) (c.sp.set j y)→Ck w0 (w.setCell ⟨gB,i,none⟩ u) g q {c with sp:=c.sp.set j y} A n1 (some ⟨gB,0,none⟩) n2:=by
  intro i y u hR1
  have e:(c.sp.set j y).length=c.sp.length:=List.length_set
  refine⟨h.1,below_set h.2.1 gb,?_,R_set1 h.2.2.2.1 rfl hc (by decide) _ _,?_⟩
  ·
   simp only[e]
   exact(Below.heap_setCell w ⟨gB,i,none⟩ u g hgne).trans h.2.2.1
  simp only[e];exact hR1
 have s3:=(Kd.R_seg (okp:=fun k=>True∧k≠gB) hR (j:Int) (by omega) (by omega) (j:=3) (seg:=[.bool b]) (x':={x with f3:=b}) hl hcc (by show 3+1≤5;omega) (k82_mkM _ _ _ {x with f3:=b}) (fun k hk=>hk)).1
 have s4:=(Kd.R_seg (okp:=fun k=>True∧k≠gB) hR (j:Int) (by omega) (by omega) (j:=4) (seg:=[.bool b]) (x':={x with f4:=b}) hl hcc (by show 4+1≤5;omega) (k82_mkM _ _ _ {x with f4:=b}) (fun k hk=>hk)).1
 rw[Int.toNat_natCast] at s3 s4
 exact⟨fin _ _ _ s3,fin _ _ _ s4⟩
end

/-! #### struct type 91 -/
structure S91 where
 f0:Int
 f1:Int
 f2:Int
 f3:Bool
 f4:Bool
def z91:S91:=⟨(0:Int),(0:Int),(0:Int),false,false⟩
def k91:Kd S91:=Kd.iso (Kd.pair (Kd.int .i64) (Kd.pair (Kd.int .i64) (Kd.pair (Kd.int .i64) (Kd.pair Kd.bool Kd.bool)))) (fun x:S91=>(x.f0,x.f1,x.f2,x.f3,x.f4))
theorem k91_open {w:World} {x:S91} {cs:List Value} (h:k91.K w x cs):cs=[.int .i64 x.f0,.int .i64 x.f1,.int .i64 x.f2,.bool x.f3,.bool x.f4]:=by
 obtain⟨_,_,rfl,rfl,⟨_,_,rfl,rfl,⟨_,_,rfl,rfl,⟨_,_,rfl,rfl,rfl⟩⟩⟩⟩:=h
 exact rfl
theorem k91_openM {w:World} {base:Nat} {ok:Nat→Prop} {x:S91} {cs:List Value} (h:k91.M w base ok x cs):cs=[.int .i64 x.f0,.int .i64 x.f1,.int .i64 x.f2,.bool x.f3,.bool x.f4]:=by
 obtain⟨_,_,rfl,rfl,⟨_,_,rfl,rfl,⟨_,_,rfl,rfl,⟨_,_,rfl,rfl,rfl⟩⟩⟩⟩:=h
 exact rfl
theorem k91_mk (w:World) (x:S91):k91.K w x [.int .i64 x.f0,.int .i64 x.f1,.int .i64 x.f2,.bool x.f3,.bool x.f4]:=⟨[.int .i64 x.f0],[.int .i64 x.f1,.int .i64 x.f2,.bool x.f3,.bool x.f4],rfl,rfl,⟨[.int .i64 x.f1],[.int .i64 x.f2,.bool x.f3,.bool x.f4],rfl,rfl,⟨[.int .i64 x.f2],[.bool x.f3,.bool x.f4],rfl,rfl,⟨[.bool x.f3],[.bool x.f4],rfl,rfl,rfl⟩⟩⟩⟩
theorem k91_mkM (w:World) (base:Nat) (ok:Nat→Prop) (x:S91):k91.M w base ok x [.int .i64 x.f0,.int .i64 x.f1,.int .i64 x.f2,.bool x.f3,.bool x.f4]:=⟨[.int .i64 x.f0],[.int .i64 x.f1,.int .i64 x.f2,.bool x.f3,.bool x.f4],rfl,rfl,⟨[.int .i64 x.f1],[.int .i64 x.f2,.bool x.f3,.bool x.f4],rfl,rfl,⟨[.int .i64 x.f2],[.bool x.f3,.bool x.f4],rfl,rfl,⟨[.bool x.f3],[.bool x.f4],rfl,rfl,rfl⟩⟩⟩⟩
def rd_T91 (xs:List S91) (i:Int):S91:=xs.getD i.toNat z91
theorem at_T91 {w:World} {A:Option Addr} {n:Nat} {xs:List S91} (h:Kd.C k91 w A n xs) (i:Int) (h0:0≤i) (h1:i<n):∃ ad,A=some ad∧w.cell? (ad.add (i.toNat*5))=some (.int .i64 (rd_T91 xs i).f0)∧w.cell? ⟨(ad.add (i.toNat*5)).block,(ad.add (i.toNat*5)).off+1,none⟩=some (.int .i64 (rd_T91 xs i).f1)∧w.cell? ⟨(ad.add (i.toNat*5)).block,(ad.add (i.toNat*5)).off+2,none⟩=some (.int .i64 (rd_T91 xs i).f2)∧w.cell? ⟨(ad.add (i.toNat*5)).block,(ad.add (i.toNat*5)).off+3,none⟩=some (.bool (rd_T91 xs i).f3)∧w.cell? ⟨(ad.add (i.toNat*5)).block,(ad.add (i.toNat*5)).off+4,none⟩=some (.bool (rd_T91 xs i).f4):=by
 obtain⟨ad,c,e,_,hK,hc0⟩:=Kd.C_get h z91 i h0 h1
 have hc:∀ j u,c[j]? =some u→w.cell? (ad.add (i.toNat*5+j))=some u:=hc0
 obtain rfl:=k91_open hK
 exact⟨ad,e,hc 0 _ rfl,by rw[←add_field _ _ 1 (by omega)];exact hc 1 _ rfl,by rw[←add_field _ _ 2 (by omega)];exact hc 2 _ rfl,by rw[←add_field _ _ 3 (by omega)];exact hc 3 _ rfl,by rw[←add_field _ _ 4 (by omega)];exact hc 4 _ rfl⟩
theorem info91:(Try.prog.info? 91).map (fun i=>(i.zero,i.size,i.bytes))=some (some (.agg #[(.int .i64 0),(.int .i64 0),(.int .i64 0),(.bool false),(.bool false)]),5,32):=by kernel_rfl

/-! The state Cs: a block of type 68. -/
def Cs (w0 w:World) (g:Nat) (q:Nat→Value) (c:CS S91) (A:Option Addr) (n1:Nat) (B:Option Addr) (n2:Nat):Prop:=
 w0.heap.size≤g∧Below w0.heap.size w0 w∧w.heap[g]? =some (.cells #[q 0,q 1,q 2,q 3,q 4,q 5,q 6,q 7,q 8,q 9,.slice A c.st.length n1,.slice B c.sp.length n2,.int .i64 c.fa,.int .i64 c.hi,q 14] 68 (0,0))∧Kd.R (Kd.int .i64) 3 w w0.heap.size (fun _=>True) (.slice A c.st.length n1) c.st∧Kd.R k91 91 w w0.heap.size (fun _=>True) (.slice B c.sp.length n2) c.sp
def CsE (w0 w:World) (g:Nat) (q:Nat→Value) (c:CS S91):Prop:=∃ A n1 B n2,Cs w0 w g q c A n1 B n2
section
variable {w0 w w1:World} {g:Nat} {q:Nat→Value} {c:CS S91} {A:Option Addr} {n1:Nat} {B:Option Addr} {n2:Nat}
theorem Cs.below (h:Cs w0 w g q c A n1 B n2) (hb:Below w.heap.size w w1):Cs w0 w1 g q c A n1 B n2:=
 ⟨h.1,below_weaken h.2.1 h.2.1.size hb,blk_below h.2.2.1 hb,Kd.R_below h.2.2.2.1 hb,Kd.R_below h.2.2.2.2 hb⟩
theorem CsE.below (h:CsE w0 w g q c) (hb:Below w.heap.size w w1):CsE w0 w1 g q c:=by
 obtain⟨A,n1,B,n2,h⟩:=h
 exact⟨A,n1,B,n2,h.below hb⟩
theorem Cs.cell0 (h:Cs w0 w g q c A n1 B n2):w.cell? ⟨g,0,none⟩=some (q 0):=(blk_cell h.2.2.1 0).trans rfl
theorem Cs.cell1 (h:Cs w0 w g q c A n1 B n2):w.cell? ⟨g,1,none⟩=some (q 1):=(blk_cell h.2.2.1 1).trans rfl
theorem Cs.cell2 (h:Cs w0 w g q c A n1 B n2):w.cell? ⟨g,2,none⟩=some (q 2):=(blk_cell h.2.2.1 2).trans rfl
theorem Cs.cell3 (h:Cs w0 w g q c A n1 B n2):w.cell? ⟨g,3,none⟩=some (q 3):=(blk_cell h.2.2.1 3).trans rfl
theorem Cs.cell4 (h:Cs w0 w g q c A n1 B n2):w.cell? ⟨g,4,none⟩=some (q 4):=(blk_cell h.2.2.1 4).trans rfl
theorem Cs.cell5 (h:Cs w0 w g q c A n1 B n2):w.cell? ⟨g,5,none⟩=some (q 5):=(blk_cell h.2.2.1 5).trans rfl
theorem Cs.cell6 (h:Cs w0 w g q c A n1 B n2):w.cell? ⟨g,6,none⟩=some (q 6):=(blk_cell h.2.2.1 6).trans rfl
theorem Cs.cell7 (h:Cs w0 w g q c A n1 B n2):w.cell? ⟨g,7,none⟩=some (q 7):=(blk_cell h.2.2.1 7).trans rfl
theorem Cs.cell8 (h:Cs w0 w g q c A n1 B n2):w.cell? ⟨g,8,none⟩=some (q 8):=(blk_cell h.2.2.1 8).trans rfl
theorem Cs.cell9 (h:Cs w0 w g q c A n1 B n2):w.cell? ⟨g,9,none⟩=some (q 9):=(blk_cell h.2.2.1 9).trans rfl
theorem Cs.cell10 (h:Cs w0 w g q c A n1 B n2):w.cell? ⟨g,10,none⟩=some (.slice A c.st.length n1):=(blk_cell h.2.2.1 10).trans rfl
theorem Cs.cell11 (h:Cs w0 w g q c A n1 B n2):w.cell? ⟨g,11,none⟩=some (.slice B c.sp.length n2):=(blk_cell h.2.2.1 11).trans rfl
theorem Cs.cell12 (h:Cs w0 w g q c A n1 B n2):w.cell? ⟨g,12,none⟩=some (.int .i64 c.fa):=(blk_cell h.2.2.1 12).trans rfl
theorem Cs.cell13 (h:Cs w0 w g q c A n1 B n2):w.cell? ⟨g,13,none⟩=some (.int .i64 c.hi):=(blk_cell h.2.2.1 13).trans rfl
theorem Cs.cell14 (h:Cs w0 w g q c A n1 B n2):w.cell? ⟨g,14,none⟩=some (q 14):=(blk_cell h.2.2.1 14).trans rfl
theorem Cs.frozen (h:Cs w0 w g q c A n1 B n2) (i:Nat):w.frozen? ⟨g,i,none⟩=false:=blk_frozen h.2.2.1 i
theorem Cs.setH (h:Cs w0 w g q c A n1 B n2) (x:Int):Cs w0 (w.setCell ⟨g,13,none⟩ (.int .i64 x)) g q {c with hi:=x} A n1 B n2:=
 ⟨h.1,below_set h.2.1 h.1,blk_put h.2.2.1 13 _ rfl,R_set1 h.2.2.2.1 rfl h.2.2.1 (by decide) _ _,R_set1 h.2.2.2.2 rfl h.2.2.1 (by decide) _ _⟩
theorem Cs.setF (h:Cs w0 w g q c A n1 B n2) (x:Int):Cs w0 (w.setCell ⟨g,12,none⟩ (.int .i64 x)) g q {c with fa:=x} A n1 B n2:=
 ⟨h.1,below_set h.2.1 h.1,blk_put h.2.2.1 12 _ rfl,R_set1 h.2.2.2.1 rfl h.2.2.1 (by decide) _ _,R_set1 h.2.2.2.2 rfl h.2.2.1 (by decide) _ _⟩
theorem Cs.cutS (h:Cs w0 w g q c A n1 B n2) (k:Nat) (hk:k≤c.st.length):Cs w0 (w.setCell ⟨g,10,none⟩ (.slice A k n1)) g q {c with st:=c.st.take k} A n1 B n2:=by
 have e:(c.st.take k).length=k:=by rw[List.length_take];omega
 have h1:=R_set1 (R_cut h.2.2.2.1 k hk) rfl h.2.2.1 (by decide) 10 (.slice A k n1)
 refine⟨h.1,below_set h.2.1 h.1,blk_put h.2.2.1 10 _ (by simp only[e];rfl),?_,R_set1 h.2.2.2.2 rfl h.2.2.1 (by decide) _ _⟩
 simp only[e];exact h1
theorem Cs.cutP (h:Cs w0 w g q c A n1 B n2) (k:Nat) (hk:k≤c.sp.length):Cs w0 (w.setCell ⟨g,11,none⟩ (.slice B k n2)) g q {c with sp:=c.sp.take k} A n1 B n2:=by
 have e:(c.sp.take k).length=k:=by rw[List.length_take];omega
 have h1:=R_set1 (R_cut h.2.2.2.2 k hk) rfl h.2.2.1 (by decide) 11 (.slice B k n2)
 refine⟨h.1,below_set h.2.1 h.1,blk_put h.2.2.1 11 _ (by simp only[e];rfl),R_set1 h.2.2.2.1 rfl h.2.2.1 (by decide) _ _,?_⟩
 simp only[e];exact h1
theorem Cs.fresh_ne (h:Cs w0 w g q c A n1 B n2) {gn:Nat} (hg:gn=w.heap.size):gn≠g∧(∀ a,A=some a→a.block≠gn)∧(∀ a,B=some a→a.block≠gn):=by
 subst hg
 refine⟨?_,?_,?_⟩
 ·
  have:=blk_lt h.2.2.1;omega
 ·
  rintro a rfl
  obtain⟨_,cells,hc⟩:=R_typed h.2.2.2.1 (g:=a.block) rfl
  have:=blk_lt hc;omega
 rintro a rfl
 obtain⟨_,cells,hc⟩:=R_typed h.2.2.2.2 (g:=a.block) rfl
 have:=blk_lt hc;omega
theorem Cs.other {gn:Nat} (h:Cs w0 w g q c A n1 B n2) (hge:w0.heap.size≤gn) (hn:gn≠g∧(∀ a,A=some a→a.block≠gn)∧(∀ a,B=some a→a.block≠gn)) (i:Nat) (u:Value):Cs w0 (w.setCell ⟨gn,i,none⟩ u) g q c A n1 B n2:=by
 have hA:some gn≠Value.ownBlock (.slice A c.st.length n1):=by
  intro e
  cases A with
  |none=>cases e
  |some a=>exact hn.2.1 a rfl (Option.some.inj e).symm
 have hB:some gn≠Value.ownBlock (.slice B c.sp.length n2):=by
  intro e
  cases B with
  |none=>cases e
  |some a=>exact hn.2.2 a rfl (Option.some.inj e).symm
 exact⟨h.1,below_set h.2.1 hge,(Below.heap_setCell w ⟨gn,i,none⟩ u g (fun e=>hn.1 e.symm)).trans h.2.2.1,
  Kd.R_mono (Kd.R_far (Kd.R_far1 h.2.2.2.1 rfl hA) (fun k hk=>hk.2) u) (fun _ _=>trivial),Kd.R_mono (Kd.R_far (Kd.R_far1 h.2.2.2.2 rfl hB) (fun k hk=>hk.2) u) (fun _ _=>trivial)⟩
/-- Behind an append to the stack: the block stands, and the spans. -/
theorem Cs.appS (h:Cs w0 w g q c A n1 B n2) {v1:Value} {x:Int} (hv:Kd.R (Kd.int .i64) 3 w1 w0.heap.size (fun _=>True) v1 (c.st++[x])) (hb:Below w0.heap.size w0 w1) (hg:w.grownBy w1 (Value.ownBlock (.slice A c.st.length n1))):
  w1.heap[g]? =some (.cells #[q 0,q 1,q 2,q 3,q 4,q 5,q 6,q 7,q 8,q 9,.slice A c.st.length n1,.slice B c.sp.length n2,.int .i64 c.fa,.int .i64 c.hi,q 14] 68 (0,0))∧∃ A' n',v1=.slice A' (c.st.length+1) n'∧Cs w0 (w1.setCell ⟨g,10,none⟩ v1) g q {c with st:=c.st++[x]} A' n' B n2:=by
 have hne:=Kd.R_ne h.2.2.2.1 h.2.2.1 (by decide)
 have hblk:=blk_grown h.2.2.1 hg hne
 have hsp:Kd.R k91 91 w1 w0.heap.size (fun _=>True) (.slice B c.sp.length n2) c.sp:=Kd.R_grown2 h.2.2.2.2 rfl hg (fun k hk=>by
  obtain⟨_,cells,hc⟩:=R_typed h.2.2.2.1 hk
  exact Kd.R_ne h.2.2.2.2 hc (by decide))
 obtain⟨A',n',e⟩:=Kd.R_slice hv
 subst e
 rw[List.length_append,List.length_singleton] at hv
 refine⟨hblk,A',n',by rw[List.length_append,List.length_singleton],?_⟩
 have e:(c.st++[x]).length=c.st.length+1:=by rw[List.length_append,List.length_singleton]
 have h1:=R_set1 hv rfl hblk (by decide) 10 (.slice A' (c.st++[x]).length n')
 refine⟨h.1,below_set hb h.1,blk_put hblk 10 _ rfl,?_,R_set1 hsp rfl hblk (by decide) _ _⟩
 simp only[e] at h1 ⊢;exact h1
theorem Cs.appP (h:Cs w0 w g q c A n1 B n2) {v1:Value} {x:S91} (hv:Kd.R k91 91 w1 w0.heap.size (fun _=>True) v1 (c.sp++[x])) (hb:Below w0.heap.size w0 w1) (hg:w.grownBy w1 (Value.ownBlock (.slice B c.sp.length n2))):
  w1.heap[g]? =some (.cells #[q 0,q 1,q 2,q 3,q 4,q 5,q 6,q 7,q 8,q 9,.slice A c.st.length n1,.slice B c.sp.length n2,.int .i64 c.fa,.int .i64 c.hi,q 14] 68 (0,0))∧∃ B' n',v1=.slice B' (c.sp.length+1) n'∧Cs w0 (w1.setCell ⟨g,11,none⟩ v1) g q {c with sp:=c.sp++[x]} A n1 B' n':=by
 have hne:=Kd.R_ne h.2.2.2.2 h.2.2.1 (by decide)
 have hblk:=blk_grown h.2.2.1 hg hne
 have hst:Kd.R (Kd.int .i64) 3 w1 w0.heap.size (fun _=>True) (.slice A c.st.length n1) c.st:=Kd.R_grown2 h.2.2.2.1 rfl hg (fun k hk=>by
  obtain⟨_,cells,hc⟩:=R_typed h.2.2.2.2 hk
  exact Kd.R_ne h.2.2.2.1 hc (by decide))
 obtain⟨B',n',e⟩:=Kd.R_slice hv
 subst e
 rw[List.length_append,List.length_singleton] at hv
 refine⟨hblk,B',n',by rw[List.length_append,List.length_singleton],?_⟩
 have e:(c.sp++[x]).length=c.sp.length+1:=by rw[List.length_append,List.length_singleton]
 have h1:=R_set1 hv rfl hblk (by decide) 11 (.slice B' (c.sp++[x]).length n')
 refine⟨h.1,below_set hb h.1,blk_put hblk 11 _ rfl,R_set1 hst rfl hblk (by decide) _ _,?_⟩
 simp only[e] at h1 ⊢;exact h1
theorem Cs.stk (h:Cs w0 w g q c A n1 B n2) (j:Nat) (x:Int) (hx:c.st[j]? =some x):∃ gA,A=some ⟨gA,0,none⟩∧w.cell? ⟨gA,j,none⟩=some (.int .i64 x):=by
 have hj:j<c.st.length:=(List.getElem?_eq_some_iff.1 hx).1
 obtain⟨gA,cap,e,gb,gl,cells,hc⟩:=Kd.R_form h.2.2.2.1 (by omega)
 injection e with eA e2 e3
 subst eA
 have h1:=(Kd.R_celln 0 h.2.2.2.1 (j:Int) (by omega) (by omega)).1
 rw[Int.toNat_natCast] at h1
 refine⟨gA,rfl,h1.trans ?_⟩
 unfold rdOf
 rw[Int.toNat_natCast,List.getD_eq_getElem?_getD,hx]
 rfl
theorem Cs.lenS (h:Cs w0 w g q c A n1 B n2):c.st.length≤9223372036854775807∧c.st.length≤n1:=⟨Kd.C_max (Kd.R_reads' h.2.2.2.1).2.2,(Kd.R_reads' h.2.2.2.1).2.1⟩
theorem Cs.lenP (h:Cs w0 w g q c A n1 B n2):c.sp.length≤9223372036854775807∧c.sp.length≤n2:=⟨Kd.C_max (Kd.R_reads' h.2.2.2.2).2.2,(Kd.R_reads' h.2.2.2.2).2.1⟩
theorem Cs.drewN (h:Cs w0 w g q c A n1 B n2) (n:Nat):Cs w0 (w.drewN n) g q c A n1 B n2:=h.below (pw_below_drewN (Below.refl _ _) n)
theorem Cs.drew (h:Cs w0 w g q c A n1 B n2):Cs w0 w.drew g q c A n1 B n2:=h.below (below_drew (Below.refl _ _))
/-- The j-th span. -/
theorem Cs.span (h:Cs w0 w g q c A n1 B n2) (j:Nat) (x:S91) (hx:c.sp[j]? =some x):∃ gB,B=some ⟨gB,0,none⟩∧w0.heap.size≤gB∧w.cell? ⟨gB,j*5,none⟩=some (.int .i64 x.f0)∧w.cell? ⟨gB,j*5+1,none⟩=some (.int .i64 x.f1)∧w.cell? ⟨gB,j*5+2,none⟩=some (.int .i64 x.f2)∧w.cell? ⟨gB,j*5+3,none⟩=some (.bool x.f3)∧w.cell? ⟨gB,j*5+4,none⟩=some (.bool x.f4)∧∀ i,w.frozen? ⟨gB,i,none⟩=false:=by
 have hj:j<c.sp.length:=(List.getElem?_eq_some_iff.1 hx).1
 obtain⟨gB,cap,e,gb,gl,cells,hc⟩:=Kd.R_form h.2.2.2.2 (by omega)
 injection e with eA e2 e3
 subst eA
 have hR:=h.2.2.2.2
 obtain⟨cs,hl,hM,hcc,_⟩:=Kd.R_elem hR z91 (j:Int) (by omega) (by omega)
 rw[Int.toNat_natCast,List.getD_eq_getElem?_getD,hx] at hM
 rw[Int.toNat_natCast] at hcc
 obtain rfl:=k91_openM hM
 have h5:∀ i u,[Value.int .i64 x.f0,.int .i64 x.f1,.int .i64 x.f2,.bool x.f3,.bool x.f4][i]? =some u→w.cell? ⟨gB,j*5+i,none⟩=some u:=hcc
 exact⟨gB,rfl,gb,h5 0 _ rfl,h5 1 _ rfl,h5 2 _ rfl,h5 3 _ rfl,h5 4 _ rfl,fun i=>blk_frozen hc i⟩
/-- A field of the j-th span is written. -/
theorem Cs.flag (gB:Nat) (h:Cs w0 w g q c A n1 (some ⟨gB,0,none⟩) n2) (j:Nat) (x:S91) (hx:c.sp[j]? =some x) (b:Bool):Cs w0 (w.setCell ⟨gB,j*5+3,none⟩ (.bool b)) g q {c with sp:=c.sp.set j {x with f3:=b}} A n1 (some ⟨gB,0,none⟩) n2∧Cs w0 (w.setCell ⟨gB,j*5+4,none⟩ (.bool b)) g q {c with sp:=c.sp.set j {x with f4:=b}} A n1 (some ⟨gB,0,none⟩) n2:=by
 have hj:j<c.sp.length:=(List.getElem?_eq_some_iff.1 hx).1
 have hR:=h.2.2.2.2
 obtain⟨gb,cells,hc⟩:=R_typed hR (g:=gB) rfl
 obtain⟨cs,hl,hM,hcc,_⟩:=Kd.R_elem hR z91 (j:Int) (by omega) (by omega)
 rw[Int.toNat_natCast,List.getD_eq_getElem?_getD,hx] at hM
 obtain rfl:=k91_openM hM
 have hgne:g≠gB:=by
  rintro rfl
  have h3:=h.2.2.1.symm.trans hc
  injection h3 with h3
  injection h3 with _ h3 _
  exact absurd h3 (by decide)
 have fin:∀ (i:Nat) (y:S91) (u:Value),Kd.R k91 91 (w.setCell ⟨gB,i,none⟩ u) w0.heap.size (fun _=>True) (.slice (some ⟨gB,0,none⟩) c.sp.length n2) (c.sp.set j y)→Cs w0 (w.setCell ⟨gB,i,none⟩ u) g q {c with sp:=c.sp.set j y} A n1 (some ⟨gB,0,none⟩) n2:=by
  intro i y u hR1
  have e:(c.sp.set j y).length=c.sp.length:=List.length_set
  refine⟨h.1,below_set h.2.1 gb,?_,R_set1 h.2.2.2.1 rfl hc (by decide) _ _,?_⟩
  ·
   simp only[e]
   exact(Below.heap_setCell w ⟨gB,i,none⟩ u g hgne).trans h.2.2.1
  simp only[e];exact hR1
 have s3:=(Kd.R_seg (okp:=fun k=>True∧k≠gB) hR (j:Int) (by omega) (by omega) (j:=3) (seg:=[.bool b]) (x':={x with f3:=b}) hl hcc (by show 3+1≤5;omega) (k91_mkM _ _ _ {x with f3:=b}) (fun k hk=>hk)).1
 have s4:=(Kd.R_seg (okp:=fun k=>True∧k≠gB) hR (j:Int) (by omega) (by omega) (j:=4) (seg:=[.bool b]) (x':={x with f4:=b}) hl hcc (by show 4+1≤5;omega) (k91_mkM _ _ _ {x with f4:=b}) (fun k hk=>hk)).1
 rw[Int.toNat_natCast] at s3 s4
 exact⟨fin _ _ _ s3,fin _ _ _ s4⟩
end

def pushS (c:CS S91) (op k:Int):Option (CS S91):=if c.sp.length<4000000000000 then some {c with sp:=c.sp++[⟨op,k,(c.st.length:Int),false,false⟩]} else none
def spec_l7begin.T0:Bool × List (List Nat × List Nat):=(true,[([],[]),([],[]),([1],[1]),([2],[2]),([3],[3]),([],[]),([],[]),([],[]),([7],[7]),([8],[8]),([9],[9]),([10],[10]),([5,6,11],[5,6,11]),([12],[12]),([4,13],[4,13]),([0,0,1,2,3,4,5,6,7,8,9,10,11,12,13,14],[0]),([15,0,1,2,3,4,5,6,7,8,9,10,11,12,13,14],[15]),([16,14,14,0,1,2,3,4,5,6,7,8,9,10,11,12,13,14],[14,16])])
def spec_l7begin.B0:List Nat:=[0,0,2,6,14,0,0,0,128,384,896,1920,4064,8160,16382,32767,65535,131071]
theorem spec_l7begin.tab0:rtab .any (opsOf Try.f29 0)=spec_l7begin.T0:=by kernel_rfl
theorem spec_l7begin.bits0:waitsOk spec_l7begin.T0.2 spec_l7begin.B0=true:=by kernel_rfl
theorem begin_any (op kd:Int) (w0 w:World) (g:Nat) (q:Nat→Value) (c c':CS S91) (A:Option Addr) (n1:Nat) (B:Option Addr) (n2:Nat) (h:Cs w0 w g q c A n1 B n2) (hr:pushS c op kd=some c'):
  Calls Try.prog 29 #[.pointer (some ⟨g,0,none⟩),.int .i64 op,.int .i64 kd] w fun e w'=>e=.returned (.tuple #[])∧CsE w0 w' g q c':=by
 have HO:=A_ h
 have HK:=A_ (KeepBut.refl w g none)
 have hu91:=Try.underlying91
 clear h
 unfold pushS at hr
 by_cases cl:c.sp.length<4000000000000
 ·
  rw[if_pos cl] at hr
  obtain rfl:=Option.some.inj hr
  have HLP:=A_ cl
  clear cl hr
  have c3:=HO.out.cell11;have c2:=HO.out.cell10
  go_enter Try.func29,Try.ntmps29
  go_upto_region 0 with (fail)
  refine sS 18 (fun w'=>w'.cell? ⟨g,11,none⟩=some (.slice B c.sp.length n2)∧w'.cell? ⟨g,10,none⟩=some (.slice A c.st.length n1)) [17] ⟨c3,c2⟩ spec_l7begin.tab0 spec_l7begin.bits0 (fun hHeld HT_ HW_=>?_)
  have m0:=A_ HO.out.drew;have m1:=A_ (keep_drew HK.out);have m2:=m0
  clear HO HK c2 c3
  generalize w.drew=wd at*
  have HO:=m0;have HK:=m1;clear m0 m1 m2
  refine pS HT_ 0 6 ?_
  refine pS HT_ 1 7 ?_
  refine pS HT_ 2 8 ?_
  refine pS HT_ 3 9 ?_
  refine pS HT_ 5 11 ?_
  refine pS HT_ 6 12 ?_
  refine pS HT_ 7 13 ?_
  refine pS HT_ 8 14 ?_
  refine pS HT_ 9 15 ?_
  refine tS HT_ HW_ 4 10 hHeld ?_
  refine tS HT_ HW_ 10 16 hHeld ?_
  refine pS HT_ 11 17 ?_
  refine pS HT_ 12 18 ?_
  refine oS HT_ 13 (some 19) (fun K hK=>?_)
  have hHeld2:Aside0 ((wd.alloc (.cells #[.int .i64 op,.int .i64 kd,.int .i64 (c.st.length:Int),.bool false,.bool false] 91 (0,0))).cell? ⟨g,11,none⟩=some (.slice B c.sp.length n2)∧(wd.alloc (.cells #[.int .i64 op,.int .i64 kd,.int .i64 (c.st.length:Int),.bool false,.bool false] 91 (0,0))).cell? ⟨g,10,none⟩=some (.slice A c.st.length n1)):=⟨by obtain⟨s0_,s1_⟩:=hHeld;exact⟨cl_ (below_alloc (Below.refl _ _) _) s0_,cl_ (below_alloc (Below.refl _ _) _) s1_⟩⟩
  refine value_ (w1:=(wd.alloc (.cells #[.int .i64 op,.int .i64 kd,.int .i64 (c.st.length:Int),.bool false,.bool false] 91 (0,0)))) (v:=.slice (some ⟨wd.heap.size,0,none⟩) 1 1) (by rfl) rfl (by first|(go_simp;done)|(go_simp;rfl)) ?_
  clear hHeld
  refine hK.out _ _ hHeld2.out (fun hHeld=>?_)
  clear hK K
  refine nS (some 19) ?_
  refine oS HT_ 14 (some 20) (fun K hK=>?_)
  refine Kd.R_append_step k91 w0.heap.size (by rfl) (.tmp 10) (.tmp 19) 66 91 (.agg #[.int .i64 0,.int .i64 0,.int .i64 0,.bool false,.bool false]) 32 rfl Try.underlying66 info91 rfl (by decide) (by omega) (.slice B c.sp.length n2) c.sp (⟨op,kd,(c.st.length:Int),false,false⟩:S91) [.int .i64 op,.int .i64 kd,.int .i64 (c.st.length:Int),.bool false,.bool false] (fun _=>True) (fun _=>False) rfl rfl ?aP (fun _ hk=>hk.elim) (fun _ _=>trivial) HO.out.2.2.2.2 HO.out.2.1 HO.out.2.1.size ?aL ?_;(case aP=>exact k91_mkM _ _ _ (⟨op,kd,(c.st.length:Int),false,false⟩:S91));(case aL=>have:=HLP.out;omega)
  intro v1 wa hv hb hg hat
  obtain⟨hblk,B',n',e_,hN⟩:=HO.out.appP hv hb hg;subst e_;have HB:=A_ hblk;have HN:=A_ hN
  have hblk0:=A_ hblk
  clear hv hb hg hat hblk hN hHeld hHeld2
  refine hK.out _ _ ⟨(blk_cell hblk0.out 11).trans rfl,(blk_cell hblk0.out 10).trans rfl⟩ (fun hHeld=>?_)
  clear hK K
  refine nS (some 20) ?_
  refine pS HT_ 15 21 ?_
  refine pS HT_ 16 22 ?_
  refine lS HT_ 17 (none) (fun K hK=>?_)
  have ff:=blk_frozen HB.out 11
  refine skip_ (w1:=(wa.setCell ⟨g,11,none⟩ (.slice B' (c.sp.length+1) n'))) (by rfl) rfl (by first|(obtain⟨s0_,s1_⟩:=hHeld;go_simp;done)|(obtain⟨s0_,s1_⟩:=hHeld;go_simp;rfl)) ?_
  clear hHeld ff
  refine hK.out _ _ ?_
  clear hK K
  refine dS HT_ ?_
  clear HO HK
  generalize (wa.setCell ⟨g,11,none⟩ (.slice B' (c.sp.length+1) n'))=wy at*
  have HO:=HN
  go_wp2
  first|go_end0|((try simp only[Exit.inBlock,Exit.then]);refine rt_ ?_)
  exact⟨rfl,_,_,_,_,HO.out⟩
 rw[if_neg cl] at hr;cases hr


/-! ### spec_l7S_die: function 42 (walked by hand) -/
def dieS (c:CS S91):Option (CS S91):=if c.fa≠0 then some c else (c.sp[c.sp.length - 1]?).bind fun b=>if 0≤b.f2∧b.f2≤(c.st.length:Int) then some {c with st:=c.st.take b.f2.toNat,sp:=c.sp.set (c.sp.length - 1) {b with f3:=true}} else none
theorem sdie_any (w0 w:World) (g:Nat) (q:Nat→Value) (c c':CS S91) (A:Option Addr) (n1:Nat) (B:Option Addr) (n2:Nat) (h:Cs w0 w g q c A n1 B n2) (hr:dieS c=some c'):
  Calls Try.prog 42 #[.pointer (some ⟨g,0,none⟩)] w fun e w'=>e=.returned (.tuple #[])∧CsE w0 w' g q c':=by
 have HO:=A_ h
 have HK:=A_ (KeepBut.refl w g none)
 unfold dieS at hr
 have c12f:=HO.out.cell12
 by_cases kf:c.fa≠0
 ·
  rw[if_pos kf] at hr
  obtain rfl:=Option.some.inj hr
  have cf:(c.fa !=0)=true:=bne_iff_ne.2 kf
  clear h kf
  go_enter Try.func42,Try.ntmps42
  go_wp2
  first|go_end0|((try simp only[Exit.inBlock,Exit.then]);refine rt_ ?_)
  exact⟨rfl,_,_,_,_,HO.out⟩
 rw[if_neg kf] at hr
 have cf:(c.fa !=0)=false:=bne_eq_false_iff_eq.2 (Classical.not_not.1 kf)
 obtain⟨b,hb,hr1⟩:=Option.bind_eq_some_iff.1 hr
 clear hr kf
 by_cases hz:0≤b.f2∧b.f2≤(c.st.length:Int)
 ·
  rw[if_pos hz] at hr1
  obtain rfl:=Option.some.inj hr1
  obtain⟨hh,hhe⟩:=Int.eq_ofNat_of_zero_le hz.1
  have HH:=A_ hhe
  have HC:=A_ (show hh≤c.st.length by omega)
  rw[show b.f2.toNat=hh by omega]
  have hp:0<c.sp.length:=by have:=(List.getElem?_eq_some_iff.1 hb).1;omega
  have HLT:=A_ (List.getElem?_eq_some_iff.1 hb).1
  obtain⟨gB,rfl,_,_,_,s2,_,_,_⟩:=h.span _ b hb
  rw[hhe] at s2
  have HBB:=A_ hb
  have hm:=h.lenP.1
  have e1:IntKind.i64.wrap ((c.sp.length:Int) - 1)=((c.sp.length - 1:Nat):Int):=by rw[show ((c.sp.length:Int) - 1)=((c.sp.length - 1:Nat):Int) by omega];exact IntWalk.i64_in _ (by omega)
  have q1:(0:Int)≤((c.sp.length - 1:Nat):Int):=by omega
  have q2:((c.sp.length - 1:Nat):Int)<(c.sp.length:Int):=by omega
  have hsh:=R_shape h.2.2.2.1
  have hcap:=h.lenS.2
  have c11f:=HO.out.cell11
  have c10f:=HO.out.cell10
  have u10:=HO.out.frozen 10
  clear hr1 hz hhe hp hm hb h
  rcases hsh with ⟨rfl,z1,z2⟩|⟨gA,rfl⟩
  ·
   have HZ:=A_ (And.intro z1 z2)
   obtain rfl:hh=0:=by have:=HC.out;omega
   rw[z1,z2] at c10f
   clear z1 z2 hcap
   go_enter Try.func42,Try.ntmps42
   go_upto_region 2 with (fail)
   go_still_tail 16,(by kernel_rfl)
   change wpList _ _ _ _ _ w.drew
   replace HO:=A_ (HO.out.drew);replace HK:=A_ (trivial);clear c10f c11f c12f u10 s2;generalize w.drew=wa at*
   have c10f:=HO.out.cell10;have u10:=HO.out.frozen 10
   rw[HZ.out.1,HZ.out.2] at c10f
   go_upto_region 3 with (fail)
   have h9:=HO.out.cutS 0 HC.out
   rw[HZ.out.2] at h9
   replace HO:=A_ (h9);replace HK:=A_ (trivial);clear c10f u10;generalize wa.setCell ⟨g,10,none⟩ (.slice none 0 0)=wb at*
   have c11f:=HO.out.cell11
   obtain⟨_,e_,_,_,_,_,s3,_,sf⟩:=HO.out.span (c.sp.length - 1) b HBB.out;cases e_;have u3:=sf ((c.sp.length - 1)*5+3);clear sf
   clear h9
   go_wp2
   first|go_end0|((try simp only[Exit.inBlock,Exit.then]);refine rt_ ?_)
   exact⟨rfl,_,_,_,_,(HO.out.flag gB (c.sp.length - 1) b HBB.out true).1⟩
  have q3:(0:Int)≤(hh:Int):=by omega
  have q4:(hh:Int)≤(n1:Int):=by have:=HC.out;omega
  clear hcap
  go_enter Try.func42,Try.ntmps42
  go_upto_region 2 with (fail)
  go_still_tail 16,(by kernel_rfl)
  change wpList _ _ _ _ _ w.drew
  replace HO:=A_ (HO.out.drew);replace HK:=A_ (trivial);clear c10f c11f c12f u10 s2;generalize w.drew=wa at*
  have c10f:=HO.out.cell10;have u10:=HO.out.frozen 10
  go_upto_region 3 with (fail)
  replace HO:=A_ (HO.out.cutS hh HC.out);replace HK:=A_ (trivial);clear c10f u10;generalize wa.setCell ⟨g,10,none⟩ (.slice (some ⟨gA,0,none⟩) hh n1)=wb at*
  have c11f:=HO.out.cell11
  obtain⟨_,e_,_,_,_,_,s3,_,sf⟩:=HO.out.span (c.sp.length - 1) b HBB.out;cases e_;have u3:=sf ((c.sp.length - 1)*5+3);clear sf
  go_wp2
  first|go_end0|((try simp only[Exit.inBlock,Exit.then]);refine rt_ ?_)
  exact⟨rfl,_,_,_,_,(HO.out.flag gB (c.sp.length - 1) b HBB.out true).1⟩
 rw[if_neg hz] at hr1;cases hr1


/-! ### spec_l7S_bad: function 46 (walked by hand) -/
theorem bad_any (w0 w:World) (g:Nat) (q:Nat→Value) (c:CS S91) (k:Int) (A:Option Addr) (n1:Nat) (B:Option Addr) (n2:Nat) (h:Cs w0 w g q c A n1 B n2):
  Calls Try.prog 46 #[.pointer (some ⟨g,0,none⟩),.int .i64 k] w fun e w'=>e=.returned (.tuple #[])∧Cs w0 w' g q (c.fail k) A n1 B n2∧KeepBut w w' g none:=by
 have HO:=A_ h
 have c5:=h.cell12
 have f5:=h.frozen 12
 clear h
 by_cases cf:c.fa=0
 ·
  have cb:(c.fa==0)=true:=beq_iff_eq.2 cf
  have e:c.fail k={c with fa:=k}:=by rw[CS.fail,if_pos cf]
  rw[e]
  clear cf e
  go_enter Try.func46,Try.ntmps46
  go_wp2
  go_end0
  exact⟨rfl,HO.out.setF k,(KeepBut.refl w g none).set_ 12 _⟩
 have cb:(c.fa==0)=false:=beq_eq_false_iff_ne.2 cf
 have e:c.fail k=c:=by rw[CS.fail,if_neg cf]
 rw[e]
 clear cf e
 go_enter Try.func46,Try.ntmps46
 go_wp2
 go_end0
 exact⟨rfl,HO.out,KeepBut.refl w g none⟩
theorem sput_any (k:Int) (w0 w:World) (g:Nat) (q:Nat→Value) (c c':CS S91) (A:Option Addr) (n1:Nat) (B:Option Addr) (n2:Nat) (h:Cs w0 w g q c A n1 B n2) (hr:c.put k=some c'):
  Calls Try.prog 44 #[.pointer (some ⟨g,0,none⟩),.int .i64 k] w fun e w'=>e=.returned (.tuple #[])∧CsE w0 w' g q c':=by
 have HO:=A_ h
 have HK:=A_ (KeepBut.refl w g none)
 have hm:=h.lenS
 clear h
 unfold CS.put at hr
 by_cases ck:k=64
 ·
  rw[if_pos ck] at hr
  obtain rfl:=Option.some.inj hr
  have cb:(k==64)=true:=beq_iff_eq.2 ck
  clear ck
  go_enter Try.func44,Try.ntmps44
  go_wp2
  first|go_end0|((try simp only[Exit.inBlock,Exit.then]);refine rt_ ?_)
  exact⟨rfl,_,_,_,_,HO.out⟩
 rw[if_neg ck] at hr
 by_cases cl:c.st.length<17592186044416
 ·
  rw[if_pos cl] at hr
  obtain rfl:=Option.some.inj hr
  have cb:(k==64)=false:=beq_eq_false_iff_ne.2 ck
  have HL:=A_ cl
  clear ck cl hr
  obtain⟨hx,hh⟩:∃ x,(if c.hi<(c.st.length:Int)+1 then (c.st.length:Int)+1 else c.hi)=x:=⟨_,rfl⟩
  rw[hh]
  have HH:=A_ hh
  clear hh
  have c2:=HO.out.cell10
  have f2:=HO.out.frozen 10
  go_enter Try.func44,Try.ntmps44
  go_wp2_with (first|((with_reducible refine gate_builtin (b:=.append) (xs:=#[.tmp 10,.tmp 12]) rfl ?_);at_builtin;refine Kd.R_append (Kd.int .i64) w0.heap.size rfl (.tmp 10) (.tmp 12) 53 3 (.int .i64 0) 8 rfl Try.underlying53 info3 rfl (by decide) (by omega) (.slice A c.st.length n1) c.st k [.int .i64 k] (fun _=>True) (fun _=>False) rfl rfl ?aP (fun _ hk=>hk.elim) (fun _ _=>trivial) ?aO HO.out.2.1 HO.out.2.1.size ?aL ?_;(case aP=>exact rfl);(case aO=>exact HO.out.2.2.2.1);(case aL=>have:=HL.out;omega);intro v1 wa hv hb hg hat;obtain⟨hblk,A',n',e_,hN⟩:=HO.out.appS hv hb hg;subst e_;have HB:=A_ hblk;have HN:=A_ hN;clear c2 f2 hv hb hg hat hblk hN;have c2:=blk_cell HB.out 10;have f2:=blk_frozen HB.out 10))
  replace HO:=A_ (HN.out);replace HK:=A_ (trivial);clear HB c2 f2;generalize wa.setCell ⟨g,10,none⟩ (.slice A' (c.st.length+1) n')=wb at*;clear HN
  have c2:wb.cell? ⟨g,10,none⟩=some (.slice A' (c.st.length+1) n'):=by have h9:=HO.out.cell10;rwa [List.length_append,List.length_singleton] at h9
  have c4:=HO.out.cell13
  by_cases cm:c.hi<(c.st.length:Int)+1
  ·
   have ee:=HH.out.symm.trans (if_pos cm)
   have cmb:=decide_eq_true cm
   have EE:=A_ ee
   clear cm ee
   go_quiet (fail)
   replace HO:=A_ (HO.out.drewN nq);replace HK:=A_ (trivial);clear c2 c4;generalize wb.drewN nq=wc at*
   have c2:wc.cell? ⟨g,10,none⟩=some (.slice A' (c.st.length+1) n'):=by have h9:=HO.out.cell10;rwa [List.length_append,List.length_singleton] at h9
   have c4:=HO.out.cell13;have f4:=HO.out.frozen 13
   go_wp2
   first|go_end0|((try simp only[Exit.inBlock,Exit.then]);refine rt_ ?_)
   exact⟨rfl,_,_,_,_,by rw[EE.out];exact HO.out.setH _⟩
  have ee:=HH.out.symm.trans (if_neg cm)
  have cmb:=decide_eq_false cm
  have EE:=A_ ee
  clear cm ee
  go_quiet (fail)
  replace HO:=A_ (HO.out.drewN nq);replace HK:=A_ (trivial);clear c2 c4;generalize wb.drewN nq=wc at*
  have c2:wc.cell? ⟨g,10,none⟩=some (.slice A' (c.st.length+1) n'):=by have h9:=HO.out.cell10;rwa [List.length_append,List.length_singleton] at h9
  go_wp2
  first|go_end0|((try simp only[Exit.inBlock,Exit.then]);refine rt_ ?_)
  exact⟨rfl,_,_,_,_,by rw[EE.out];exact HO.out⟩
 rw[if_neg cl] at hr;cases hr


end Go.Proofs.Ytghogonibanieaa.Q

