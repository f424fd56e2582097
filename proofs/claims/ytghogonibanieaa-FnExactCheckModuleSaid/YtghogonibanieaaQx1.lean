-- Written by a program of this session; it walks the functions that the law reaches.
import Derived.Test.YtghogonibanieaaQx0
namespace Go.Proofs.Ytghogonibanieaa.Q
open Go.RowKit Go.Proofs.YtghogonibanieaaW.PrintWords Go.Proofs.YtghogonibanieaaW.PrintLast Go.Proofs.YtghogonibanieaaW.PrintMore
attribute [local go_sem] max2_int min2_int max_two min_two max_three min_three max_four min_four   -- for this text's walks alone
set_option linter.unusedVariables false
set_option linter.unusedSimpArgs false
set_option maxRecDepth 100000
set_option maxHeartbeats 8000000

/-! ### laws_szIntS: function 38 -/
def laws_szIntS.f (l0:List Int) (a1:Int):Option (Int):=if (wrap64 (a1 - (l0.length:Int)))<0 then (some (-1)) else (some (wrap64 (a1 - (l0.length:Int))))
theorem laws_szIntS.calls (A0:Option Addr) (c0:Nat) (l0:List Int) (a1:Int) (r:Int) (w:World) (hr0:Kd.C (Kd.int .i64) w A0 l0.length l0) (hc0:l0.length≤c0) (h:laws_szIntS.f l0 a1=some r):
  Calls Try.prog 38 #[.slice A0 l0.length c0,.int .i64 a1] w fun e w'=>e=.returned (.int .i64 r)∧Drawn0 w w':=by
 have HR0:=A_ hr0
 have HC0:=A_ hc0
 clear hr0 hc0
 have H:(if (wrap64 (a1 - (l0.length:Int)))<0 then (some (-1)) else (some (wrap64 (a1 - (l0.length:Int)))))=some r:=h
 clear h
 by_cases c3:(wrap64 (a1 - (l0.length:Int)))<0
 ·
  rw[if_pos c3] at H
  have c3b0:=decide_eq_true c3
  clear c3
  obtain rfl:=Option.some.inj H
  clear H
  go_enter Try.func38,Try.ntmps38
  go_wp2
  go_ret
  exact⟨rs_,dr_⟩
 rw[if_neg c3] at H
 have c3b0:=decide_eq_false c3
 clear c3
 obtain rfl:=Option.some.inj H
 clear H
 go_enter Try.func38,Try.ntmps38
 go_wp2
 go_ret
 exact⟨rs_,dr_⟩

/-! ### laws_szInsS: function 39 -/
def laws_szInsS.f (l0:List (S107)) (a1:Int):Option (Int):=if (wrap64 (a1 - (l0.length:Int)))<0 then (some (-1)) else (some (wrap64 (a1 - (l0.length:Int))))
theorem laws_szInsS.calls (A0:Option Addr) (c0:Nat) (l0:List (S107)) (a1:Int) (r:Int) (w:World) (hr0:Kd.C k107 w A0 l0.length l0) (hc0:l0.length≤c0) (h:laws_szInsS.f l0 a1=some r):
  Calls Try.prog 39 #[.slice A0 l0.length c0,.int .i64 a1] w fun e w'=>e=.returned (.int .i64 r)∧Drawn0 w w':=by
 have HR0:=A_ hr0
 have HC0:=A_ hc0
 clear hr0 hc0
 have H:(if (wrap64 (a1 - (l0.length:Int)))<0 then (some (-1)) else (some (wrap64 (a1 - (l0.length:Int)))))=some r:=h
 clear h
 by_cases c3:(wrap64 (a1 - (l0.length:Int)))<0
 ·
  rw[if_pos c3] at H
  have c3b0:=decide_eq_true c3
  clear c3
  obtain rfl:=Option.some.inj H
  clear H
  go_enter Try.func39,Try.ntmps39
  go_wp2
  go_ret
  exact⟨rs_,dr_⟩
 rw[if_neg c3] at H
 have c3b0:=decide_eq_false c3
 clear c3
 obtain rfl:=Option.some.inj H
 clear H
 go_enter Try.func39,Try.ntmps39
 go_wp2
 go_ret
 exact⟨rs_,dr_⟩

/-! ### laws_szFunc: function 26 -/
def laws_szFunc.f (l0_0:List Int) (a0_1:Int) (l0_2:List Int) (l0_3:List (S107)) (a1:Int):Option (Int):=(laws_szIntS.f l0_0 a1).bind fun t102=>(if t102<0 then (some (-1)) else ((laws_szIntS.f l0_2 t102).bind fun t103=>(if t103<0 then (some (-1)) else ((laws_szInsS.f l0_3 t103).bind fun t104=>(if t104<0 then (some (-1)) else (some t104))))))
theorem laws_szFunc.calls (A0_0:Option Addr) (c0_0:Nat) (l0_0:List Int) (a0_1:Int) (A0_2:Option Addr) (c0_2:Nat) (l0_2:List Int) (A0_3:Option Addr) (c0_3:Nat) (l0_3:List (S107)) (a1:Int) (r:Int) (w:World) (hr0_0:Kd.C (Kd.int .i64) w A0_0 l0_0.length l0_0) (hc0_0:l0_0.length≤c0_0) (hr0_2:Kd.C (Kd.int .i64) w A0_2 l0_2.length l0_2) (hc0_2:l0_2.length≤c0_2) (hr0_3:Kd.C k107 w A0_3 l0_3.length l0_3) (hc0_3:l0_3.length≤c0_3) (h:laws_szFunc.f l0_0 a0_1 l0_2 l0_3 a1=some r):
  Calls Try.prog 26 #[.agg #[.slice A0_0 l0_0.length c0_0,.int .i64 a0_1,.slice A0_2 l0_2.length c0_2,.slice A0_3 l0_3.length c0_3],.int .i64 a1] w fun e w'=>e=.returned (.int .i64 r)∧Below w.heap.size w w':=by
 have hu56:=Try.underlying56
 have HR0_0:=A_ hr0_0
 have HC0_0:=A_ hc0_0
 clear hr0_0 hc0_0
 have HR0_2:=A_ hr0_2
 have HC0_2:=A_ hc0_2
 clear hr0_2 hc0_2
 have HR0_3:=A_ hr0_3
 have HC0_3:=A_ hc0_3
 clear hr0_3 hc0_3
 have HB:=A_ (Below.refl w.heap.size w)
 have H:((laws_szIntS.f l0_0 a1).bind fun t102=>(if t102<0 then (some (-1)) else ((laws_szIntS.f l0_2 t102).bind fun t103=>(if t103<0 then (some (-1)) else ((laws_szInsS.f l0_3 t103).bind fun t104=>(if t104<0 then (some (-1)) else (some t104)))))))=some r:=h
 clear h
 replace H:=bi_ H
 obtain⟨t102,A30,H⟩:=H
 have A3:=A_ A30
 clear A30
 by_cases c4:t102<0
 ·
  rw[if_pos c4] at H
  have c4b0:=decide_eq_true c4
  clear c4
  obtain rfl:=Option.some.inj H
  clear H
  go_enter Try.func26,Try.ntmps26
  go_wp2_with (first|((with_reducible refine gd_ 2 rfl ?_);refine bx_ #[.slice A0_0 l0_0.length c0_0,.int .i64 a0_1,.slice A0_2 l0_2.length c0_2,.slice A0_3 l0_3.length c0_3] 56 ?_;intro gb101 hg w5 hbox hb;have BK101:=A_ hbox;have GW101:=gw_ hg HB;have GE101:=GW101;replace HB:=bs_ HB hb;clear hb hbox hg;obtain⟨hcz6_0,hcz6_1,hcz6_2,hcz6_3⟩:=cs4_ BK101.out;obtain⟨hfz6_0,hfz6_1,hfz6_2,hfz6_3⟩:=fz4_ BK101.out)|((with_reducible refine gc_ 38 rfl ?_);refine gn_ (some 8) Try.func38 (laws_szIntS.calls _ _ l0_0 a1 t102 _ (cb_ HR0_0 HB) HC0_0.out A3.out) ?_;intro nd))
  go_ret
  exact⟨rr_,bw HB.out⟩
 rw[if_neg c4] at H
 have c4b0:=decide_eq_false c4
 clear c4
 replace H:=bi_ H
 obtain⟨t103,A70,H⟩:=H
 have A7:=A_ A70
 clear A70
 by_cases c8:t103<0
 ·
  rw[if_pos c8] at H
  have c8b0:=decide_eq_true c8
  clear c8
  obtain rfl:=Option.some.inj H
  clear H
  go_enter Try.func26,Try.ntmps26
  go_wp2_with (first|((with_reducible refine gd_ 2 rfl ?_);refine bx_ #[.slice A0_0 l0_0.length c0_0,.int .i64 a0_1,.slice A0_2 l0_2.length c0_2,.slice A0_3 l0_3.length c0_3] 56 ?_;intro gb101 hg w9 hbox hb;have BK101:=A_ hbox;have GW101:=gw_ hg HB;have GE101:=GW101;replace HB:=bs_ HB hb;clear hb hbox hg;obtain⟨hcz10_0,hcz10_1,hcz10_2,hcz10_3⟩:=cs4_ BK101.out;obtain⟨hfz10_0,hfz10_1,hfz10_2,hfz10_3⟩:=fz4_ BK101.out)|((with_reducible refine gc_ 38 rfl ?_);refine gn_ (some 8) Try.func38 (laws_szIntS.calls _ _ l0_0 a1 t102 _ (cb_ HR0_0 HB) HC0_0.out A3.out) ?_;intro nd)|((with_reducible refine gc_ 38 rfl ?_);refine gn_ (some 14) Try.func38 (laws_szIntS.calls _ _ l0_2 t102 t103 _ (cb_ HR0_2 HB) HC0_2.out A7.out) ?_;intro nd))
  go_ret
  exact⟨rr_,bw HB.out⟩
 rw[if_neg c8] at H
 have c8b0:=decide_eq_false c8
 clear c8
 replace H:=bi_ H
 obtain⟨t104,A110,H⟩:=H
 have A11:=A_ A110
 clear A110
 by_cases c12:t104<0
 ·
  rw[if_pos c12] at H
  have c12b0:=decide_eq_true c12
  clear c12
  obtain rfl:=Option.some.inj H
  clear H
  go_enter Try.func26,Try.ntmps26
  go_wp2_with (first|((with_reducible refine gd_ 2 rfl ?_);refine bx_ #[.slice A0_0 l0_0.length c0_0,.int .i64 a0_1,.slice A0_2 l0_2.length c0_2,.slice A0_3 l0_3.length c0_3] 56 ?_;intro gb101 hg w13 hbox hb;have BK101:=A_ hbox;have GW101:=gw_ hg HB;have GE101:=GW101;replace HB:=bs_ HB hb;clear hb hbox hg;obtain⟨hcz14_0,hcz14_1,hcz14_2,hcz14_3⟩:=cs4_ BK101.out;obtain⟨hfz14_0,hfz14_1,hfz14_2,hfz14_3⟩:=fz4_ BK101.out)|((with_reducible refine gc_ 38 rfl ?_);refine gn_ (some 8) Try.func38 (laws_szIntS.calls _ _ l0_0 a1 t102 _ (cb_ HR0_0 HB) HC0_0.out A3.out) ?_;intro nd)|((with_reducible refine gc_ 38 rfl ?_);refine gn_ (some 14) Try.func38 (laws_szIntS.calls _ _ l0_2 t102 t103 _ (cb_ HR0_2 HB) HC0_2.out A7.out) ?_;intro nd)|((with_reducible refine gc_ 39 rfl ?_);refine gn_ (some 20) Try.func39 (laws_szInsS.calls _ _ l0_3 t103 t104 _ (cb_ HR0_3 HB) HC0_3.out A11.out) ?_;intro nd))
  go_ret
  exact⟨rr_,bw HB.out⟩
 rw[if_neg c12] at H
 have c12b0:=decide_eq_false c12
 clear c12
 obtain rfl:=Option.some.inj H
 clear H
 go_enter Try.func26,Try.ntmps26
 go_wp2_with (first|((with_reducible refine gd_ 2 rfl ?_);refine bx_ #[.slice A0_0 l0_0.length c0_0,.int .i64 a0_1,.slice A0_2 l0_2.length c0_2,.slice A0_3 l0_3.length c0_3] 56 ?_;intro gb101 hg w15 hbox hb;have BK101:=A_ hbox;have GW101:=gw_ hg HB;have GE101:=GW101;replace HB:=bs_ HB hb;clear hb hbox hg;obtain⟨hcz16_0,hcz16_1,hcz16_2,hcz16_3⟩:=cs4_ BK101.out;obtain⟨hfz16_0,hfz16_1,hfz16_2,hfz16_3⟩:=fz4_ BK101.out)|((with_reducible refine gc_ 38 rfl ?_);refine gn_ (some 8) Try.func38 (laws_szIntS.calls _ _ l0_0 a1 t102 _ (cb_ HR0_0 HB) HC0_0.out A3.out) ?_;intro nd)|((with_reducible refine gc_ 38 rfl ?_);refine gn_ (some 14) Try.func38 (laws_szIntS.calls _ _ l0_2 t102 t103 _ (cb_ HR0_2 HB) HC0_2.out A7.out) ?_;intro nd)|((with_reducible refine gc_ 39 rfl ?_);refine gn_ (some 20) Try.func39 (laws_szInsS.calls _ _ l0_3 t103 t104 _ (cb_ HR0_3 HB) HC0_3.out A11.out) ?_;intro nd))
 go_ret
 exact⟨rr_,bw HB.out⟩

/-! ### laws_szFuncS: function 15 -/
def laws_szFuncS.l0:Nat→List (S56)→Int→Int→Option (Int)
 |0,_,_,_=>none
 |k+1,x0,x1,x5=>if x5<(x0.length:Int) then (if 0≤x5 then ((laws_szFunc.f ((rd_T56 x0 x5).f0) ((rd_T56 x0 x5).f1) ((rd_T56 x0 x5).f2) ((rd_T56 x0 x5).f3) x1).bind fun t106=>(if t106<0 then (some (-1)) else (laws_szFuncS.l0 k x0 t106 (wrap64 (x5+1))))) else (none)) else (some x1)
def laws_szFuncS.f (k:Nat) (l0:List (S56)) (a1:Int):Option (Int):=if (wrap64 (a1 - (l0.length:Int)))<0 then (some (-1)) else (laws_szFuncS.l0 k l0 (wrap64 (a1 - (l0.length:Int))) 0)
theorem laws_szFuncS.calls (k:Nat) (A0:Option Addr) (c0:Nat) (l0:List (S56)) (a1:Int) (r:Int) (w:World) (hr0:Kd.C k56 w A0 l0.length l0) (hc0:l0.length≤c0) (h:laws_szFuncS.f k l0 a1=some r):
  Calls Try.prog 15 #[.slice A0 l0.length c0,.int .i64 a1] w fun e w'=>e=.returned (.int .i64 r)∧Below w.heap.size w w':=by
 have hu56:=Try.underlying56
 have HR0:=A_ hr0
 have HC0:=A_ hc0
 clear hr0 hc0
 have HB:=A_ (Below.refl w.heap.size w)
 have H:(if (wrap64 (a1 - (l0.length:Int)))<0 then (some (-1)) else (laws_szFuncS.l0 k l0 (wrap64 (a1 - (l0.length:Int))) 0))=some r:=h
 clear h
 by_cases c3:(wrap64 (a1 - (l0.length:Int)))<0
 ·
  rw[if_pos c3] at H
  have c3b0:=decide_eq_true c3
  clear c3
  obtain rfl:=Option.some.inj H
  clear H
  go_enter Try.func15,Try.ntmps15
  go_wp2
  go_ret
  exact⟨rr_,bw HB.out⟩
 rw[if_neg c3] at H
 have c3b0:=decide_eq_false c3
 clear c3
 have H':=A_ H
 clear H
 go_enter Try.func15,Try.ntmps15
 go_wp2
 (try simp only[Act.put,List.setIfInBounds_toArray,List.set_cons_zero,List.set_cons_succ])
 go_loopg [1,5] k (fun kq v1 v5 w'=>∃ (x1_1:Int) (x5_1:Int),v1=.int .i64 x1_1∧v5=.int .i64 x5_1∧Aside0 (laws_szFuncS.l0 kq l0 x1_1 x5_1=some r)∧Aside0 (kq≤k)∧Aside0 (Below w.heap.size w w'))
 case atStart=>exact⟨(wrap64 (a1 - (l0.length:Int))),(0),rs_,rs_,H',⟨Nat.le_refl _⟩,⟨bw HB.out⟩⟩
 case round=>
  clear H'
  try clear c3 c3b0
  obtain⟨x1_1,x5_1,rfl,rfl,HA,HK1,HB⟩:=hrel
  cases gk with
  |zero=>exact absurd HA.out (by simp[laws_szFuncS.l0])
  |succ k1=>
   have H:=HA.out
   clear HA
   simp only[laws_szFuncS.l0] at H
   by_cases c4:x5_1<(l0.length:Int)
   ·
    rw[if_pos c4] at H
    have c4b0:=decide_eq_true c4
    clear c4
    by_cases c5:0≤x5_1
    ·
     rw[if_pos c5] at H
     have c5b0:=decide_eq_true c5
     clear c5
     replace H:=bi_ H
     obtain⟨t106,A60,H⟩:=H
     have A6:=A_ A60
     clear A60
     by_cases c7:t106<0
     ·
      rw[if_pos c7] at H
      have c7b0:=decide_eq_true c7
      clear c7
      obtain rfl:=Option.some.inj H
      clear H
      have p105:0≤(x5_1:Int):=od_
      have q105:x5_1<(l0.length:Int):=od_
      obtain⟨ad105,A105_0,c105_0,A105_2,c105_2,A105_3,c105_3,e105,hx105_0,hx105_1,hx105_2,hx105_3,hl105_0,hi105_0,hl105_2,hi105_2,hl105_3,hi105_3⟩:=at_T56 HR0.out x5_1 p105 q105
      cases e105
      replace hx105_0:=cl_ HB.out hx105_0
      replace hx105_1:=cl_ HB.out hx105_1
      replace hx105_2:=cl_ HB.out hx105_2
      replace hx105_3:=cl_ HB.out hx105_3
      have HR105_0:=A_ hi105_0
      have HC105_0:=A_ hl105_0
      clear hi105_0 hl105_0
      have HR105_2:=A_ hi105_2
      have HC105_2:=A_ hl105_2
      clear hi105_2 hl105_2
      have HR105_3:=A_ hi105_3
      have HC105_3:=A_ hl105_3
      clear hi105_3 hl105_3
      replace p105:=eq_true p105
      replace q105:=eq_true q105
      go_wp2_with (first|((with_reducible refine gc_ 26 rfl ?_);refine gm_ (some 23) Try.func26 (laws_szFunc.calls _ _ ((rd_T56 l0 x5_1).f0) ((rd_T56 l0 x5_1).f1) _ _ ((rd_T56 l0 x5_1).f2) _ _ ((rd_T56 l0 x5_1).f3) x1_1 t106 _ (cb_ HR105_0 HB) HC105_0.out (cb_ HR105_2 HB) HC105_2.out (cb_ HR105_3 HB) HC105_3.out A6.out) ?_;intro w8 hb;replace HB:=bs_ HB hb;(try clear hb)))
      go_ret
      exact⟨rr_,bw HB.out⟩
     rw[if_neg c7] at H
     have c7b0:=decide_eq_false c7
     clear c7
     have H':=A_ H
     clear H
     have p105:0≤(x5_1:Int):=od_
     have q105:x5_1<(l0.length:Int):=od_
     obtain⟨ad105,A105_0,c105_0,A105_2,c105_2,A105_3,c105_3,e105,hx105_0,hx105_1,hx105_2,hx105_3,hl105_0,hi105_0,hl105_2,hi105_2,hl105_3,hi105_3⟩:=at_T56 HR0.out x5_1 p105 q105
     cases e105
     replace hx105_0:=cl_ HB.out hx105_0
     replace hx105_1:=cl_ HB.out hx105_1
     replace hx105_2:=cl_ HB.out hx105_2
     replace hx105_3:=cl_ HB.out hx105_3
     have HR105_0:=A_ hi105_0
     have HC105_0:=A_ hl105_0
     clear hi105_0 hl105_0
     have HR105_2:=A_ hi105_2
     have HC105_2:=A_ hl105_2
     clear hi105_2 hl105_2
     have HR105_3:=A_ hi105_3
     have HC105_3:=A_ hl105_3
     clear hi105_3 hl105_3
     replace p105:=eq_true p105
     replace q105:=eq_true q105
     go_wp2_with (first|((with_reducible refine gc_ 26 rfl ?_);refine gm_ (some 23) Try.func26 (laws_szFunc.calls _ _ ((rd_T56 l0 x5_1).f0) ((rd_T56 l0 x5_1).f1) _ _ ((rd_T56 l0 x5_1).f2) _ _ ((rd_T56 l0 x5_1).f3) x1_1 t106 _ (cb_ HR105_0 HB) HC105_0.out (cb_ HR105_2 HB) HC105_2.out (cb_ HR105_3 HB) HC105_3.out A6.out) ?_;intro w9 hb;replace HB:=bs_ HB hb;(try clear hb)))
     go_roundg k1
     case measure=>have:=HK1.out;omega
     case rel=>exact⟨(t106),(wrap64 (x5_1+1)),rs_,rs_,H',⟨by have:=HK1.out;omega⟩,⟨bw HB.out⟩⟩
    rw[if_neg c5] at H
    exact absurd H (by simp)
   rw[if_neg c4] at H
   have c4b0:=decide_eq_false c4
   clear c4
   obtain rfl:=Option.some.inj H
   clear H
   go_wp2
   go_ret
   exact⟨rr_,bw HB.out⟩

/-! ### laws_szGlobalS: function 16 -/
def laws_szGlobalS.f (l0:List (S75)) (a1:Int):Option (Int):=if (wrap64 (a1 - (l0.length:Int)))<0 then (some (-1)) else (some (wrap64 (a1 - (l0.length:Int))))
theorem laws_szGlobalS.calls (A0:Option Addr) (c0:Nat) (l0:List (S75)) (a1:Int) (r:Int) (w:World) (hr0:Kd.C k75 w A0 l0.length l0) (hc0:l0.length≤c0) (h:laws_szGlobalS.f l0 a1=some r):
  Calls Try.prog 16 #[.slice A0 l0.length c0,.int .i64 a1] w fun e w'=>e=.returned (.int .i64 r)∧Drawn0 w w':=by
 have HR0:=A_ hr0
 have HC0:=A_ hc0
 clear hr0 hc0
 have H:(if (wrap64 (a1 - (l0.length:Int)))<0 then (some (-1)) else (some (wrap64 (a1 - (l0.length:Int)))))=some r:=h
 clear h
 by_cases c3:(wrap64 (a1 - (l0.length:Int)))<0
 ·
  rw[if_pos c3] at H
  have c3b0:=decide_eq_true c3
  clear c3
  obtain rfl:=Option.some.inj H
  clear H
  go_enter Try.func16,Try.ntmps16
  go_wp2
  go_ret
  exact⟨rs_,dr_⟩
 rw[if_neg c3] at H
 have c3b0:=decide_eq_false c3
 clear c3
 obtain rfl:=Option.some.inj H
 clear H
 go_enter Try.func16,Try.ntmps16
 go_wp2
 go_ret
 exact⟨rs_,dr_⟩

/-! ### laws_szModule: function 6 -/
def laws_szModule.f (k:Nat) (l0_0:List (S56)) (l0_1:List (S75)) (a0_2:Bool) (a0_3:Int) (a0_4:Int) (a0_5:Int) (a1:Int):Option (Int):=(laws_szFuncS.f k l0_0 a1).bind fun t108=>(if t108<0 then (some (-1)) else ((laws_szGlobalS.f l0_1 t108).bind fun t109=>(if t109<0 then (some (-1)) else (some t109))))
theorem laws_szModule.calls (k:Nat) (A0_0:Option Addr) (c0_0:Nat) (l0_0:List (S56)) (A0_1:Option Addr) (c0_1:Nat) (l0_1:List (S75)) (a0_2:Bool) (a0_3:Int) (a0_4:Int) (a0_5:Int) (a1:Int) (r:Int) (w:World) (hr0_0:Kd.C k56 w A0_0 l0_0.length l0_0) (hc0_0:l0_0.length≤c0_0) (hr0_1:Kd.C k75 w A0_1 l0_1.length l0_1) (hc0_1:l0_1.length≤c0_1) (h:laws_szModule.f k l0_0 l0_1 a0_2 a0_3 a0_4 a0_5 a1=some r):
  Calls Try.prog 6 #[.agg #[.slice A0_0 l0_0.length c0_0,.slice A0_1 l0_1.length c0_1,.bool a0_2,.int .i64 a0_3,.int .i64 a0_4,.int .i64 a0_5],.int .i64 a1] w fun e w'=>e=.returned (.int .i64 r)∧Below w.heap.size w w':=by
 have hu25:=Try.underlying25
 have HR0_0:=A_ hr0_0
 have HC0_0:=A_ hc0_0
 clear hr0_0 hc0_0
 have HR0_1:=A_ hr0_1
 have HC0_1:=A_ hc0_1
 clear hr0_1 hc0_1
 have HB:=A_ (Below.refl w.heap.size w)
 have H:((laws_szFuncS.f k l0_0 a1).bind fun t108=>(if t108<0 then (some (-1)) else ((laws_szGlobalS.f l0_1 t108).bind fun t109=>(if t109<0 then (some (-1)) else (some t109)))))=some r:=h
 clear h
 replace H:=bi_ H
 obtain⟨t108,A30,H⟩:=H
 have A3:=A_ A30
 clear A30
 by_cases c4:t108<0
 ·
  rw[if_pos c4] at H
  have c4b0:=decide_eq_true c4
  clear c4
  obtain rfl:=Option.some.inj H
  clear H
  go_enter Try.func6,Try.ntmps6
  go_wp2_with (first|((with_reducible refine gd_ 2 rfl ?_);refine bx_ #[.slice A0_0 l0_0.length c0_0,.slice A0_1 l0_1.length c0_1,.bool a0_2,.int .i64 a0_3,.int .i64 a0_4,.int .i64 a0_5] 25 ?_;intro gb107 hg w5 hbox hb;have BK107:=A_ hbox;have GW107:=gw_ hg HB;have GE107:=GW107;replace HB:=bs_ HB hb;clear hb hbox hg;obtain⟨hcz6_0,hcz6_1,hcz6_2,hcz6_3,hcz6_4,hcz6_5⟩:=cs6_ BK107.out;obtain⟨hfz6_0,hfz6_1,hfz6_2,hfz6_3,hfz6_4,hfz6_5⟩:=fz6_ BK107.out)|((with_reducible refine gc_ 15 rfl ?_);refine gm_ (some 8) Try.func15 (laws_szFuncS.calls k _ _ l0_0 a1 t108 _ (cb_ HR0_0 HB) HC0_0.out A3.out) ?_;intro w7 hb;replace BK107:=kb_ BK107 hb;replace HB:=bs_ HB hb;(try clear hb)))
  go_ret
  exact⟨rr_,bw HB.out⟩
 rw[if_neg c4] at H
 have c4b0:=decide_eq_false c4
 clear c4
 replace H:=bi_ H
 obtain⟨t109,A80,H⟩:=H
 have A8:=A_ A80
 clear A80
 by_cases c9:t109<0
 ·
  rw[if_pos c9] at H
  have c9b0:=decide_eq_true c9
  clear c9
  obtain rfl:=Option.some.inj H
  clear H
  go_enter Try.func6,Try.ntmps6
  go_wp2_with (first|((with_reducible refine gd_ 2 rfl ?_);refine bx_ #[.slice A0_0 l0_0.length c0_0,.slice A0_1 l0_1.length c0_1,.bool a0_2,.int .i64 a0_3,.int .i64 a0_4,.int .i64 a0_5] 25 ?_;intro gb107 hg w10 hbox hb;have BK107:=A_ hbox;have GW107:=gw_ hg HB;have GE107:=GW107;replace HB:=bs_ HB hb;clear hb hbox hg;obtain⟨hcz11_0,hcz11_1,hcz11_2,hcz11_3,hcz11_4,hcz11_5⟩:=cs6_ BK107.out;obtain⟨hfz11_0,hfz11_1,hfz11_2,hfz11_3,hfz11_4,hfz11_5⟩:=fz6_ BK107.out)|((with_reducible refine gc_ 15 rfl ?_);refine gm_ (some 8) Try.func15 (laws_szFuncS.calls k _ _ l0_0 a1 t108 _ (cb_ HR0_0 HB) HC0_0.out A3.out) ?_;intro w12 hb;replace BK107:=kb_ BK107 hb;replace HB:=bs_ HB hb;(try clear hb);obtain⟨hcz13_0,hcz13_1,hcz13_2,hcz13_3,hcz13_4,hcz13_5⟩:=cs6_ BK107.out;obtain⟨hfz13_0,hfz13_1,hfz13_2,hfz13_3,hfz13_4,hfz13_5⟩:=fz6_ BK107.out)|((with_reducible refine gc_ 16 rfl ?_);refine gn_ (some 14) Try.func16 (laws_szGlobalS.calls _ _ l0_1 t108 t109 _ (cb_ HR0_1 HB) HC0_1.out A8.out) ?_;intro nd))
  go_ret
  exact⟨rr_,bw HB.out⟩
 rw[if_neg c9] at H
 have c9b0:=decide_eq_false c9
 clear c9
 obtain rfl:=Option.some.inj H
 clear H
 go_enter Try.func6,Try.ntmps6
 go_wp2_with (first|((with_reducible refine gd_ 2 rfl ?_);refine bx_ #[.slice A0_0 l0_0.length c0_0,.slice A0_1 l0_1.length c0_1,.bool a0_2,.int .i64 a0_3,.int .i64 a0_4,.int .i64 a0_5] 25 ?_;intro gb107 hg w14 hbox hb;have BK107:=A_ hbox;have GW107:=gw_ hg HB;have GE107:=GW107;replace HB:=bs_ HB hb;clear hb hbox hg;obtain⟨hcz15_0,hcz15_1,hcz15_2,hcz15_3,hcz15_4,hcz15_5⟩:=cs6_ BK107.out;obtain⟨hfz15_0,hfz15_1,hfz15_2,hfz15_3,hfz15_4,hfz15_5⟩:=fz6_ BK107.out)|((with_reducible refine gc_ 15 rfl ?_);refine gm_ (some 8) Try.func15 (laws_szFuncS.calls k _ _ l0_0 a1 t108 _ (cb_ HR0_0 HB) HC0_0.out A3.out) ?_;intro w16 hb;replace BK107:=kb_ BK107 hb;replace HB:=bs_ HB hb;(try clear hb);obtain⟨hcz17_0,hcz17_1,hcz17_2,hcz17_3,hcz17_4,hcz17_5⟩:=cs6_ BK107.out;obtain⟨hfz17_0,hfz17_1,hfz17_2,hfz17_3,hfz17_4,hfz17_5⟩:=fz6_ BK107.out)|((with_reducible refine gc_ 16 rfl ?_);refine gn_ (some 14) Try.func16 (laws_szGlobalS.calls _ _ l0_1 t108 t109 _ (cb_ HR0_1 HB) HC0_1.out A8.out) ?_;intro nd))
 go_ret
 exact⟨rr_,bw HB.out⟩

/-! ### laws_toIntS: function 49 -/
def laws_toIntS.l0:Nat→List Int→List Int→Int→Option (List Int)
 |0,_,_,_=>none
 |k+1,x0,x3,x4=>if x4<(x0.length:Int) then (if 0≤x4 then (if x4<(x3.length:Int) then (laws_toIntS.l0 k x0 (x3.set (x4:Int).toNat (rd x0 x4)) (wrap64 (x4+1))) else (none)) else (none)) else (some x3)
def laws_toIntS.f (k:Nat) (l0:List Int):Option (List Int):=if 0≤(l0.length:Int) then (if ((l0.length:Int):Int).toNat≤35184372088832 then (laws_toIntS.l0 k l0 (List.replicate ((l0.length:Int):Int).toNat 0) 0) else (none)) else (none)
theorem laws_toIntS.calls (k:Nat) (A0:Option Addr) (c0:Nat) (l0:List Int) (r:List Int) (w:World) (hr0:Kd.C (Kd.int .i64) w A0 l0.length l0) (hc0:l0.length≤c0) (h:laws_toIntS.f k l0=some r):
  Calls Try.prog 49 #[.slice A0 l0.length c0] w fun e w'=>∃ v0_:Value,e=.returned (v0_)∧Kd.R (Kd.int .i64) 3 w' w.heap.size (fun _=>True) v0_ r∧Below w.heap.size w w':=by
 have HR0:=A_ hr0
 have HC0:=A_ hc0
 clear hr0 hc0
 have HB:=A_ (Below.refl w.heap.size w)
 have H:(if 0≤(l0.length:Int) then (if ((l0.length:Int):Int).toNat≤35184372088832 then (laws_toIntS.l0 k l0 (List.replicate ((l0.length:Int):Int).toNat 0) 0) else (none)) else (none))=some r:=h
 clear h
 by_cases c2:0≤(l0.length:Int)
 ·
  rw[if_pos c2] at H
  have c2b0:=eq_true c2
  have c2b1:=decide_eq_true c2
  clear c2
  by_cases c3:((l0.length:Int):Int).toNat≤35184372088832
  ·
   rw[if_pos c3] at H
   have c3b0:=eq_true c3
   have c3b1:=decide_eq_true c3
   clear c3
   obtain⟨y110,hy110⟩:∃ y_:List Int,y_=(List.replicate ((l0.length:Int):Int).toNat 0):=⟨_,rfl⟩
   replace H:(laws_toIntS.l0 k l0 y110 0)=some r:=by first|(rw[hy110];with_reducible exact H)|(have H2_:=(Option.bind_some _ _).symm.trans H;rw[hy110];with_reducible exact H2_)|(have H2_:=(Option.bind_some _ _).symm.trans H;with_reducible exact H2_)|with_reducible exact H|(rw[hy110];exact H)|exact H
   have Ny110:=A_ hy110
   clear hy110
   have H':=A_ H
   clear H
   go_enter Try.func49,Try.ntmps49
   go_wp2_with (first|((with_reducible refine gd_ 7 rfl ?_);refine Kd.R_make (Kd.int .i64) _ 3 rfl (N:=7) rfl 53 _ _ rfl (l0.length:Int) rfl rfl Try.underlying53 (.int .i64 0) 8 info3 rfl (by decide) (by omega) 0 (ok:=fun _=>True) (okp:=fun _=>True) rfl (fun _ hk=>hk) trivial (od_) (Nat.le_trans (Nat.mul_le_mul_right _ (od_:(l0.length:Int).toNat≤35184372088832)) (by omega)) (Below.refl _ _) (Nat.le_refl _) ?_;intro v111 w4 ho5 hb hg_ hnew_;clear hg_ hnew_;(first|rw[←Ny110.out] at ho5|(simp only[Int.reduceToNat] at ho5;rw[←Ny110.out] at ho5));have HO112:=A_ (Kd.R_lower ho5 (below_size (bw HB.out)));replace HB:=bs_ HB hb;clear hb ho5))
   (try simp only[Act.put,List.setIfInBounds_toArray,List.set_cons_zero,List.set_cons_succ])
   go_loopg [4] k (fun kq v4 w'=>∃ (x3_1:List Int) (x4_1:Int),v4=.int .i64 x4_1∧Aside0 (laws_toIntS.l0 kq l0 x3_1 x4_1=some r)∧Aside0 (kq≤k)∧Aside0 (Kd.R (Kd.int .i64) 3 w' w.heap.size (fun _=>True) v111 x3_1)∧Aside0 (Below w.heap.size w w'))
   case atStart=>exact⟨(y110),(0),rs_,H',⟨Nat.le_refl _⟩,⟨kr_ HO112.out⟩,⟨bw HB.out⟩⟩
   case round=>
    clear H'
    try clear c2 c2b0 c2b1 c3 c3b0 c3b1
    obtain⟨x3_1,x4_1,rfl,HA,HK1,HO_3,HB⟩:=hrel
    cases gk with
    |zero=>exact absurd HA.out (by simp[laws_toIntS.l0])
    |succ k1=>
     have H:=HA.out
     clear HA
     simp only[laws_toIntS.l0] at H
     by_cases c6:x4_1<(l0.length:Int)
     ·
      rw[if_pos c6] at H
      have c6b0:=decide_eq_true c6
      clear c6
      by_cases c7:0≤x4_1
      ·
       rw[if_pos c7] at H
       have c7b0:=decide_eq_true c7
       clear c7
       by_cases c8:x4_1<(x3_1.length:Int)
       ·
        rw[if_pos c8] at H
        have c8b0:=decide_eq_true c8
        clear c8
        obtain⟨y114,hy114⟩:∃ y_:List Int,y_=(x3_1.set (x4_1:Int).toNat (rd l0 x4_1)):=⟨_,rfl⟩
        replace H:(laws_toIntS.l0 k1 l0 y114 (wrap64 (x4_1+1)))=some r:=by first|(rw[hy114];with_reducible exact H)|(have H2_:=(Option.bind_some _ _).symm.trans H;rw[hy114];with_reducible exact H2_)|(have H2_:=(Option.bind_some _ _).symm.trans H;with_reducible exact H2_)|with_reducible exact H|(rw[hy114];exact H)|exact H
        have Ny114:=A_ hy114
        clear hy114
        have H':=A_ H
        clear H
        have p113:0≤(x4_1:Int):=od_
        have q113:x4_1<(l0.length:Int):=od_
        obtain⟨ad113,e113,hx113_0⟩:=Kd.at_int HR0.out x4_1 p113 q113
        cases e113
        replace hx113_0:=cl_ HB.out hx113_0
        replace p113:=eq_true p113
        replace q113:=eq_true q113
        have p9:0≤(x4_1:Int):=od_
        have q9:(x4_1:Int)<((x3_1.length:Int):Int):=od_
        obtain⟨go9,co9,eo9,gb9,gl9,cl9,HG9⟩:=Kd.R_form HO_3.out (by omega)
        (first|cases eo9|(injection eo9 with ea_ en_ ec_;(first|subst ea_|(injection ea_ with ea_;subst ea_));subst ec_;clear en_))
        have GB9:=A_ gb9
        have GG9:=A_ HG9
        clear gb9 gl9 HG9
        obtain⟨hx9_0,hf9_0⟩:=Kd.R_celln 0 HO_3.out (x4_1:Int) p9 q9
        replace p9:=eq_true p9
        replace q9:=eq_true q9
        have HP10:=Kd.R_putg HO_3.out (x4_1:Int) (rd l0 x4_1)
        go_wp2_with (first|((with_reducible refine gate_store (t:=3) (p:=20) rfl ?_);refine store_event (t:=3) (p:=20) (v:=?vo_w11) (w1:=(wr.setCell ⟨go9,(x4_1:Int).toNat,none⟩ (.int .i64 (rd l0 x4_1)))) ?hg ?ho ?hn ?hr ?_;(case ho=>rfl);(case hg=>rfl);(case hn=>rfl);(case hr=>first|(go_simp;done)|(go_simp;rfl));intro w11 hw;have hg:wr.grownBy w11 (some go9):=(by rw[hw];exact HP10.2);have hp_:Kd.R (Kd.int .i64) 3 w11 w.heap.size (fun _=>True) (.slice (some ⟨go9,0,none⟩) x3_1.length co9) y114:=(by rw[hw,Ny114.out];exact HP10.1);clear HP10;replace HO_3:=A_ (hp_);replace HB:=A_ ((by rw[hw];exact below_set (HB.out) GB9.out:Below w.heap.size w w11));clear hg hw hp_))
        go_roundg k1
        case measure=>have:=HK1.out;omega
        case rel=>exact⟨(y114),(wrap64 (x4_1+1)),rs_,H',⟨by have:=HK1.out;omega⟩,⟨kr_ HO_3.out⟩,⟨bw HB.out⟩⟩
       rw[if_neg c8] at H
       exact absurd H (by simp)
      rw[if_neg c7] at H
      exact absurd H (by simp)
     rw[if_neg c6] at H
     have c6b0:=decide_eq_false c6
     clear c6
     obtain rfl:=Option.some.inj H
     clear H
     go_wp2
     go_ret
     exact⟨_,rr_,kr_ HO_3.out,bw HB.out⟩
  rw[if_neg c3] at H
  exact absurd H (by simp)
 rw[if_neg c2] at H
 exact absurd H (by simp)

/-! ### laws_toIns: function 67 -/
def laws_toIns.f (a0_0:Int) (a0_1:Int):Option (Int × Int):=some (a0_0,a0_1)
theorem laws_toIns.calls (a0_0:Int) (a0_1:Int) (r1:Int) (r2:Int) (w:World) (h:laws_toIns.f a0_0 a0_1=some (r1,r2)):
  Calls Try.prog 67 #[.agg #[.int .i64 a0_0,.int .i64 a0_1]] w fun e w'=>e=.returned (.agg #[.int .i64 r1,.int .i64 r2])∧Below w.heap.size w w':=by
 have hu107:=Try.underlying107
 have hu71:=Try.underlying71
 have HB:=A_ (Below.refl w.heap.size w)
 have H:(some (a0_0,a0_1))=some (r1,r2):=h
 clear h
 simp only[Option.some.injEq,Prod.mk.injEq] at H
 obtain⟨rfl,rfl⟩:=H
 go_enter Try.func67,Try.ntmps67
 go_wp2_with (first|((with_reducible refine gd_ 1 rfl ?_);refine bx_ #[.int .i64 a0_0,.int .i64 a0_1] 107 ?_;intro gb115 hg w2 hbox hb;have BK115:=A_ hbox;have GW115:=gw_ hg HB;have GE115:=GW115;replace HB:=bs_ HB hb;clear hb hbox hg)|((with_reducible refine gd_ 2 rfl ?_);refine bx_ #[.int .i64 0,.int .i64 0] 71 ?_;intro gb116 hg w3 hbox hb;have BK116:=A_ hbox;have GW116:=gw_ hg HB;have GE116:=GW116;obtain⟨NB115_116,NB116_115⟩:=nb_ BK115 hg;replace BK115:=kb_ BK115 hb;replace HB:=bs_ HB hb;clear hb hbox hg)|((with_reducible refine gd_ 3 rfl ?_);refine bx_ #[.int .i64 0,.int .i64 0] 71 ?_;intro gb117 hg w4 hbox hb;have BK117:=A_ hbox;have GW117:=gw_ hg HB;have GE117:=GW117;obtain⟨NB115_117,NB117_115⟩:=nb_ BK115 hg;obtain⟨NB116_117,NB117_116⟩:=nb_ BK116 hg;replace BK115:=kb_ BK115 hb;replace BK116:=kb_ BK116 hb;replace HB:=bs_ HB hb;clear hb hbox hg;have hnb5:=NB115_116.out;have hnc5:=NB116_115.out;have hnb6:=NB115_117.out;have hnc6:=NB117_115.out;obtain⟨hcz7_0,hcz7_1⟩:=cs2_ BK115.out;obtain⟨hfz7_0,hfz7_1⟩:=fz2_ BK115.out;have hnb8:=NB117_116.out;have hnc8:=NB116_117.out;obtain⟨hcz9_0,hcz9_1⟩:=cs2_ BK117.out;obtain⟨hfz9_0,hfz9_1⟩:=fz2_ BK117.out;obtain⟨hcz10_0,hcz10_1⟩:=cs2_ BK116.out;obtain⟨hfz10_0,hfz10_1⟩:=fz2_ BK116.out))
 refine bodyPost_ret (results_cell_row rfl _ _ gb116 71 #[.int .i64 a0_0,.int .i64 a0_1] (0,0) _ rfl (by refine blk_put (cs:=#[.int .i64 a0_0,.int .i64 0]) ?_ 1 _ rfl;refine blk_put (cs:=#[.int .i64 0,.int .i64 0]) ?_ 0 _ rfl;refine blk_far ?_ NB116_117.out _;refine blk_far ?_ NB116_117.out _;(with_reducible repeat (first|refine blk_drewN ?_ _|refine blk_drew ?_|refine blk_alloc ?_ _));exact BK116.out) Try.underlying71 rfl (by kernel_rfl)) rfl ?_
 exact⟨rr_,bw HB.out⟩

/-! ### laws_toInsS: function 50 -/
def laws_toInsS.l0:Nat→List (S107)→List (S71)→Int→Option ((List (S71)))
 |0,_,_,_=>none
 |k+1,x0,x3,x4=>if x4<(x0.length:Int) then (if 0≤x4 then ((laws_toIns.f ((rd_T107 x0 x4).f0) ((rd_T107 x0 x4).f1)).bind fun bt122=>(if x4<(x3.length:Int) then (laws_toInsS.l0 k x0 (x3.set (x4:Int).toNat (⟨bt122.1,bt122.2⟩:S71)) (wrap64 (x4+1))) else (none))) else (none)) else (some x3)
def laws_toInsS.f (k:Nat) (l0:List (S107)):Option ((List (S71))):=if 0≤(l0.length:Int) then (if ((l0.length:Int):Int).toNat≤17592186044416 then (laws_toInsS.l0 k l0 (List.replicate ((l0.length:Int):Int).toNat z71) 0) else (none)) else (none)
theorem laws_toInsS.calls (k:Nat) (A0:Option Addr) (c0:Nat) (l0:List (S107)) (r:List (S71)) (w:World) (hr0:Kd.C k107 w A0 l0.length l0) (hc0:l0.length≤c0) (h:laws_toInsS.f k l0=some r):
  Calls Try.prog 50 #[.slice A0 l0.length c0] w fun e w'=>∃ v0_:Value,e=.returned (v0_)∧Kd.R k71 71 w' w.heap.size (fun _=>True) v0_ r∧Below w.heap.size w w':=by
 have hu107:=Try.underlying107
 have hu71:=Try.underlying71
 have HR0:=A_ hr0
 have HC0:=A_ hc0
 clear hr0 hc0
 have HB:=A_ (Below.refl w.heap.size w)
 have H:(if 0≤(l0.length:Int) then (if ((l0.length:Int):Int).toNat≤17592186044416 then (laws_toInsS.l0 k l0 (List.replicate ((l0.length:Int):Int).toNat z71) 0) else (none)) else (none))=some r:=h
 clear h
 by_cases c2:0≤(l0.length:Int)
 ·
  rw[if_pos c2] at H
  have c2b0:=eq_true c2
  have c2b1:=decide_eq_true c2
  clear c2
  by_cases c3:((l0.length:Int):Int).toNat≤17592186044416
  ·
   rw[if_pos c3] at H
   have c3b0:=eq_true c3
   have c3b1:=decide_eq_true c3
   clear c3
   obtain⟨y118,hy118⟩:∃ y_:List (S71),y_=(List.replicate ((l0.length:Int):Int).toNat z71):=⟨_,rfl⟩
   replace H:(laws_toInsS.l0 k l0 y118 0)=some r:=by first|(rw[hy118];with_reducible exact H)|(have H2_:=(Option.bind_some _ _).symm.trans H;rw[hy118];with_reducible exact H2_)|(have H2_:=(Option.bind_some _ _).symm.trans H;with_reducible exact H2_)|with_reducible exact H|(rw[hy118];exact H)|exact H
   have Ny118:=A_ hy118
   clear hy118
   have H':=A_ H
   clear H
   go_enter Try.func50,Try.ntmps50
   go_wp2_with (first|((with_reducible refine gd_ 7 rfl ?_);refine Kd.R_make k71 _ 71 rfl (N:=7) rfl 57 _ _ rfl (l0.length:Int) rfl rfl Try.underlying57 (.agg #[(.int .i64 0),(.int .i64 0)]) 16 info71 rfl (by decide) (by omega) z71 (ok:=fun _=>True) (okp:=fun _=>True) (k71_mkM _ _ _ z71) (fun _ hk=>hk) trivial (od_) (Nat.le_trans (Nat.mul_le_mul_right _ (od_:(l0.length:Int).toNat≤17592186044416)) (by omega)) (Below.refl _ _) (Nat.le_refl _) ?_;intro v119 w4 ho5 hb hg_ hnew_;clear hg_ hnew_;(first|rw[←Ny118.out] at ho5|(simp only[Int.reduceToNat] at ho5;rw[←Ny118.out] at ho5));have HO120:=A_ (Kd.R_lower ho5 (below_size (bw HB.out)));replace HB:=bs_ HB hb;clear hb ho5))
   (try simp only[Act.put,List.setIfInBounds_toArray,List.set_cons_zero,List.set_cons_succ])
   go_loopg [4] k (fun kq v4 w'=>∃ (x3_1:List (S71)) (x4_1:Int),v4=.int .i64 x4_1∧Aside0 (laws_toInsS.l0 kq l0 x3_1 x4_1=some r)∧Aside0 (kq≤k)∧Aside0 (Kd.R k71 71 w' w.heap.size (fun _=>True) v119 x3_1)∧Aside0 (Below w.heap.size w w'))
   case atStart=>exact⟨(y118),(0),rs_,H',⟨Nat.le_refl _⟩,⟨kr_ HO120.out⟩,⟨bw HB.out⟩⟩
   case round=>
    clear H'
    try clear c2 c2b0 c2b1 c3 c3b0 c3b1
    obtain⟨x3_1,x4_1,rfl,HA,HK1,HO_3,HB⟩:=hrel
    cases gk with
    |zero=>exact absurd HA.out (by simp[laws_toInsS.l0])
    |succ k1=>
     have H:=HA.out
     clear HA
     simp only[laws_toInsS.l0] at H
     by_cases c6:x4_1<(l0.length:Int)
     ·
      rw[if_pos c6] at H
      have c6b0:=decide_eq_true c6
      clear c6
      by_cases c7:0≤x4_1
      ·
       rw[if_pos c7] at H
       have c7b0:=decide_eq_true c7
       clear c7
       replace H:=Option.bind_eq_some_iff.mp H
       obtain⟨⟨t122,t123⟩,A80,H⟩:=H
       replace H:(if x4_1<(x3_1.length:Int) then (laws_toInsS.l0 k1 l0 (x3_1.set (x4_1:Int).toNat (⟨t122,t123⟩:S71)) (wrap64 (x4_1+1))) else (none))=some r:=H
       have A8:=A_ A80
       clear A80
       by_cases c9:x4_1<(x3_1.length:Int)
       ·
        rw[if_pos c9] at H
        have c9b0:=decide_eq_true c9
        clear c9
        obtain⟨y124,hy124⟩:∃ y_:List (S71),y_=(x3_1.set (x4_1:Int).toNat (⟨t122,t123⟩:S71)):=⟨_,rfl⟩
        replace H:(laws_toInsS.l0 k1 l0 y124 (wrap64 (x4_1+1)))=some r:=by first|(rw[hy124];with_reducible exact H)|(have H2_:=(Option.bind_some _ _).symm.trans H;rw[hy124];with_reducible exact H2_)|(have H2_:=(Option.bind_some _ _).symm.trans H;with_reducible exact H2_)|with_reducible exact H|(rw[hy124];exact H)|exact H
        have Ny124:=A_ hy124
        clear hy124
        have H':=A_ H
        clear H
        have p121:0≤(x4_1:Int):=od_
        have q121:x4_1<(l0.length:Int):=od_
        obtain⟨ad121,e121,hx121_0,hx121_1⟩:=at_T107 HR0.out x4_1 p121 q121
        cases e121
        replace hx121_0:=cl_ HB.out hx121_0
        replace hx121_1:=cl_ HB.out hx121_1
        replace p121:=eq_true p121
        replace q121:=eq_true q121
        go_wp2_with (first|((with_reducible refine gc_ 67 rfl ?_);refine gm_ (some 20) Try.func67 (laws_toIns.calls ((rd_T107 l0 x4_1).f0) ((rd_T107 l0 x4_1).f1) t122 t123 _ A8.out) ?_;intro w11 hb;replace HO_3:=A_ (Kd.R_below (kr_ HO_3.out) hb);replace HB:=bs_ HB hb;(try clear hb);have p10:0≤(x4_1:Int):=od_;have q10:(x4_1:Int)<((x3_1.length:Int):Int):=od_;obtain⟨go10,co10,eo10,gb10,gl10,cl10,HG10⟩:=Kd.R_form HO_3.out (by omega);(first|cases eo10|(injection eo10 with ea_ en_ ec_;(first|subst ea_|(injection ea_ with ea_;subst ea_));subst ec_;clear en_));have GB10:=A_ gb10;have GG10:=A_ HG10;clear gb10 gl10 HG10;obtain⟨ce10,hcl10,hM10,hcc10,hfr10⟩:=Kd.R_elem HO_3.out z71 (x4_1:Int) p10 q10;obtain rfl:=k71_openM hM10;have hx10_0:w11.cell? ⟨go10,(x4_1:Int).toNat*2,none⟩=some (.int .i64 ((rd_T71 x3_1 x4_1).f0)):=hcc10 0 _ rfl;have hx10_1:w11.cell? ⟨go10,(x4_1:Int).toNat*2+1,none⟩=some (.int .i64 ((rd_T71 x3_1 x4_1).f1)):=hcc10 1 _ rfl;have hf10_0:w11.frozen? ⟨go10,(x4_1:Int).toNat*2,none⟩=false:=hfr10 0;have hf10_1:w11.frozen? ⟨go10,(x4_1:Int).toNat*2+1,none⟩=false:=hfr10 1;clear hcl10 hcc10 hfr10 hM10;replace p10:=eq_true p10;replace q10:=eq_true q10;have HX12:=A_ (show Kd.R k71 71 w11 w.heap.size (fun _=>True) (.slice (some ⟨go10,0,none⟩) x3_1.length co10) x3_1 from(kr_ HO_3.out));obtain⟨ce12,hcl12,hM12,hcc12,hfr12⟩:=Kd.R_elem HX12.out z71 (x4_1:Int) (od_) (by have h_:(x4_1:Int)<((x3_1.length:Int):Int):=od_;first|exact h_|(have e_:=(Kd.R_reads' HO_3.out).1;omega)|simpa using h_);obtain rfl:=k71_openM hM12;have HP12:=Kd.R_seg HX12.out (x4_1:Int) (od_) (by have h_:(x4_1:Int)<((x3_1.length:Int):Int):=od_;first|exact h_|(have e_:=(Kd.R_reads' HO_3.out).1;omega)|simpa using h_) (seg:=[.int .i64 t122,.int .i64 t123]) (j:=0) hcl12 hcc12 (show 2≤2 from by decide) (x':=(⟨t122,t123⟩:S71)) (k71_mkM _ _ _ (⟨t122,t123⟩:S71)) (fun _ hk=>hk);have hx12_0:=hcc12 0 _ rfl;(try simp only[show (k71).sz=2 from rfl,Nat.mul_one,Nat.add_zero] at hx12_0);have hf12_0:=hfr12 0;(try simp only[show (k71).sz=2 from rfl,Nat.mul_one,Nat.add_zero] at hf12_0);have hx12_1:=hcc12 1 _ rfl;(try simp only[show (k71).sz=2 from rfl,Nat.mul_one,Nat.add_zero] at hx12_1);have hf12_1:=hfr12 1;(try simp only[show (k71).sz=2 from rfl,Nat.mul_one,Nat.add_zero] at hf12_1);clear hcl12 hcc12 hfr12 hM12)|((with_reducible refine gate_store (t:=71) (p:=21) rfl ?_);refine store_event (t:=71) (p:=21) (v:=?vo_w13) (w1:=((w11.setCell ⟨go10,(x4_1:Int).toNat*2,none⟩ (.int .i64 t122)).setCell ⟨go10,(x4_1:Int).toNat*2+1,none⟩ (.int .i64 t123))) ?hg ?ho ?hn ?hr ?_;(case ho=>rfl);(case hg=>rfl);(case hn=>rfl);(case hr=>first|(go_simp;done)|(go_simp;rfl));intro w13 hw;have hg:w11.grownBy w13 (some go10):=(by rw[hw];exact HP12.2);have hp_:Kd.R k71 71 w13 w.heap.size (fun _=>True) (.slice (some ⟨go10,0,none⟩) x3_1.length co10) y124:=(by rw[hw,Ny124.out];exact HP12.1);clear HP12;replace HO_3:=A_ (hp_);replace HB:=A_ ((by rw[hw];exact below_set (below_set (HB.out) GB10.out) GB10.out:Below w.heap.size w w13));clear hg hw hp_))
        go_roundg k1
        case measure=>have:=HK1.out;omega
        case rel=>exact⟨(y124),(wrap64 (x4_1+1)),rs_,H',⟨by have:=HK1.out;omega⟩,⟨kr_ HO_3.out⟩,⟨bw HB.out⟩⟩
       rw[if_neg c9] at H
       exact absurd H (by simp)
      rw[if_neg c7] at H
      exact absurd H (by simp)
     rw[if_neg c6] at H
     have c6b0:=decide_eq_false c6
     clear c6
     obtain rfl:=Option.some.inj H
     clear H
     go_wp2
     go_ret
     exact⟨_,rr_,kr_ HO_3.out,bw HB.out⟩
  rw[if_neg c3] at H
  exact absurd H (by simp)
 rw[if_neg c2] at H
 exact absurd H (by simp)

end Go.Proofs.Ytghogonibanieaa.Q

