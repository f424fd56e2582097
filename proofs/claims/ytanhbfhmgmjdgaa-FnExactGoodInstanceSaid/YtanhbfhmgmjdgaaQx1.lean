-- Written by a program of this session; it walks the functions that the law reaches.
import Derived.Test.YtanhbfhmgmjdgaaQx0
namespace Go.Proofs.Ytanhbfhmgmjdgaa.Q
open Go.RowKit Go.Proofs.YtanhbfhmgmjdgaaW.PrintWords Go.Proofs.YtanhbfhmgmjdgaaW.PrintLast Go.Proofs.YtanhbfhmgmjdgaaW.PrintMore
attribute [local go_sem] max2_int min2_int max_two min_two max_three min_three max_four min_four   -- for this text's walks alone
set_option linter.unusedVariables false
set_option linter.unusedSimpArgs false
set_option maxRecDepth 100000
set_option maxHeartbeats 8000000

theorem eqA39 (d:Nat) (w:World) (x0 y0:Int) (x1 y1:ByteArray):
  (Op.equalIn (d+2) 39 (.agg #[.int .i64 x0,.string x1]) (.agg #[.int .i64 y0,.string y1])).run Try.prog w=.ok (x0==y0 && (x1.toList==y1.toList)) w:=by
 refine eqA_of Try.underlying39 (by kernel_rfl) ?_
 refine eqf_cons (by rfl) (by go_simp;rfl) (by go_simp;rfl) (by go_simp) ?_
 exact eqf_last (by rfl) (by go_simp;rfl) (by go_simp;rfl) (by go_simp)

/-! ### laws_szIntS: function 52 -/
def laws_szIntS.f (l0:List Int) (a1:Int):Option (Int):=if (wrap64 (a1 - (l0.length:Int)))<0 then (some (-1)) else (some (wrap64 (a1 - (l0.length:Int))))
theorem laws_szIntS.calls (A0:Option Addr) (c0:Nat) (l0:List Int) (a1:Int) (r:Int) (w:World) (hr0:Kd.C (Kd.int .i64) w A0 l0.length l0) (hc0:l0.length≤c0) (h:laws_szIntS.f l0 a1=some r):
  Calls Try.prog 52 #[.slice A0 l0.length c0,.int .i64 a1] w fun e w'=>e=.returned (.int .i64 r)∧Drawn0 w w':=by
 have HR0:=A_ hr0
 have HC0:=A_ hc0
 clear hr0 hc0
 have H:(if (wrap64 (a1 - (l0.length:Int)))<0 then (some (-1)) else (some (wrap64 (a1 - (l0.length:Int)))))=some r:=h
 clear h
 revert H
 refine iL_ (fun c3b0 H=>?_) (fun c3b0 H=>?_)
 ·
  obtain rfl:=Option.some.inj H
  clear H
  go_enter Try.func52,Try.ntmps52
  go_wp2
  go_ret
  exact⟨rs_,dr_⟩
 obtain rfl:=Option.some.inj H
 clear H
 go_enter Try.func52,Try.ntmps52
 go_wp2
 go_ret
 exact⟨rs_,dr_⟩

/-! ### laws_szInsS: function 53 -/
def laws_szInsS.f (l0:List (S133)) (a1:Int):Option (Int):=if (wrap64 (a1 - (l0.length:Int)))<0 then (some (-1)) else (some (wrap64 (a1 - (l0.length:Int))))
theorem laws_szInsS.calls (A0:Option Addr) (c0:Nat) (l0:List (S133)) (a1:Int) (r:Int) (w:World) (hr0:Kd.C k133 w A0 l0.length l0) (hc0:l0.length≤c0) (h:laws_szInsS.f l0 a1=some r):
  Calls Try.prog 53 #[.slice A0 l0.length c0,.int .i64 a1] w fun e w'=>e=.returned (.int .i64 r)∧Drawn0 w w':=by
 have HR0:=A_ hr0
 have HC0:=A_ hc0
 clear hr0 hc0
 have H:(if (wrap64 (a1 - (l0.length:Int)))<0 then (some (-1)) else (some (wrap64 (a1 - (l0.length:Int)))))=some r:=h
 clear h
 revert H
 refine iL_ (fun c3b0 H=>?_) (fun c3b0 H=>?_)
 ·
  obtain rfl:=Option.some.inj H
  clear H
  go_enter Try.func53,Try.ntmps53
  go_wp2
  go_ret
  exact⟨rs_,dr_⟩
 obtain rfl:=Option.some.inj H
 clear H
 go_enter Try.func53,Try.ntmps53
 go_wp2
 go_ret
 exact⟨rs_,dr_⟩

/-! ### laws_szFunc: function 37 -/
def laws_szFunc.f (l0_0:List Int) (a0_1:Int) (l0_2:List Int) (l0_3:List (S133)) (a1:Int):Option (Int):=(laws_szIntS.f l0_0 a1).bind fun t102=>(if t102<0 then (some (-1)) else ((laws_szIntS.f l0_2 t102).bind fun t103=>(if t103<0 then (some (-1)) else ((laws_szInsS.f l0_3 t103).bind fun t104=>(if t104<0 then (some (-1)) else (some t104))))))
theorem laws_szFunc.calls (A0_0:Option Addr) (c0_0:Nat) (l0_0:List Int) (a0_1:Int) (A0_2:Option Addr) (c0_2:Nat) (l0_2:List Int) (A0_3:Option Addr) (c0_3:Nat) (l0_3:List (S133)) (a1:Int) (r:Int) (w:World) (hr0_0:Kd.C (Kd.int .i64) w A0_0 l0_0.length l0_0) (hc0_0:l0_0.length≤c0_0) (hr0_2:Kd.C (Kd.int .i64) w A0_2 l0_2.length l0_2) (hc0_2:l0_2.length≤c0_2) (hr0_3:Kd.C k133 w A0_3 l0_3.length l0_3) (hc0_3:l0_3.length≤c0_3) (h:laws_szFunc.f l0_0 a0_1 l0_2 l0_3 a1=some r):
  Calls Try.prog 37 #[.agg #[.slice A0_0 l0_0.length c0_0,.int .i64 a0_1,.slice A0_2 l0_2.length c0_2,.slice A0_3 l0_3.length c0_3],.int .i64 a1] w fun e w'=>e=.returned (.int .i64 r)∧Below w.heap.size w w':=by
 have hu84:=Try.underlying84
 have HR0_0:=A_ hr0_0
 have HC0_0:=A_ hc0_0
 clear hr0_0 hc0_0
 have HR0_2:=A_ hr0_2
 have HC0_2:=A_ hc0_2
 clear hr0_2 hc0_2
 have HR0_3:=A_ hr0_3
 have HC0_3:=A_ hc0_3
 clear hr0_3 hc0_3
 have HB:=A_ (Below.refl w.heap.size w)
 have H:((laws_szIntS.f l0_0 a1).bind fun t102=>(if t102<0 then (some (-1)) else ((laws_szIntS.f l0_2 t102).bind fun t103=>(if t103<0 then (some (-1)) else ((laws_szInsS.f l0_3 t103).bind fun t104=>(if t104<0 then (some (-1)) else (some t104)))))))=some r:=h
 clear h
 replace H:=bA_ H
 obtain⟨t102,A3,H⟩:=H
 revert H
 refine iL_ (fun c4b0 H=>?_) (fun c4b0 H=>?_)
 rotate_left
 replace H:=bA_ H
 obtain⟨t103,A7,H⟩:=H
 revert H
 refine iL_ (fun c8b0 H=>?_) (fun c8b0 H=>?_)
 rotate_left
 replace H:=bA_ H
 obtain⟨t104,A11,H⟩:=H
 revert H
 refine iL_ (fun c12b0 H=>?_) (fun c12b0 H=>?_)
 all_goals
  obtain rfl:=Option.some.inj H
  clear H
  go_enter Try.func37,Try.ntmps37
  go_wp2_with (first|((with_reducible refine gd_ 2 rfl ?_);refine bx_ #[.slice A0_0 l0_0.length c0_0,.int .i64 a0_1,.slice A0_2 l0_2.length c0_2,.slice A0_3 l0_3.length c0_3] 84 ?_;intro gb101 hg w5 hbox hb;have BK101:=A_ hbox;have GW101:=gw_ hg HB;have GE101:=GW101;replace HB:=bs_ HB hb;clear hb hbox hg;obtain⟨hcz6_0,hcz6_1,hcz6_2,hcz6_3⟩:=cs4_ BK101.out;obtain⟨hfz6_0,hfz6_1,hfz6_2,hfz6_3⟩:=fz4_ BK101.out)|((with_reducible refine gc_ 52 rfl ?_);refine gn_ (some 8) Try.func52 (laws_szIntS.calls _ _ l0_0 a1 t102 _ (cb_ HR0_0 HB) HC0_0.out A3.out) ?_;intro nd)|((with_reducible refine gc_ 52 rfl ?_);refine gn_ (some 14) Try.func52 (laws_szIntS.calls _ _ l0_2 t102 t103 _ (cb_ HR0_2 HB) HC0_2.out A7.out) ?_;intro nd)|((with_reducible refine gc_ 53 rfl ?_);refine gn_ (some 20) Try.func53 (laws_szInsS.calls _ _ l0_3 t103 t104 _ (cb_ HR0_3 HB) HC0_3.out A11.out) ?_;intro nd))
  go_ret
  exact⟨rr_,bw HB.out⟩

/-! ### laws_szFuncS: function 18 -/
def laws_szFuncS.l0:Nat→List (S84)→Int→Int→Option (Int)
 |0,_,_,_=>none
 |k+1,x0,x1,x5=>if x5<(x0.length:Int) then (if 0≤x5 then ((laws_szFunc.f ((rd_T84 x0 x5).f0) ((rd_T84 x0 x5).f1) ((rd_T84 x0 x5).f2) ((rd_T84 x0 x5).f3) x1).bind fun t106=>(if t106<0 then (some (-1)) else (laws_szFuncS.l0 k x0 t106 (wrap64 (x5+1))))) else (none)) else (some x1)
def laws_szFuncS.f (k:Nat) (l0:List (S84)) (a1:Int):Option (Int):=if (wrap64 (a1 - (l0.length:Int)))<0 then (some (-1)) else (laws_szFuncS.l0 k l0 (wrap64 (a1 - (l0.length:Int))) 0)
theorem laws_szFuncS.calls (k:Nat) (A0:Option Addr) (c0:Nat) (l0:List (S84)) (a1:Int) (r:Int) (w:World) (hr0:Kd.C k84 w A0 l0.length l0) (hc0:l0.length≤c0) (h:laws_szFuncS.f k l0 a1=some r):
  Calls Try.prog 18 #[.slice A0 l0.length c0,.int .i64 a1] w fun e w'=>e=.returned (.int .i64 r)∧Below w.heap.size w w':=by
 have hu84:=Try.underlying84
 have HR0:=A_ hr0
 have HC0:=A_ hc0
 clear hr0 hc0
 have HB:=A_ (Below.refl w.heap.size w)
 have H:(if (wrap64 (a1 - (l0.length:Int)))<0 then (some (-1)) else (laws_szFuncS.l0 k l0 (wrap64 (a1 - (l0.length:Int))) 0))=some r:=h
 clear h
 revert H
 refine iL_ (fun c3b0 H=>?_) (fun c3b0 H=>?_)
 ·
  obtain rfl:=Option.some.inj H
  clear H
  go_enter Try.func18,Try.ntmps18
  go_wp2
  go_ret
  exact⟨rr_,bw HB.out⟩
 have H':=A_ H
 clear H
 go_enter Try.func18,Try.ntmps18
 go_wp2
 (try simp only[Act.put,List.setIfInBounds_toArray,List.set_cons_zero,List.set_cons_succ])
 go_loopg [1,5] k (fun kq v1 v5 w'=>∃ (x1_1:Int) (x5_1:Int),v1=.int .i64 x1_1∧v5=.int .i64 x5_1∧Aside0 (laws_szFuncS.l0 kq l0 x1_1 x5_1=some r)∧Aside0 (kq≤k)∧Aside0 (Below w.heap.size w w'))
 case atStart=>exact⟨(wrap64 (a1 - (l0.length:Int))),(0),rs_,rs_,H',⟨Nat.le_refl _⟩,⟨bw HB.out⟩⟩
 case round=>
  clear H'
  try clear c3 c3b0
  obtain⟨x1_1,x5_1,rfl,rfl,HA,HK1,HB⟩:=hrel
  cases gk with
  |zero=>exact absurd HA.out (by simp[laws_szFuncS.l0])
  |succ k1=>
   have H:=HA.out
   clear HA
   simp only[laws_szFuncS.l0] at H
   revert H
   refine iL_ (fun c4b0 H=>?_) (fun c4b0 H=>?_)
   ·
    replace H:=id_ H
    obtain⟨c5b0,H⟩:=H
    replace H:=bA_ H
    obtain⟨t106,A6,H⟩:=H
    revert H
    refine iL_ (fun c7b0 H=>?_) (fun c7b0 H=>?_)
    ·
     obtain rfl:=Option.some.inj H
     clear H
     have p105:0≤(x5_1:Int):=od_
     have q105:x5_1<(l0.length:Int):=od_
     obtain⟨ad105,A105_0,c105_0,A105_2,c105_2,A105_3,c105_3,e105,hx105_0,hx105_1,hx105_2,hx105_3,hl105_0,hi105_0,hl105_2,hi105_2,hl105_3,hi105_3⟩:=at_T84 HR0.out x5_1 p105 q105
     cases e105
     replace hx105_0:=cl_ HB.out hx105_0
     replace hx105_1:=cl_ HB.out hx105_1
     replace hx105_2:=cl_ HB.out hx105_2
     replace hx105_3:=cl_ HB.out hx105_3
     have HR105_0:=A_ hi105_0
     have HC105_0:=A_ hl105_0
     clear hi105_0 hl105_0
     have HR105_2:=A_ hi105_2
     have HC105_2:=A_ hl105_2
     clear hi105_2 hl105_2
     have HR105_3:=A_ hi105_3
     have HC105_3:=A_ hl105_3
     clear hi105_3 hl105_3
     replace p105:=eq_true p105
     replace q105:=eq_true q105
     go_wp2_with (first|((with_reducible refine gc_ 37 rfl ?_);refine gm_ (some 23) Try.func37 (laws_szFunc.calls _ _ ((rd_T84 l0 x5_1).f0) ((rd_T84 l0 x5_1).f1) _ _ ((rd_T84 l0 x5_1).f2) _ _ ((rd_T84 l0 x5_1).f3) x1_1 t106 _ (cb_ HR105_0 HB) HC105_0.out (cb_ HR105_2 HB) HC105_2.out (cb_ HR105_3 HB) HC105_3.out A6.out) ?_;intro w8 hb;replace HB:=bs_ HB hb;(try clear hb)))
     go_ret
     exact⟨rr_,bw HB.out⟩
    have H':=A_ H
    clear H
    have p105:0≤(x5_1:Int):=od_
    have q105:x5_1<(l0.length:Int):=od_
    obtain⟨ad105,A105_0,c105_0,A105_2,c105_2,A105_3,c105_3,e105,hx105_0,hx105_1,hx105_2,hx105_3,hl105_0,hi105_0,hl105_2,hi105_2,hl105_3,hi105_3⟩:=at_T84 HR0.out x5_1 p105 q105
    cases e105
    replace hx105_0:=cl_ HB.out hx105_0
    replace hx105_1:=cl_ HB.out hx105_1
    replace hx105_2:=cl_ HB.out hx105_2
    replace hx105_3:=cl_ HB.out hx105_3
    have HR105_0:=A_ hi105_0
    have HC105_0:=A_ hl105_0
    clear hi105_0 hl105_0
    have HR105_2:=A_ hi105_2
    have HC105_2:=A_ hl105_2
    clear hi105_2 hl105_2
    have HR105_3:=A_ hi105_3
    have HC105_3:=A_ hl105_3
    clear hi105_3 hl105_3
    replace p105:=eq_true p105
    replace q105:=eq_true q105
    go_wp2_with (first|((with_reducible refine gc_ 37 rfl ?_);refine gm_ (some 23) Try.func37 (laws_szFunc.calls _ _ ((rd_T84 l0 x5_1).f0) ((rd_T84 l0 x5_1).f1) _ _ ((rd_T84 l0 x5_1).f2) _ _ ((rd_T84 l0 x5_1).f3) x1_1 t106 _ (cb_ HR105_0 HB) HC105_0.out (cb_ HR105_2 HB) HC105_2.out (cb_ HR105_3 HB) HC105_3.out A6.out) ?_;intro w9 hb;replace HB:=bs_ HB hb;(try clear hb)))
    go_roundg k1
    case measure=>have:=HK1.out;omega
    case rel=>exact⟨(t106),(wrap64 (x5_1+1)),rs_,rs_,H',⟨by have:=HK1.out;omega⟩,⟨bw HB.out⟩⟩
   obtain rfl:=Option.some.inj H
   clear H
   go_wp2
   go_ret
   exact⟨rr_,bw HB.out⟩

/-! ### laws_szGlobalS: function 19 -/
def laws_szGlobalS.f (l0:List (S91)) (a1:Int):Option (Int):=if (wrap64 (a1 - (l0.length:Int)))<0 then (some (-1)) else (some (wrap64 (a1 - (l0.length:Int))))
theorem laws_szGlobalS.calls (A0:Option Addr) (c0:Nat) (l0:List (S91)) (a1:Int) (r:Int) (w:World) (hr0:Kd.C k91 w A0 l0.length l0) (hc0:l0.length≤c0) (h:laws_szGlobalS.f l0 a1=some r):
  Calls Try.prog 19 #[.slice A0 l0.length c0,.int .i64 a1] w fun e w'=>e=.returned (.int .i64 r)∧Drawn0 w w':=by
 have HR0:=A_ hr0
 have HC0:=A_ hc0
 clear hr0 hc0
 have H:(if (wrap64 (a1 - (l0.length:Int)))<0 then (some (-1)) else (some (wrap64 (a1 - (l0.length:Int)))))=some r:=h
 clear h
 revert H
 refine iL_ (fun c3b0 H=>?_) (fun c3b0 H=>?_)
 ·
  obtain rfl:=Option.some.inj H
  clear H
  go_enter Try.func19,Try.ntmps19
  go_wp2
  go_ret
  exact⟨rs_,dr_⟩
 obtain rfl:=Option.some.inj H
 clear H
 go_enter Try.func19,Try.ntmps19
 go_wp2
 go_ret
 exact⟨rs_,dr_⟩

/-! ### laws_szModule: function 9 -/
def laws_szModule.f (k:Nat) (l0_0:List (S84)) (l0_1:List (S91)) (a0_2:Bool) (a0_3:Int) (a0_4:Int) (a0_5:Int) (a1:Int):Option (Int):=(laws_szFuncS.f k l0_0 a1).bind fun t108=>(if t108<0 then (some (-1)) else ((laws_szGlobalS.f l0_1 t108).bind fun t109=>(if t109<0 then (some (-1)) else (some t109))))
theorem laws_szModule.calls (k:Nat) (A0_0:Option Addr) (c0_0:Nat) (l0_0:List (S84)) (A0_1:Option Addr) (c0_1:Nat) (l0_1:List (S91)) (a0_2:Bool) (a0_3:Int) (a0_4:Int) (a0_5:Int) (a1:Int) (r:Int) (w:World) (hr0_0:Kd.C k84 w A0_0 l0_0.length l0_0) (hc0_0:l0_0.length≤c0_0) (hr0_1:Kd.C k91 w A0_1 l0_1.length l0_1) (hc0_1:l0_1.length≤c0_1) (h:laws_szModule.f k l0_0 l0_1 a0_2 a0_3 a0_4 a0_5 a1=some r):
  Calls Try.prog 9 #[.agg #[.slice A0_0 l0_0.length c0_0,.slice A0_1 l0_1.length c0_1,.bool a0_2,.int .i64 a0_3,.int .i64 a0_4,.int .i64 a0_5],.int .i64 a1] w fun e w'=>e=.returned (.int .i64 r)∧Below w.heap.size w w':=by
 have hu25:=Try.underlying25
 have HR0_0:=A_ hr0_0
 have HC0_0:=A_ hc0_0
 clear hr0_0 hc0_0
 have HR0_1:=A_ hr0_1
 have HC0_1:=A_ hc0_1
 clear hr0_1 hc0_1
 have HB:=A_ (Below.refl w.heap.size w)
 have H:((laws_szFuncS.f k l0_0 a1).bind fun t108=>(if t108<0 then (some (-1)) else ((laws_szGlobalS.f l0_1 t108).bind fun t109=>(if t109<0 then (some (-1)) else (some t109)))))=some r:=h
 clear h
 replace H:=bA_ H
 obtain⟨t108,A3,H⟩:=H
 revert H
 refine iL_ (fun c4b0 H=>?_) (fun c4b0 H=>?_)
 rotate_left
 replace H:=bA_ H
 obtain⟨t109,A8,H⟩:=H
 revert H
 refine iL_ (fun c9b0 H=>?_) (fun c9b0 H=>?_)
 all_goals
  obtain rfl:=Option.some.inj H
  clear H
  go_enter Try.func9,Try.ntmps9
  go_wp2_with (first|((with_reducible refine gd_ 2 rfl ?_);refine bx_ #[.slice A0_0 l0_0.length c0_0,.slice A0_1 l0_1.length c0_1,.bool a0_2,.int .i64 a0_3,.int .i64 a0_4,.int .i64 a0_5] 25 ?_;intro gb107 hg w5 hbox hb;have BK107:=A_ hbox;have GW107:=gw_ hg HB;have GE107:=GW107;replace HB:=bs_ HB hb;clear hb hbox hg;obtain⟨hcz6_0,hcz6_1,hcz6_2,hcz6_3,hcz6_4,hcz6_5⟩:=cs6_ BK107.out;obtain⟨hfz6_0,hfz6_1,hfz6_2,hfz6_3,hfz6_4,hfz6_5⟩:=fz6_ BK107.out)|((with_reducible refine gc_ 18 rfl ?_);refine gm_ (some 8) Try.func18 (laws_szFuncS.calls k _ _ l0_0 a1 t108 _ (cb_ HR0_0 HB) HC0_0.out A3.out) ?_;intro w7 hb;replace BK107:=kb_ BK107 hb;replace HB:=bs_ HB hb;(try clear hb);obtain⟨hcz13_0,hcz13_1,hcz13_2,hcz13_3,hcz13_4,hcz13_5⟩:=cs6_ BK107.out;obtain⟨hfz13_0,hfz13_1,hfz13_2,hfz13_3,hfz13_4,hfz13_5⟩:=fz6_ BK107.out)|((with_reducible refine gc_ 19 rfl ?_);refine gn_ (some 14) Try.func19 (laws_szGlobalS.calls _ _ l0_1 t108 t109 _ (cb_ HR0_1 HB) HC0_1.out A8.out) ?_;intro nd))
  go_ret
  exact⟨rr_,bw HB.out⟩

/-! ### laws_szMemory: function 20 -/
def laws_szMemory.f (a0_0:Int) (a0_1:ByteArray) (a1:Int):Option (Int):=if (wrap64 (a1 - (a0_1.size:Int)))<0 then (some (-1)) else (some (wrap64 (a1 - (a0_1.size:Int))))
theorem laws_szMemory.calls (a0_0:Int) (a0_1:ByteArray) (a1:Int) (r:Int) (w:World) (h:laws_szMemory.f a0_0 a0_1 a1=some r):
  Calls Try.prog 20 #[.agg #[.int .i64 a0_0,.string a0_1],.int .i64 a1] w fun e w'=>e=.returned (.int .i64 r)∧Below w.heap.size w w':=by
 have hu27:=Try.underlying27
 have HB:=A_ (Below.refl w.heap.size w)
 have H:(if (wrap64 (a1 - (a0_1.size:Int)))<0 then (some (-1)) else (some (wrap64 (a1 - (a0_1.size:Int)))))=some r:=h
 clear h
 refine ic_ ((wrap64 (a1 - (a0_1.size:Int)))<0) (fun c3=>?pc3) (fun c3=>?nc3)
 case' pc3=>
  rw[if_pos c3] at H
  have c3b0:=decide_eq_true c3
 case' nc3=>
  rw[if_neg c3] at H
  have c3b0:=decide_eq_false c3
 all_goals
  clear c3
  obtain rfl:=Option.some.inj H
  clear H
  go_enter Try.func20,Try.ntmps20
  go_wp2_with (first|((with_reducible refine gd_ 2 rfl ?_);refine bx_ #[.int .i64 a0_0,.string a0_1] 27 ?_;intro gb110 hg w4 hbox hb;have BK110:=A_ hbox;have GW110:=gw_ hg HB;have GE110:=GW110;replace HB:=bs_ HB hb;clear hb hbox hg;obtain⟨hcz5_0,hcz5_1⟩:=cs2_ BK110.out;obtain⟨hfz5_0,hfz5_1⟩:=fz2_ BK110.out))
  go_ret
  exact⟨rr_,bw HB.out⟩

/-! ### laws_szWordS: function 21 -/
def laws_szWordS.f (l0:List (S93)) (a1:Int):Option (Int):=if (wrap64 (a1 - (l0.length:Int)))<0 then (some (-1)) else (some (wrap64 (a1 - (l0.length:Int))))
theorem laws_szWordS.calls (A0:Option Addr) (c0:Nat) (l0:List (S93)) (a1:Int) (r:Int) (w:World) (hr0:Kd.C k93 w A0 l0.length l0) (hc0:l0.length≤c0) (h:laws_szWordS.f l0 a1=some r):
  Calls Try.prog 21 #[.slice A0 l0.length c0,.int .i64 a1] w fun e w'=>e=.returned (.int .i64 r)∧Drawn0 w w':=by
 have HR0:=A_ hr0
 have HC0:=A_ hc0
 clear hr0 hc0
 have H:(if (wrap64 (a1 - (l0.length:Int)))<0 then (some (-1)) else (some (wrap64 (a1 - (l0.length:Int)))))=some r:=h
 clear h
 revert H
 refine iL_ (fun c3b0 H=>?_) (fun c3b0 H=>?_)
 ·
  obtain rfl:=Option.some.inj H
  clear H
  go_enter Try.func21,Try.ntmps21
  go_wp2
  go_ret
  exact⟨rs_,dr_⟩
 obtain rfl:=Option.some.inj H
 clear H
 go_enter Try.func21,Try.ntmps21
 go_wp2
 go_ret
 exact⟨rs_,dr_⟩

/-! ### laws_szState: function 10 -/
def laws_szState.f (a0_0:Int) (a0_1:ByteArray) (l0_2:List (S93)) (a1:Int):Option (Int):=(laws_szMemory.f a0_0 a0_1 a1).bind fun t112=>(if t112<0 then (some (-1)) else ((laws_szWordS.f l0_2 t112).bind fun t113=>(if t113<0 then (some (-1)) else (some t113))))
theorem laws_szState.calls (a0_0:Int) (a0_1:ByteArray) (A0_2:Option Addr) (c0_2:Nat) (l0_2:List (S93)) (a1:Int) (r:Int) (w:World) (hr0_2:Kd.C k93 w A0_2 l0_2.length l0_2) (hc0_2:l0_2.length≤c0_2) (h:laws_szState.f a0_0 a0_1 l0_2 a1=some r):
  Calls Try.prog 10 #[.agg #[.int .i64 a0_0,.string a0_1,.slice A0_2 l0_2.length c0_2],.int .i64 a1] w fun e w'=>e=.returned (.int .i64 r)∧Below w.heap.size w w':=by
 have hu30:=Try.underlying30
 have hu27:=Try.underlying27
 have HR0_2:=A_ hr0_2
 have HC0_2:=A_ hc0_2
 clear hr0_2 hc0_2
 have HB:=A_ (Below.refl w.heap.size w)
 have H:((laws_szMemory.f a0_0 a0_1 a1).bind fun t112=>(if t112<0 then (some (-1)) else ((laws_szWordS.f l0_2 t112).bind fun t113=>(if t113<0 then (some (-1)) else (some t113)))))=some r:=h
 clear h
 replace H:=bA_ H
 obtain⟨t112,A3,H⟩:=H
 revert H
 refine iL_ (fun c4b0 H=>?_) (fun c4b0 H=>?_)
 rotate_left
 replace H:=bA_ H
 obtain⟨t113,A8,H⟩:=H
 revert H
 refine iL_ (fun c9b0 H=>?_) (fun c9b0 H=>?_)
 all_goals
  obtain rfl:=Option.some.inj H
  clear H
  go_enter Try.func10,Try.ntmps10
  go_wp2_with (first|((with_reducible refine gd_ 2 rfl ?_);refine bx_ #[.int .i64 a0_0,.string a0_1,.slice A0_2 l0_2.length c0_2] 30 ?_;intro gb111 hg w5 hbox hb;have BK111:=A_ hbox;have GW111:=gw_ hg HB;have GE111:=GW111;replace HB:=bs_ HB hb;clear hb hbox hg;obtain⟨hcz6_0,hcz6_1,hcz6_2⟩:=cs3_ BK111.out;obtain⟨hfz6_0,hfz6_1,hfz6_2⟩:=fz3_ BK111.out)|((with_reducible refine gc_ 20 rfl ?_);refine gm_ (some 8) Try.func20 (laws_szMemory.calls a0_0 a0_1 a1 t112 _ A3.out) ?_;intro w7 hb;replace BK111:=kb_ BK111 hb;replace HB:=bs_ HB hb;(try clear hb);obtain⟨hcz13_0,hcz13_1,hcz13_2⟩:=cs3_ BK111.out;obtain⟨hfz13_0,hfz13_1,hfz13_2⟩:=fz3_ BK111.out)|((with_reducible refine gc_ 21 rfl ?_);refine gn_ (some 14) Try.func21 (laws_szWordS.calls _ _ l0_2 t112 t113 _ (cb_ HR0_2 HB) HC0_2.out A8.out) ?_;intro nd))
  go_ret
  exact⟨rr_,bw HB.out⟩

/-! ### laws_szInstance: function 4 -/
def laws_szInstance.f (k:Nat) (l0_0:List (S84)) (l0_1:List (S91)) (a0_2:Bool) (a0_3:Int) (a0_4:Int) (a0_5:Int) (a0_6:Int) (a0_7:ByteArray) (l0_8:List (S93)) (a0_9:Bool) (a0_10:Int) (a1:Int):Option (Int):=(laws_szModule.f k l0_0 l0_1 a0_2 a0_3 a0_4 a0_5 a1).bind fun t115=>(if t115<0 then (some (-1)) else ((laws_szState.f a0_6 a0_7 l0_8 t115).bind fun t116=>(if t116<0 then (some (-1)) else (some t116))))
theorem laws_szInstance.calls (k:Nat) (A0_0:Option Addr) (c0_0:Nat) (l0_0:List (S84)) (A0_1:Option Addr) (c0_1:Nat) (l0_1:List (S91)) (a0_2:Bool) (a0_3:Int) (a0_4:Int) (a0_5:Int) (a0_6:Int) (a0_7:ByteArray) (A0_8:Option Addr) (c0_8:Nat) (l0_8:List (S93)) (a0_9:Bool) (a0_10:Int) (a1:Int) (r:Int) (w:World) (hr0_0:Kd.C k84 w A0_0 l0_0.length l0_0) (hc0_0:l0_0.length≤c0_0) (hr0_1:Kd.C k91 w A0_1 l0_1.length l0_1) (hc0_1:l0_1.length≤c0_1) (hr0_8:Kd.C k93 w A0_8 l0_8.length l0_8) (hc0_8:l0_8.length≤c0_8) (h:laws_szInstance.f k l0_0 l0_1 a0_2 a0_3 a0_4 a0_5 a0_6 a0_7 l0_8 a0_9 a0_10 a1=some r):
  Calls Try.prog 4 #[.agg #[.slice A0_0 l0_0.length c0_0,.slice A0_1 l0_1.length c0_1,.bool a0_2,.int .i64 a0_3,.int .i64 a0_4,.int .i64 a0_5,.int .i64 a0_6,.string a0_7,.slice A0_8 l0_8.length c0_8,.bool a0_9,.int .i64 a0_10],.int .i64 a1] w fun e w'=>e=.returned (.int .i64 r)∧Below w.heap.size w w':=by
 have hu32:=Try.underlying32
 have hu25:=Try.underlying25
 have hu30:=Try.underlying30
 have HR0_0:=A_ hr0_0
 have HC0_0:=A_ hc0_0
 clear hr0_0 hc0_0
 have HR0_1:=A_ hr0_1
 have HC0_1:=A_ hc0_1
 clear hr0_1 hc0_1
 have HR0_8:=A_ hr0_8
 have HC0_8:=A_ hc0_8
 clear hr0_8 hc0_8
 have HB:=A_ (Below.refl w.heap.size w)
 have H:((laws_szModule.f k l0_0 l0_1 a0_2 a0_3 a0_4 a0_5 a1).bind fun t115=>(if t115<0 then (some (-1)) else ((laws_szState.f a0_6 a0_7 l0_8 t115).bind fun t116=>(if t116<0 then (some (-1)) else (some t116)))))=some r:=h
 clear h
 replace H:=bA_ H
 obtain⟨t115,A3,H⟩:=H
 revert H
 refine iL_ (fun c4b0 H=>?_) (fun c4b0 H=>?_)
 rotate_left
 replace H:=bA_ H
 obtain⟨t116,A8,H⟩:=H
 revert H
 refine iL_ (fun c9b0 H=>?_) (fun c9b0 H=>?_)
 all_goals
  obtain rfl:=Option.some.inj H
  clear H
  go_enter Try.func4,Try.ntmps4
  go_wp2_with (first|((with_reducible refine gd_ 2 rfl ?_);refine bx_ #[.slice A0_0 l0_0.length c0_0,.slice A0_1 l0_1.length c0_1,.bool a0_2,.int .i64 a0_3,.int .i64 a0_4,.int .i64 a0_5,.int .i64 a0_6,.string a0_7,.slice A0_8 l0_8.length c0_8,.bool a0_9,.int .i64 a0_10] 32 ?_;intro gb114 hg w5 hbox hb;have BK114:=A_ hbox;have GW114:=gw_ hg HB;have GE114:=GW114;replace HB:=bs_ HB hb;clear hb hbox hg;have hcz6_0:w5.cell? ⟨gb114,0,none⟩=some (.slice A0_0 l0_0.length c0_0):=(blk_cell BK114.out 0).trans rfl;have hcz6_1:w5.cell? ⟨gb114,1,none⟩=some (.slice A0_1 l0_1.length c0_1):=(blk_cell BK114.out 1).trans rfl;have hcz6_2:w5.cell? ⟨gb114,2,none⟩=some (.bool a0_2):=(blk_cell BK114.out 2).trans rfl;have hcz6_3:w5.cell? ⟨gb114,3,none⟩=some (.int .i64 a0_3):=(blk_cell BK114.out 3).trans rfl;have hcz6_4:w5.cell? ⟨gb114,4,none⟩=some (.int .i64 a0_4):=(blk_cell BK114.out 4).trans rfl;have hcz6_5:w5.cell? ⟨gb114,5,none⟩=some (.int .i64 a0_5):=(blk_cell BK114.out 5).trans rfl;have hcz6_6:w5.cell? ⟨gb114,6,none⟩=some (.int .i64 a0_6):=(blk_cell BK114.out 6).trans rfl;have hcz6_7:w5.cell? ⟨gb114,7,none⟩=some (.string a0_7):=(blk_cell BK114.out 7).trans rfl;have hcz6_8:w5.cell? ⟨gb114,8,none⟩=some (.slice A0_8 l0_8.length c0_8):=(blk_cell BK114.out 8).trans rfl;have hcz6_9:w5.cell? ⟨gb114,9,none⟩=some (.bool a0_9):=(blk_cell BK114.out 9).trans rfl;have hcz6_10:w5.cell? ⟨gb114,10,none⟩=some (.int .i64 a0_10):=(blk_cell BK114.out 10).trans rfl;have hfz6_0:=blk_frozen BK114.out 0;have hfz6_1:=blk_frozen BK114.out 1;have hfz6_2:=blk_frozen BK114.out 2;have hfz6_3:=blk_frozen BK114.out 3;have hfz6_4:=blk_frozen BK114.out 4;have hfz6_5:=blk_frozen BK114.out 5;have hfz6_6:=blk_frozen BK114.out 6;have hfz6_7:=blk_frozen BK114.out 7;have hfz6_8:=blk_frozen BK114.out 8;have hfz6_9:=blk_frozen BK114.out 9;have hfz6_10:=blk_frozen BK114.out 10)|((with_reducible refine gc_ 9 rfl ?_);refine gm_ (some 8) Try.func9 (laws_szModule.calls k _ _ l0_0 _ _ l0_1 a0_2 a0_3 a0_4 a0_5 a1 t115 _ (cb_ HR0_0 HB) HC0_0.out (cb_ HR0_1 HB) HC0_1.out A3.out) ?_;intro w7 hb;replace BK114:=kb_ BK114 hb;replace HB:=bs_ HB hb;(try clear hb);have hcz13_0:w7.cell? ⟨gb114,0,none⟩=some (.slice A0_0 l0_0.length c0_0):=(blk_cell BK114.out 0).trans rfl;have hcz13_1:w7.cell? ⟨gb114,1,none⟩=some (.slice A0_1 l0_1.length c0_1):=(blk_cell BK114.out 1).trans rfl;have hcz13_2:w7.cell? ⟨gb114,2,none⟩=some (.bool a0_2):=(blk_cell BK114.out 2).trans rfl;have hcz13_3:w7.cell? ⟨gb114,3,none⟩=some (.int .i64 a0_3):=(blk_cell BK114.out 3).trans rfl;have hcz13_4:w7.cell? ⟨gb114,4,none⟩=some (.int .i64 a0_4):=(blk_cell BK114.out 4).trans rfl;have hcz13_5:w7.cell? ⟨gb114,5,none⟩=some (.int .i64 a0_5):=(blk_cell BK114.out 5).trans rfl;have hcz13_6:w7.cell? ⟨gb114,6,none⟩=some (.int .i64 a0_6):=(blk_cell BK114.out 6).trans rfl;have hcz13_7:w7.cell? ⟨gb114,7,none⟩=some (.string a0_7):=(blk_cell BK114.out 7).trans rfl;have hcz13_8:w7.cell? ⟨gb114,8,none⟩=some (.slice A0_8 l0_8.length c0_8):=(blk_cell BK114.out 8).trans rfl;have hcz13_9:w7.cell? ⟨gb114,9,none⟩=some (.bool a0_9):=(blk_cell BK114.out 9).trans rfl;have hcz13_10:w7.cell? ⟨gb114,10,none⟩=some (.int .i64 a0_10):=(blk_cell BK114.out 10).trans rfl;have hfz13_0:=blk_frozen BK114.out 0;have hfz13_1:=blk_frozen BK114.out 1;have hfz13_2:=blk_frozen BK114.out 2;have hfz13_3:=blk_frozen BK114.out 3;have hfz13_4:=blk_frozen BK114.out 4;have hfz13_5:=blk_frozen BK114.out 5;have hfz13_6:=blk_frozen BK114.out 6;have hfz13_7:=blk_frozen BK114.out 7;have hfz13_8:=blk_frozen BK114.out 8;have hfz13_9:=blk_frozen BK114.out 9;have hfz13_10:=blk_frozen BK114.out 10)|((with_reducible refine gc_ 10 rfl ?_);refine gm_ (some 14) Try.func10 (laws_szState.calls a0_6 a0_7 _ _ l0_8 t115 t116 _ (cb_ HR0_8 HB) HC0_8.out A8.out) ?_;intro w14 hb;replace BK114:=kb_ BK114 hb;replace HB:=bs_ HB hb;(try clear hb)))
  go_ret
  exact⟨rr_,bw HB.out⟩

/-! ### spec_l1In: function 24 -/
def spec_l1In.f (a0:Int) (a1:Int) (a2:Int):Option (Bool):=if a0≥a1 then (some (decide (a0≤a2))) else (some false)
theorem spec_l1In.calls (a0:Int) (a1:Int) (a2:Int) (r:Bool) (w:World) (h:spec_l1In.f a0 a1 a2=some r):
  Calls Try.prog 24 #[.int .i64 a0,.int .i64 a1,.int .i64 a2] w fun e w'=>e=.returned (.bool r)∧Drawn0 w w':=by
 have H:(if a0≥a1 then (some (decide (a0≤a2))) else (some false))=some r:=h
 clear h
 revert H
 refine iL_ (fun c4b0 H=>?_) (fun c4b0 H=>?_)
 ·
  obtain rfl:=Option.some.inj H
  clear H
  go_enter Try.func24,Try.ntmps24
  go_wp2
  go_ret
  exact⟨rs_,dr_⟩
 obtain rfl:=Option.some.inj H
 clear H
 go_enter Try.func24,Try.ntmps24
 go_wp2
 go_ret
 exact⟨rs_,dr_⟩

/-! ### spec_l6Type: function 55 -/
def spec_l6Type.f (a0:Int):Option (Bool):=(spec_l1In.f a0 125 127).bind fun t117=>(some t117)
theorem spec_l6Type.calls (a0:Int) (r:Bool) (w:World) (h:spec_l6Type.f a0=some r):
  Calls Try.prog 55 #[.int .i64 a0] w fun e w'=>e=.returned (.bool r)∧Drawn0 w w':=by
 have H:((spec_l1In.f a0 125 127).bind fun t117=>(some t117))=some r:=h
 clear h
 replace H:=bA_ H
 obtain⟨t117,A2,H⟩:=H
 obtain rfl:=Option.some.inj H
 clear H
 go_enter Try.func55,Try.ntmps55
 go_wp2_with (first|((with_reducible refine gc_ 24 rfl ?_);refine gn_ (some 4) Try.func24 (spec_l1In.calls a0 125 127 t117 _ A2.out) ?_;intro nd))
 go_ret
 exact⟨rs_,dr_⟩

/-! ### spec_l6Shape: function 99 -/
mutual
def spec_l6Shape.j0:Nat→Int→Int→Bool→Option (Int)
 |0,_,_,_=>none
 |k+1,x0,x3,x4=>if x4=true then (some 0) else (if x3=2 then (spec_l6Shape.j1 k x0 x3 (x3==2)) else (if x3=3 then (spec_l6Shape.j1 k x0 x3 (x3==3)) else (spec_l6Shape.j1 k x0 x3 (x3==4))))
def spec_l6Shape.j1:Nat→Int→Int→Bool→Option (Int)
 |0,_,_,_=>none
 |k+1,x0,x3,x19=>if x19=true then (some 1) else (if x3=12 then (spec_l6Shape.j2 k x0 x3 (x3==12)) else (if x3=13 then (spec_l6Shape.j2 k x0 x3 (x3==13)) else (if x3=16 then (spec_l6Shape.j2 k x0 x3 (x3==16)) else (if x3=32 then (spec_l6Shape.j2 k x0 x3 (x3==32)) else (if x3=33 then (spec_l6Shape.j2 k x0 x3 (x3==33)) else (if x3=34 then (spec_l6Shape.j2 k x0 x3 (x3==34)) else (if x3=35 then (spec_l6Shape.j2 k x0 x3 (x3==35)) else (spec_l6Shape.j2 k x0 x3 (x3==36)))))))))
def spec_l6Shape.j2:Nat→Int→Int→Bool→Option (Int)
 |0,_,_,_=>none
 |k+1,x0,x3,x23=>if x23=true then (some 2) else (if x3=40 then (spec_l6Shape.j3 k x0 x3 (x3==40)) else (if x3=41 then (spec_l6Shape.j3 k x0 x3 (x3==41)) else (if x3=54 then (spec_l6Shape.j3 k x0 x3 (x3==54)) else (spec_l6Shape.j3 k x0 x3 (x3==55)))))
def spec_l6Shape.j3:Nat→Int→Int→Bool→Option (Int)
 |0,_,_,_=>none
 |k+1,x0,x3,x32=>if x32=true then (some 3) else (if x3=65 then (some 4) else (if x3=66 then (some 5) else (if x3=67 then (some 6) else ((spec_l1In.f x0 97 123).bind fun t118=>(if t118=true then (some 0) else ((spec_l1In.f x0 129 155).bind fun t119=>(if t119=true then (some 0) else ((spec_l1In.f x0 161 169).bind fun t120=>(if t120=true then (some 0) else (some (-1)))))))))))
end
def spec_l6Shape.f (k:Nat) (a0:Int):Option (Int):=if a0=0 then (spec_l6Shape.j0 k a0 a0 (a0==0)) else (if a0=1 then (spec_l6Shape.j0 k a0 a0 (a0==1)) else (if a0=5 then (spec_l6Shape.j0 k a0 a0 (a0==5)) else (if a0=11 then (spec_l6Shape.j0 k a0 a0 (a0==11)) else (if a0=15 then (spec_l6Shape.j0 k a0 a0 (a0==15)) else (if a0=26 then (spec_l6Shape.j0 k a0 a0 (a0==26)) else (if a0=27 then (spec_l6Shape.j0 k a0 a0 (a0==27)) else (if a0=63 then (spec_l6Shape.j0 k a0 a0 (a0==63)) else (if a0=64 then (spec_l6Shape.j0 k a0 a0 (a0==64)) else (if a0=176 then (spec_l6Shape.j0 k a0 a0 (a0==176)) else (if a0=177 then (spec_l6Shape.j0 k a0 a0 (a0==177)) else (if a0=178 then (spec_l6Shape.j0 k a0 a0 (a0==178)) else (if a0=179 then (spec_l6Shape.j0 k a0 a0 (a0==179)) else (spec_l6Shape.j0 k a0 a0 (a0==180))))))))))))))
theorem spec_l6Shape.mono_l:∀ k,(∀ y0 y1 y2,LeO (spec_l6Shape.j0 k y0 y1 y2) (spec_l6Shape.j0 (k+1) y0 y1 y2))∧(∀ y0 y1 y2,LeO (spec_l6Shape.j1 k y0 y1 y2) (spec_l6Shape.j1 (k+1) y0 y1 y2))∧(∀ y0 y1 y2,LeO (spec_l6Shape.j2 k y0 y1 y2) (spec_l6Shape.j2 (k+1) y0 y1 y2))∧(∀ y0 y1 y2,LeO (spec_l6Shape.j3 k y0 y1 y2) (spec_l6Shape.j3 (k+1) y0 y1 y2))
 |0=>⟨fun _ _ _ r h=>by simp[spec_l6Shape.j0] at h,fun _ _ _ r h=>by simp[spec_l6Shape.j1] at h,fun _ _ _ r h=>by simp[spec_l6Shape.j2] at h,fun _ _ _ r h=>by simp[spec_l6Shape.j3] at h⟩
 |k+1=>by
  obtain⟨ih0,ih1,ih2,ih3⟩:=spec_l6Shape.mono_l k
  refine⟨?_,?_,?_,?_⟩<;>intros<;>first|unfold spec_l6Shape.j0|unfold spec_l6Shape.j1|unfold spec_l6Shape.j2|unfold spec_l6Shape.j3
  all_goals repeat' first
  |(with_reducible exact ih0 _ _ _)
  |(with_reducible exact ih1 _ _ _)
  |(with_reducible exact ih2 _ _ _)
  |(with_reducible exact ih3 _ _ _)
  |(with_reducible exact LeO.refl _)
  |(with_reducible exact LeO.none _)
  |(with_reducible refine LeO.ite ?_ ?_)
  |(with_reducible refine LeO.bind ?_ (fun _=>?_))
  |exact ih0 _ _ _
  |exact ih1 _ _ _
  |exact ih2 _ _ _
  |exact ih3 _ _ _
  |exact LeO.none _
  |refine LeO.ite ?_ ?_
  |refine LeO.bind ?_ (fun _=>?_)
theorem spec_l6Shape.mono:∀ a0 k,LeO (spec_l6Shape.f k a0) (spec_l6Shape.f (k+1) a0):=by
 intro a0 k
 obtain⟨ih0,ih1,ih2,ih3⟩:=spec_l6Shape.mono_l k
 unfold spec_l6Shape.f
 repeat' first
  |(with_reducible exact ih0 _ _ _)
  |(with_reducible exact ih1 _ _ _)
  |(with_reducible exact ih2 _ _ _)
  |(with_reducible exact ih3 _ _ _)
  |(with_reducible exact LeO.refl _)
  |(with_reducible exact LeO.none _)
  |(with_reducible refine LeO.ite ?_ ?_)
  |(with_reducible refine LeO.bind ?_ (fun _=>?_))
  |exact ih0 _ _ _
  |exact ih1 _ _ _
  |exact ih2 _ _ _
  |exact ih3 _ _ _
  |exact LeO.none _
  |refine LeO.ite ?_ ?_
  |refine LeO.bind ?_ (fun _=>?_)
theorem spec_l6Shape.calls (k:Nat) (a0:Int) (r:Int) (w:World) (h:spec_l6Shape.f k a0=some r):
  Calls Try.prog 99 #[.int .i64 a0] w fun e w'=>e=.returned (.int .i64 r)∧Drawn0 w w':=by
 have H:(if a0=0 then (spec_l6Shape.j0 k a0 a0 (a0==0)) else (if a0=1 then (spec_l6Shape.j0 k a0 a0 (a0==1)) else (if a0=5 then (spec_l6Shape.j0 k a0 a0 (a0==5)) else (if a0=11 then (spec_l6Shape.j0 k a0 a0 (a0==11)) else (if a0=15 then (spec_l6Shape.j0 k a0 a0 (a0==15)) else (if a0=26 then (spec_l6Shape.j0 k a0 a0 (a0==26)) else (if a0=27 then (spec_l6Shape.j0 k a0 a0 (a0==27)) else (if a0=63 then (spec_l6Shape.j0 k a0 a0 (a0==63)) else (if a0=64 then (spec_l6Shape.j0 k a0 a0 (a0==64)) else (if a0=176 then (spec_l6Shape.j0 k a0 a0 (a0==176)) else (if a0=177 then (spec_l6Shape.j0 k a0 a0 (a0==177)) else (if a0=178 then (spec_l6Shape.j0 k a0 a0 (a0==178)) else (if a0=179 then (spec_l6Shape.j0 k a0 a0 (a0==179)) else (spec_l6Shape.j0 k a0 a0 (a0==180)))))))))))))))=some r:=h
 clear h
 have HC2:=A_ H
 clear H
 go_enter Try.func99,Try.ntmps99
 go_upto_if 4 with (fail)
 go_cut [4] (fun v4 wc=>∃ (kq:Nat) (x4_1:Bool),v4=.bool x4_1∧Aside0 (spec_l6Shape.j0 kq a0 a0 x4_1=some r)∧Aside0 (kq≤k)∧Drawn0 w wc)
 case first=>
  have H:=HC2.out
  clear HC2
  revert H
  refine iE_ (fun c3b0 c3b1 H=>?pc3) (fun c3 c3b0 c3b1 H=>?nc3)
  case' pc3=>
   (first|rw[c3b0]|(simp only[i64_w,i32_w];rw[c3b0])|skip)
  case' nc3=>
   (first|rw[c3b0]|(simp only[i64_w,i32_w];rw[c3b0])|skip)
   iterate 11 (revert H;refine iE_ (fun _ _ H=>?_) (fun _ _ _ H=>?_);rotate_left)
   revert H
   refine iE_ (fun c15b0 c15b1 H=>?_) (fun c15 c15b0 c15b1 H=>?_)
  all_goals
   have H':=A_ H
   clear H
   go_wp2
   go_meet
   case rel=>exact⟨_,_,rs_,H',⟨by first|omega|exact Nat.le_refl _⟩,dr_⟩
 case rest=>
  clear HC2
  obtain⟨kq,x4_1,rfl,HA,HJ1,⟨mc1,rfl⟩⟩:=hcut
  cases kq with
  |zero=>exact absurd HA.out (by simp[spec_l6Shape.j0])
  |succ kj1=>
   have H:=HA.out
   clear HA
   simp only[spec_l6Shape.j0] at H
   revert H
   refine iB_ (fun c16 H=>?_) (fun c16 H=>?_)<;>subst c16
   ·
    obtain rfl:=Option.some.inj H
    clear H
    go_wp2
    go_ret
    exact⟨rs_,dr_⟩
   have HC17:=A_ H
   clear H
   go_upto_if 19 with (fail)
   go_cut [19] (fun v19 wc=>∃ (kq:Nat) (x19_16:Bool),v19=.bool x19_16∧Aside0 (spec_l6Shape.j1 kq a0 a0 x19_16=some r)∧Aside0 (kq≤kj1)∧Drawn0 w wc)
   case first=>
    have H:=HC17.out
    clear HC17
    revert H
    refine iE_ (fun c18b0 c18b1 H=>?_) (fun c18 c18b0 c18b1 H=>?_)
    ·
     (first|rw[c18b0]|(simp only[i64_w,i32_w];rw[c18b0])|skip)
     have H':=A_ H
     clear H
     go_wp2
     go_meet
     case rel=>exact⟨_,((a0==2)),rs_,H',⟨by have:=HJ1.out;first|omega|exact Nat.le_refl _⟩,dr_⟩
    (first|rw[c18b0]|(simp only[i64_w,i32_w];rw[c18b0])|skip)
    revert H
    refine iE_ (fun c19b0 c19b1 H=>?_) (fun c19 c19b0 c19b1 H=>?_)
    ·
     have H':=A_ H
     clear H
     go_wp2
     go_meet
     case rel=>exact⟨_,((a0==3)),rs_,H',⟨by have:=HJ1.out;first|omega|exact Nat.le_refl _⟩,dr_⟩
    have H':=A_ H
    clear H
    go_wp2
    go_meet
    case rel=>exact⟨_,((a0==4)),rs_,H',⟨by have:=HJ1.out;first|omega|exact Nat.le_refl _⟩,dr_⟩
   case rest=>
    clear HC17
    try clear c16
    obtain⟨kq,x19_16,rfl,HA,HJ16,⟨mc16,rfl⟩⟩:=hcut
    cases kq with
    |zero=>exact absurd HA.out (by simp[spec_l6Shape.j1])
    |succ kj16=>
     have H:=HA.out
     clear HA
     simp only[spec_l6Shape.j1] at H
     revert H
     refine iB_ (fun c20 H=>?_) (fun c20 H=>?_)<;>subst c20
     ·
      obtain rfl:=Option.some.inj H
      clear H
      go_wp2
      go_ret
      exact⟨rs_,dr_⟩
     have HC21:=A_ H
     clear H
     go_upto_if 23 with (fail)
     go_cut [23] (fun v23 wc=>∃ (kq:Nat) (x23_20:Bool),v23=.bool x23_20∧Aside0 (spec_l6Shape.j2 kq a0 a0 x23_20=some r)∧Aside0 (kq≤kj16)∧Drawn0 w wc)
     case first=>
      have H:=HC21.out
      clear HC21
      revert H
      refine iE_ (fun c22b0 c22b1 H=>?pc22) (fun c22 c22b0 c22b1 H=>?nc22)
      case' pc22=>
       (first|rw[c22b0]|(simp only[i64_w,i32_w];rw[c22b0])|skip)
      case' nc22=>
       (first|rw[c22b0]|(simp only[i64_w,i32_w];rw[c22b0])|skip)
       iterate 5 (revert H;refine iE_ (fun _ _ H=>?_) (fun _ _ _ H=>?_);rotate_left)
       revert H
       refine iE_ (fun c28b0 c28b1 H=>?_) (fun c28 c28b0 c28b1 H=>?_)
      all_goals
       have H':=A_ H
       clear H
       go_wp2
       go_meet
       case rel=>exact⟨_,_,rs_,H',⟨by have:=HJ1.out;have:=HJ16.out;first|omega|exact Nat.le_refl _⟩,dr_⟩
     case rest=>
      clear HC21
      try clear c16 c20
      obtain⟨kq,x23_20,rfl,HA,HJ20,⟨mc20,rfl⟩⟩:=hcut
      cases kq with
      |zero=>exact absurd HA.out (by simp[spec_l6Shape.j2])
      |succ kj20=>
       have H:=HA.out
       clear HA
       simp only[spec_l6Shape.j2] at H
       revert H
       refine iB_ (fun c29 H=>?_) (fun c29 H=>?_)<;>subst c29
       ·
        obtain rfl:=Option.some.inj H
        clear H
        go_wp2
        go_ret
        exact⟨rs_,dr_⟩
       have HC30:=A_ H
       clear H
       go_upto_if 32 with (fail)
       go_cut [32] (fun v32 wc=>∃ (kq:Nat) (x32_29:Bool),v32=.bool x32_29∧Aside0 (spec_l6Shape.j3 kq a0 a0 x32_29=some r)∧Aside0 (kq≤kj20)∧Drawn0 w wc)
       case first=>
        have H:=HC30.out
        clear HC30
        revert H
        refine iE_ (fun c31b0 c31b1 H=>?pc31) (fun c31 c31b0 c31b1 H=>?nc31)
        case' pc31=>
         (first|rw[c31b0]|(simp only[i64_w,i32_w];rw[c31b0])|skip)
        case' nc31=>
         (first|rw[c31b0]|(simp only[i64_w,i32_w];rw[c31b0])|skip)
         revert H
         refine iE_ (fun c32b0 c32b1 H=>?_) (fun c32 c32b0 c32b1 H=>?_)
         rotate_left
         revert H
         refine iE_ (fun c33b0 c33b1 H=>?_) (fun c33 c33b0 c33b1 H=>?_)
        all_goals
         have H':=A_ H
         clear H
         go_wp2
         go_meet
         case rel=>exact⟨_,_,rs_,H',⟨by have:=HJ1.out;have:=HJ16.out;have:=HJ20.out;first|omega|exact Nat.le_refl _⟩,dr_⟩
       case rest=>
        clear HC30
        try clear c16 c20 c29
        obtain⟨kq,x32_29,rfl,HA,HJ29,⟨mc29,rfl⟩⟩:=hcut
        cases kq with
        |zero=>exact absurd HA.out (by simp[spec_l6Shape.j3])
        |succ kj29=>
         have H:=HA.out
         clear HA
         simp only[spec_l6Shape.j3] at H
         revert H
         refine iB_ (fun c34 H=>?_) (fun c34 H=>?_)<;>subst c34
         ·
          obtain rfl:=Option.some.inj H
          clear H
          go_wp2
          go_ret
          exact⟨rs_,dr_⟩
         revert H
         refine iE_ (fun c35b0 c35b1 H=>?_) (fun c35 c35b0 c35b1 H=>?_)
         ·
          obtain rfl:=Option.some.inj H
          clear H
          go_wp2
          go_ret
          exact⟨rs_,dr_⟩
         revert H
         refine iE_ (fun c36b0 c36b1 H=>?_) (fun c36 c36b0 c36b1 H=>?_)
         ·
          obtain rfl:=Option.some.inj H
          clear H
          go_wp2
          go_ret
          exact⟨rs_,dr_⟩
         revert H
         refine iE_ (fun c37b0 c37b1 H=>?_) (fun c37 c37b0 c37b1 H=>?_)
         ·
          obtain rfl:=Option.some.inj H
          clear H
          go_wp2
          go_ret
          exact⟨rs_,dr_⟩
         replace H:=bA_ H
         obtain⟨t118,A38,H⟩:=H
         revert H
         refine iB_ (fun c39 H=>?_) (fun c39 H=>?_)<;>subst c39
         ·
          obtain rfl:=Option.some.inj H
          clear H
          go_wp2_with (first|((with_reducible refine gc_ 24 rfl ?_);refine gn_ (some 44) Try.func24 (spec_l1In.calls a0 97 123 true _ A38.out) ?_;intro nd))
          go_ret
          exact⟨rs_,dr_⟩
         replace H:=bA_ H
         obtain⟨t119,A40,H⟩:=H
         revert H
         refine iB_ (fun c41 H=>?_) (fun c41 H=>?_)<;>subst c41
         ·
          obtain rfl:=Option.some.inj H
          clear H
          go_wp2_with (first|((with_reducible refine gc_ 24 rfl ?_);refine gn_ (some 44) Try.func24 (spec_l1In.calls a0 97 123 false _ A38.out) ?_;intro nd)|(go_at_call 24;(with_reducible refine(spec_l1In.calls a0 129 155 true _ A40.out).mono ?_);rintro e w' ⟨rfl,⟨nd,rfl⟩⟩))
          go_ret
          exact⟨rs_,dr_⟩
         replace H:=bA_ H
         obtain⟨t120,A42,H⟩:=H
         revert H
         refine iB_ (fun c43 H=>?_) (fun c43 H=>?_)<;>subst c43
         ·
          obtain rfl:=Option.some.inj H
          clear H
          go_wp2_with (first|((with_reducible refine gc_ 24 rfl ?_);refine gn_ (some 44) Try.func24 (spec_l1In.calls a0 97 123 false _ A38.out) ?_;intro nd)|(go_at_call 24;(with_reducible refine(spec_l1In.calls a0 129 155 false _ A40.out).mono ?_);rintro e w' ⟨rfl,⟨nd,rfl⟩⟩)|(go_at_call 24;(with_reducible refine(spec_l1In.calls a0 161 169 true _ A42.out).mono ?_);rintro e w' ⟨rfl,⟨nd,rfl⟩⟩))
          go_ret
          exact⟨rs_,dr_⟩
         obtain rfl:=Option.some.inj H
         clear H
         go_wp2_with (first|((with_reducible refine gc_ 24 rfl ?_);refine gn_ (some 44) Try.func24 (spec_l1In.calls a0 97 123 false _ A38.out) ?_;intro nd)|(go_at_call 24;(with_reducible refine(spec_l1In.calls a0 129 155 false _ A40.out).mono ?_);rintro e w' ⟨rfl,⟨nd,rfl⟩⟩)|(go_at_call 24;(with_reducible refine(spec_l1In.calls a0 161 169 false _ A42.out).mono ?_);rintro e w' ⟨rfl,⟨nd,rfl⟩⟩))
         go_ret
         exact⟨rs_,dr_⟩

/-! ### spec_GoodIns: function 98 -/
def spec_GoodIns.f (k:Nat) (a0_0:Int) (a0_1:Int):Option (Bool):=(spec_l6Shape.f k a0_0).bind fun t122=>(if t122=0 then (some (a0_1==0)) else (if t122=1 then ((spec_l6Type.f a0_1).bind fun t123=>(if t123=true then (some true) else (some (a0_1==64)))) else (if t122=2 then ((spec_l1In.f a0_1 0 1000).bind fun t124=>(some t124)) else (if t122=3 then ((spec_l1In.f a0_1 0 10000).bind fun t125=>(some t125)) else (if t122=4 then ((spec_l1In.f a0_1 (-2147483648) 2147483647).bind fun t126=>(some t126)) else (if t122=5 then (some true) else (if t122=6 then ((spec_l1In.f a0_1 0 4294967295).bind fun t127=>(some t127)) else (some false))))))))
theorem spec_GoodIns.calls (k:Nat) (a0_0:Int) (a0_1:Int) (r:Bool) (w:World) (h:spec_GoodIns.f k a0_0 a0_1=some r):
  Calls Try.prog 98 #[.agg #[.int .i64 a0_0,.int .i64 a0_1]] w fun e w'=>e=.returned (.bool r)∧Below w.heap.size w w':=by
 have hu103:=Try.underlying103
 have HB:=A_ (Below.refl w.heap.size w)
 have H:((spec_l6Shape.f k a0_0).bind fun t122=>(if t122=0 then (some (a0_1==0)) else (if t122=1 then ((spec_l6Type.f a0_1).bind fun t123=>(if t123=true then (some true) else (some (a0_1==64)))) else (if t122=2 then ((spec_l1In.f a0_1 0 1000).bind fun t124=>(some t124)) else (if t122=3 then ((spec_l1In.f a0_1 0 10000).bind fun t125=>(some t125)) else (if t122=4 then ((spec_l1In.f a0_1 (-2147483648) 2147483647).bind fun t126=>(some t126)) else (if t122=5 then (some true) else (if t122=6 then ((spec_l1In.f a0_1 0 4294967295).bind fun t127=>(some t127)) else (some false)))))))))=some r:=h
 clear h
 replace H:=bA_ H
 obtain⟨t122,A2,H⟩:=H
 revert H
 refine iE_ (fun c3b0 c3b1 H=>?_) (fun c3 c3b0 c3b1 H=>?_)
 rotate_left
 revert H
 refine iE_ (fun c6b0 c6b1 H=>?pc6) (fun c6 c6b0 c6b1 H=>?nc6)
 case' pc6=>
  replace H:=bA_ H
  obtain⟨t123,A7,H⟩:=H
  revert H
  refine iB_ (fun c8 H=>?_) (fun c8 H=>?_)<;>subst c8
 case' nc6=>
  revert H
  refine iE_ (fun c13b0 c13b1 H=>?pc13) (fun c13 c13b0 c13b1 H=>?nc13)
  case' pc13=>
   replace H:=bA_ H
   obtain⟨t124,A14,H⟩:=H
  case' nc13=>
   revert H
   refine iE_ (fun c17b0 c17b1 H=>?pc17) (fun c17 c17b0 c17b1 H=>?nc17)
   case' pc17=>
    replace H:=bA_ H
    obtain⟨t125,A18,H⟩:=H
   case' nc17=>
    revert H
    refine iE_ (fun c21b0 c21b1 H=>?pc21) (fun c21 c21b0 c21b1 H=>?nc21)
    case' pc21=>
     replace H:=bA_ H
     obtain⟨t126,A22,H⟩:=H
    case' nc21=>
     revert H
     refine iE_ (fun c25b0 c25b1 H=>?_) (fun c25 c25b0 c25b1 H=>?_)
     rotate_left
     revert H
     refine iE_ (fun c28b0 c28b1 H=>?_) (fun c28 c28b0 c28b1 H=>?_)
     replace H:=bA_ H
     obtain⟨t127,A29,H⟩:=H
 all_goals
  obtain rfl:=Option.some.inj H
  clear H
  go_enter Try.func98,Try.ntmps98
  go_wp2_with (first|((with_reducible refine gd_ 1 rfl ?_);refine bx_ #[.int .i64 a0_0,.int .i64 a0_1] 103 ?_;intro gb121 hg w4 hbox hb;have BK121:=A_ hbox;have GW121:=gw_ hg HB;have GE121:=GW121;replace HB:=bs_ HB hb;clear hb hbox hg;obtain⟨hcz5_0,hcz5_1⟩:=cs2_ BK121.out;obtain⟨hfz5_0,hfz5_1⟩:=fz2_ BK121.out)|((with_reducible refine gc_ 99 rfl ?_);refine gn_ (some 5) Try.func99 (spec_l6Shape.calls k a0_0 t122 _ A2.out) ?_;intro nd)|((with_reducible refine gc_ 55 rfl ?_);refine gn_ (some 15) Try.func55 (spec_l6Type.calls a0_1 true _ A7.out) ?_;intro nd)|((with_reducible refine gc_ 55 rfl ?_);refine gn_ (some 15) Try.func55 (spec_l6Type.calls a0_1 false _ A7.out) ?_;intro nd)|((with_reducible refine gc_ 24 rfl ?_);refine gn_ (some 25) Try.func24 (spec_l1In.calls a0_1 0 1000 t124 _ A14.out) ?_;intro nd)|((with_reducible refine gc_ 24 rfl ?_);refine gn_ (some 30) Try.func24 (spec_l1In.calls a0_1 0 10000 t125 _ A18.out) ?_;intro nd)|((with_reducible refine gc_ 24 rfl ?_);refine gn_ (some 35) Try.func24 (spec_l1In.calls a0_1 (-2147483648) 2147483647 t126 _ A22.out) ?_;intro nd)|((with_reducible refine gc_ 24 rfl ?_);refine gn_ (some 42) Try.func24 (spec_l1In.calls a0_1 0 4294967295 t127 _ A29.out) ?_;intro nd))
  go_ret
  exact⟨rr_,bw HB.out⟩
end Go.Proofs.Ytanhbfhmgmjdgaa.Q

