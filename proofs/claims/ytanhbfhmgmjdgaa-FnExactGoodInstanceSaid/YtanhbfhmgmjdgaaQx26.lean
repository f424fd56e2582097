-- Written by a program of this session; it walks the functions that the law reaches.
import Derived.Test.YtanhbfhmgmjdgaaQx0
import Derived.Test.YtanhbfhmgmjdgaaQx25
namespace Go.Proofs.Ytanhbfhmgmjdgaa.Q
open Go.RowKit Go.Proofs.YtanhbfhmgmjdgaaW.PrintWords Go.Proofs.YtanhbfhmgmjdgaaW.PrintLast Go.Proofs.YtanhbfhmgmjdgaaW.PrintMore
attribute [local go_sem] max2_int min2_int max_two min_two max_three min_three max_four min_four   -- for this text's walks alone
set_option linter.unusedVariables false
set_option linter.unusedSimpArgs false
set_option maxRecDepth 100000
set_option maxHeartbeats 8000000

/-! ### laws_eqGlobalS: function 34 -/
def laws_eqGlobalS.l0:Nat→List (S75)→List (S75)→Int→Option (Bool)
 |0,_,_,_=>none
 |k+1,x0,x1,x5=>if x5<(x0.length:Int) then (if 0≤x5 then (if x5<(x1.length:Int) then ((laws_eqGlobal.f ((rd_T75 x0 x5).f0) ((rd_T75 x0 x5).f1) ((rd_T75 x0 x5).f2) ((rd_T75 x1 x5).f0) ((rd_T75 x1 x5).f1) ((rd_T75 x1 x5).f2)).bind fun t458=>(if t458=true then (laws_eqGlobalS.l0 k x0 x1 (wrap64 (x5+1))) else (some false))) else (none)) else (none)) else (some true)
def laws_eqGlobalS.f (k:Nat) (l0:List (S75)) (l1:List (S75)):Option (Bool):=if (l0.length:Int)=(l1.length:Int) then (laws_eqGlobalS.l0 k l0 l1 0) else (some false)
def laws_eqGlobalS.T6:Bool × List (List Nat × List Nat):=(true,[([],[]),([],[]),([0,1],[0,1]),([2],[2]),([],[]),([],[]),([4,5],[4,5]),([6],[6]),([3,7],[3,7]),([8],[8])])
def laws_eqGlobalS.B6:List Nat:=[0,0,3,7,0,0,48,112,255,511]
theorem laws_eqGlobalS.tab6:rtab .any (opsOf Try.f34 6)=laws_eqGlobalS.T6:=by kernel_rfl
theorem laws_eqGlobalS.bits6:waitsOk laws_eqGlobalS.T6.2 laws_eqGlobalS.B6=true:=by kernel_rfl
theorem laws_eqGlobalS.calls (k:Nat) (A0:Option Addr) (c0:Nat) (l0:List (S75)) (A1:Option Addr) (c1:Nat) (l1:List (S75)) (r:Bool) (w:World) (hr0:Kd.C k75 w A0 l0.length l0) (hc0:l0.length≤c0) (hr1:Kd.C k75 w A1 l1.length l1) (hc1:l1.length≤c1) (h:laws_eqGlobalS.f k l0 l1=some r):
  Calls Try.prog 34 #[.slice A0 l0.length c0,.slice A1 l1.length c1] w fun e w'=>e=.returned (.bool r)∧Below w.heap.size w w':=by
 have hu75:=Try.underlying75
 have HR0:=A_ hr0
 have HC0:=A_ hc0
 clear hr0 hc0
 have HR1:=A_ hr1
 have HC1:=A_ hc1
 clear hr1 hc1
 have HB:=A_ (Below.refl w.heap.size w)
 have H:(if (l0.length:Int)=(l1.length:Int) then (laws_eqGlobalS.l0 k l0 l1 0) else (some false))=some r:=h
 clear h
 by_cases c3:(l0.length:Int)=(l1.length:Int)
 ·
  rw[if_pos c3] at H
  obtain⟨c3b0,c3b1⟩:=eT_ c3
  have c3b2:(l0.length==l1.length)=true:=by first|simpa using c3|(simp at c3 ⊢;omega)
  clear c3
  have H':=A_ H
  clear H
  go_enter Try.func34,Try.ntmps34
  go_wp2
  (try simp only[Act.put,List.setIfInBounds_toArray,List.set_cons_zero,List.set_cons_succ])
  go_loopg [5] k (fun kq v5 w'=>∃ (x5_1:Int),v5=.int .i64 x5_1∧Aside0 (laws_eqGlobalS.l0 kq l0 l1 x5_1=some r)∧Aside0 (kq≤k)∧Aside0 (Below w.heap.size w w'))
  case atStart=>exact⟨(0),rs_,H',⟨Nat.le_refl _⟩,⟨bw HB.out⟩⟩
  case round=>
   clear H'
   try clear c1 c3 c3b0 c3b1 c3b2
   obtain⟨x5_1,rfl,HA,HK1,HB⟩:=hrel
   cases gk with
   |zero=>exact absurd HA.out (by simp[laws_eqGlobalS.l0])
   |succ k1=>
    have H:=HA.out
    clear HA
    simp only[laws_eqGlobalS.l0] at H
    revert H
    refine iL_ (fun c4b0 H=>?_) (fun c4b0 H=>?_)
    ·
     replace H:=id_ H
     obtain⟨c5b0,H⟩:=H
     replace H:=id_ H
     obtain⟨c6b0,H⟩:=H
     replace H:=bA_ H
     obtain⟨t458,A7,H⟩:=H
     revert H
     refine iB_ (fun c8 H=>?_) (fun c8 H=>?_)<;>subst c8
     ·
      have H':=A_ H
      clear H
      try go_wp2
      have n0_:=A_ (below_drew1 HB.out)
      clear HB
      have HB:=n0_
      clear n0_
      have p456:0≤(x5_1:Int):=od_
      have q456:x5_1<(l0.length:Int):=od_
      obtain⟨ad456,e456,hx456_0,hx456_1,hx456_2⟩:=at_T75 HR0.out x5_1 p456 q456
      have hw456_2:=hx456_2
      have hw456_1:=hx456_1
      have hw456_0:=hx456_0
      cases e456
      replace hx456_0:=cl_ HB.out hx456_0
      replace hx456_1:=cl_ HB.out hx456_1
      replace hx456_2:=cl_ HB.out hx456_2
      replace p456:=eq_true p456
      replace q456:=eq_true q456
      have p457:0≤(x5_1:Int):=od_
      have q457:x5_1<(l1.length:Int):=od_
      obtain⟨ad457,e457,hx457_0,hx457_1,hx457_2⟩:=at_T75 HR1.out x5_1 p457 q457
      have hw457_2:=hx457_2
      have hw457_1:=hx457_1
      have hw457_0:=hx457_0
      cases e457
      replace hx457_0:=cl_ HB.out hx457_0
      replace hx457_1:=cl_ HB.out hx457_1
      replace hx457_2:=cl_ HB.out hx457_2
      replace p457:=eq_true p457
      replace q457:=eq_true q457
      refine sS 10 (fun w'=>w'.cell? (ad456.add ((x5_1).toNat*3))=some (.int .i64 ((rd_T75 l0 x5_1).f0))∧w'.cell? ⟨(ad456.add ((x5_1).toNat*3)).block,(ad456.add ((x5_1).toNat*3)).off+1,none⟩=some (.bool ((rd_T75 l0 x5_1).f1))∧w'.cell? ⟨(ad456.add ((x5_1).toNat*3)).block,(ad456.add ((x5_1).toNat*3)).off+2,none⟩=some (.int .u64 ((rd_T75 l0 x5_1).f2))∧w'.cell? (ad457.add ((x5_1).toNat*3))=some (.int .i64 ((rd_T75 l1 x5_1).f0))∧w'.cell? ⟨(ad457.add ((x5_1).toNat*3)).block,(ad457.add ((x5_1).toNat*3)).off+1,none⟩=some (.bool ((rd_T75 l1 x5_1).f1))∧w'.cell? ⟨(ad457.add ((x5_1).toNat*3)).block,(ad457.add ((x5_1).toNat*3)).off+2,none⟩=some (.int .u64 ((rd_T75 l1 x5_1).f2))) [] ⟨(ce_ HB hw456_0),(ce_ HB hw456_1),(ce_ HB hw456_2),(ce_ HB hw457_0),(ce_ HB hw457_1),(ce_ HB hw457_2)⟩ laws_eqGlobalS.tab6 laws_eqGlobalS.bits6 (fun hHeld HT_ HW_=>?_)
      generalize wr.drew=w9 at HB hx456_0 hx456_1 hx456_2 hx457_0 hx457_1 hx457_2 hHeld ⊢
      refine pS HT_ 0 17 ?_
      refine pS HT_ 1 18 ?_
      refine pS HT_ 2 19 ?_
      refine pS HT_ 4 21 ?_
      refine pS HT_ 5 22 ?_
      refine pS HT_ 6 23 ?_
      refine tS HT_ HW_ 3 20 hHeld ?_
      refine tS HT_ HW_ 7 24 hHeld ?_
      refine oS HT_ 8 (some 25) (fun K hK=>?_)
      refine goes_ Try.func50 (by kernel_rfl) rfl #[.agg #[.int .i64 ((rd_T75 l0 x5_1).f0),.bool ((rd_T75 l0 x5_1).f1),.int .u64 ((rd_T75 l0 x5_1).f2)],.agg #[.int .i64 ((rd_T75 l1 x5_1).f0),.bool ((rd_T75 l1 x5_1).f1),.int .u64 ((rd_T75 l1 x5_1).f2)]] (by rfl) rfl rfl ar ?_
      with_reducible refine(laws_eqGlobal.calls ((rd_T75 l0 x5_1).f0) ((rd_T75 l0 x5_1).f1) ((rd_T75 l0 x5_1).f2) ((rd_T75 l1 x5_1).f0) ((rd_T75 l1 x5_1).f1) ((rd_T75 l1 x5_1).f2) true _ A7.out).mono ?_
      rintro e w10 ⟨rfl,hb⟩
      refine⟨_,rfl,?_⟩
      have n0_:=A_ (below_step (bw HB.out) hb)
      clear HB
      have HB:=n0_
      clear n0_
      (try clear hb)
      (try clear hb2)
      (try clear hk)
      (try clear hi)
      refine hK.out _ _ ⟨(ce_ HB hw456_0),(ce_ HB hw456_1),(ce_ HB hw456_2),(ce_ HB hw457_0),(ce_ HB hw457_1),(ce_ HB hw457_2)⟩ (fun hHeld=>?_)
      clear hK K
      refine nS (some 25) ?_
      refine pS HT_ 9 26 ?_
      refine dS HT_ ?_
      try go_wp2
      go_roundg k1
      case measure=>have:=HK1.out;omega
      case rel=>exact⟨(wrap64 (x5_1+1)),rs_,H',⟨by have:=HK1.out;omega⟩,⟨bw HB.out⟩⟩
     obtain rfl:=Option.some.inj H
     clear H
     try go_wp2
     have n0_:=A_ (below_drew1 HB.out)
     clear HB
     have HB:=n0_
     clear n0_
     have p456:0≤(x5_1:Int):=od_
     have q456:x5_1<(l0.length:Int):=od_
     obtain⟨ad456,e456,hx456_0,hx456_1,hx456_2⟩:=at_T75 HR0.out x5_1 p456 q456
     have hw456_2:=hx456_2
     have hw456_1:=hx456_1
     have hw456_0:=hx456_0
     cases e456
     replace hx456_0:=cl_ HB.out hx456_0
     replace hx456_1:=cl_ HB.out hx456_1
     replace hx456_2:=cl_ HB.out hx456_2
     replace p456:=eq_true p456
     replace q456:=eq_true q456
     have p457:0≤(x5_1:Int):=od_
     have q457:x5_1<(l1.length:Int):=od_
     obtain⟨ad457,e457,hx457_0,hx457_1,hx457_2⟩:=at_T75 HR1.out x5_1 p457 q457
     have hw457_2:=hx457_2
     have hw457_1:=hx457_1
     have hw457_0:=hx457_0
     cases e457
     replace hx457_0:=cl_ HB.out hx457_0
     replace hx457_1:=cl_ HB.out hx457_1
     replace hx457_2:=cl_ HB.out hx457_2
     replace p457:=eq_true p457
     replace q457:=eq_true q457
     refine sS 10 (fun w'=>w'.cell? (ad456.add ((x5_1).toNat*3))=some (.int .i64 ((rd_T75 l0 x5_1).f0))∧w'.cell? ⟨(ad456.add ((x5_1).toNat*3)).block,(ad456.add ((x5_1).toNat*3)).off+1,none⟩=some (.bool ((rd_T75 l0 x5_1).f1))∧w'.cell? ⟨(ad456.add ((x5_1).toNat*3)).block,(ad456.add ((x5_1).toNat*3)).off+2,none⟩=some (.int .u64 ((rd_T75 l0 x5_1).f2))∧w'.cell? (ad457.add ((x5_1).toNat*3))=some (.int .i64 ((rd_T75 l1 x5_1).f0))∧w'.cell? ⟨(ad457.add ((x5_1).toNat*3)).block,(ad457.add ((x5_1).toNat*3)).off+1,none⟩=some (.bool ((rd_T75 l1 x5_1).f1))∧w'.cell? ⟨(ad457.add ((x5_1).toNat*3)).block,(ad457.add ((x5_1).toNat*3)).off+2,none⟩=some (.int .u64 ((rd_T75 l1 x5_1).f2))) [] ⟨(ce_ HB hw456_0),(ce_ HB hw456_1),(ce_ HB hw456_2),(ce_ HB hw457_0),(ce_ HB hw457_1),(ce_ HB hw457_2)⟩ laws_eqGlobalS.tab6 laws_eqGlobalS.bits6 (fun hHeld HT_ HW_=>?_)
     generalize wr.drew=w11 at HB hx456_0 hx456_1 hx456_2 hx457_0 hx457_1 hx457_2 hHeld ⊢
     refine pS HT_ 0 17 ?_
     refine pS HT_ 1 18 ?_
     refine pS HT_ 2 19 ?_
     refine pS HT_ 4 21 ?_
     refine pS HT_ 5 22 ?_
     refine pS HT_ 6 23 ?_
     refine tS HT_ HW_ 3 20 hHeld ?_
     refine tS HT_ HW_ 7 24 hHeld ?_
     refine oS HT_ 8 (some 25) (fun K hK=>?_)
     refine goes_ Try.func50 (by kernel_rfl) rfl #[.agg #[.int .i64 ((rd_T75 l0 x5_1).f0),.bool ((rd_T75 l0 x5_1).f1),.int .u64 ((rd_T75 l0 x5_1).f2)],.agg #[.int .i64 ((rd_T75 l1 x5_1).f0),.bool ((rd_T75 l1 x5_1).f1),.int .u64 ((rd_T75 l1 x5_1).f2)]] (by rfl) rfl rfl ar ?_
     with_reducible refine(laws_eqGlobal.calls ((rd_T75 l0 x5_1).f0) ((rd_T75 l0 x5_1).f1) ((rd_T75 l0 x5_1).f2) ((rd_T75 l1 x5_1).f0) ((rd_T75 l1 x5_1).f1) ((rd_T75 l1 x5_1).f2) false _ A7.out).mono ?_
     rintro e w12 ⟨rfl,hb⟩
     refine⟨_,rfl,?_⟩
     have n0_:=A_ (below_step (bw HB.out) hb)
     clear HB
     have HB:=n0_
     clear n0_
     (try clear hb)
     (try clear hb2)
     (try clear hk)
     (try clear hi)
     refine hK.out _ _ ⟨(ce_ HB hw456_0),(ce_ HB hw456_1),(ce_ HB hw456_2),(ce_ HB hw457_0),(ce_ HB hw457_1),(ce_ HB hw457_2)⟩ (fun hHeld=>?_)
     clear hK K
     refine nS (some 25) ?_
     refine pS HT_ 9 26 ?_
     refine dS HT_ ?_
     try go_wp2
     go_ret
     exact⟨rr_,bw HB.out⟩
    obtain rfl:=Option.some.inj H
    clear H
    go_wp2
    go_ret
    exact⟨rr_,bw HB.out⟩
 rw[if_neg c3] at H
 obtain⟨c3b0,c3b1⟩:=eF_ c3
 have c3b2:(l0.length==l1.length)=false:=by first|simpa using c3|(simp at c3 ⊢;omega)
 obtain rfl:=Option.some.inj H
 clear H
 go_enter Try.func34,Try.ntmps34
 go_wp2
 go_ret
 exact⟨rr_,bw HB.out⟩

/-! ### laws_eqModule: function 16 -/
def laws_eqModule.f (k:Nat) (l0_0:List (S88)) (l0_1:List (S75)) (a0_2:Bool) (a0_3:Int) (a0_4:Int) (a0_5:Int) (l1_0:List (S88)) (l1_1:List (S75)) (a1_2:Bool) (a1_3:Int) (a1_4:Int) (a1_5:Int):Option (Bool):=(laws_eqFuncS.f k l0_0 l1_0).bind fun t461=>(if t461=true then ((laws_eqGlobalS.f k l0_1 l1_1).bind fun t462=>(if t462=true then (if (a0_2 !=a1_2)=true then (some false) else (if a0_3=a1_3 then (if a0_4=a1_4 then (if a0_5=a1_5 then (some true) else (some false)) else (some false)) else (some false))) else (some false))) else (some false))
theorem laws_eqModule.calls (k:Nat) (A0_0:Option Addr) (c0_0:Nat) (l0_0:List (S88)) (A0_1:Option Addr) (c0_1:Nat) (l0_1:List (S75)) (a0_2:Bool) (a0_3:Int) (a0_4:Int) (a0_5:Int) (A1_0:Option Addr) (c1_0:Nat) (l1_0:List (S88)) (A1_1:Option Addr) (c1_1:Nat) (l1_1:List (S75)) (a1_2:Bool) (a1_3:Int) (a1_4:Int) (a1_5:Int) (r:Bool) (w:World) (hr0_0:Kd.C k88 w A0_0 l0_0.length l0_0) (hc0_0:l0_0.length≤c0_0) (hr0_1:Kd.C k75 w A0_1 l0_1.length l0_1) (hc0_1:l0_1.length≤c0_1) (hr1_0:Kd.C k88 w A1_0 l1_0.length l1_0) (hc1_0:l1_0.length≤c1_0) (hr1_1:Kd.C k75 w A1_1 l1_1.length l1_1) (hc1_1:l1_1.length≤c1_1) (h:laws_eqModule.f k l0_0 l0_1 a0_2 a0_3 a0_4 a0_5 l1_0 l1_1 a1_2 a1_3 a1_4 a1_5=some r):
  Calls Try.prog 16 #[.agg #[.slice A0_0 l0_0.length c0_0,.slice A0_1 l0_1.length c0_1,.bool a0_2,.int .i64 a0_3,.int .i64 a0_4,.int .i64 a0_5],.agg #[.slice A1_0 l1_0.length c1_0,.slice A1_1 l1_1.length c1_1,.bool a1_2,.int .i64 a1_3,.int .i64 a1_4,.int .i64 a1_5]] w fun e w'=>e=.returned (.bool r)∧Below w.heap.size w w':=by
 have hu38:=Try.underlying38
 have HR0_0:=A_ hr0_0
 have HC0_0:=A_ hc0_0
 clear hr0_0 hc0_0
 have HR0_1:=A_ hr0_1
 have HC0_1:=A_ hc0_1
 clear hr0_1 hc0_1
 have HR1_0:=A_ hr1_0
 have HC1_0:=A_ hc1_0
 clear hr1_0 hc1_0
 have HR1_1:=A_ hr1_1
 have HC1_1:=A_ hc1_1
 clear hr1_1 hc1_1
 have HB:=A_ (Below.refl w.heap.size w)
 have H:((laws_eqFuncS.f k l0_0 l1_0).bind fun t461=>(if t461=true then ((laws_eqGlobalS.f k l0_1 l1_1).bind fun t462=>(if t462=true then (if (a0_2 !=a1_2)=true then (some false) else (if a0_3=a1_3 then (if a0_4=a1_4 then (if a0_5=a1_5 then (some true) else (some false)) else (some false)) else (some false))) else (some false))) else (some false)))=some r:=h
 clear h
 replace H:=bA_ H
 obtain⟨t461,A3,H⟩:=H
 revert H
 refine iB_ (fun c4 H=>?_) (fun c4 H=>?_)<;>subst c4
 replace H:=bA_ H
 obtain⟨t462,A5,H⟩:=H
 revert H
 refine iB_ (fun c6 H=>?_) (fun c6 H=>?_)<;>subst c6
 refine ic_ ((a0_2 !=a1_2)=true) (fun c7=>?pc7) (fun c7=>?nc7)
 case' pc7=>
  rw[if_pos c7] at H
  have c7b0:(a0_2 !=a1_2)=true:=c7
  (try (have c7b1:decide (a0_2=a1_2)=false:=by simpa using c7))
  (try (have c7b2:(a0_2==a1_2)=false:=by simpa using c7))
  (try (have c7b3:¬(a0_2=a1_2):=by simpa using c7))
  clear c7
 case' nc7=>
  rw[if_neg c7] at H
  have c7b0:(a0_2 !=a1_2)=false:=by simpa using c7
  (try (have c7b1:decide (a0_2=a1_2)=true:=by simpa using c7))
  (try (have c7b2:(a0_2==a1_2)=true:=by simpa using c7))
  clear c7
  revert H
  refine iE_ (fun c19b0 c19b1 H=>?_) (fun c19 c19b0 c19b1 H=>?_)
  revert H
  refine iE_ (fun c20b0 c20b1 H=>?_) (fun c20 c20b0 c20b1 H=>?_)
  revert H
  refine iE_ (fun c21b0 c21b1 H=>?_) (fun c21 c21b0 c21b1 H=>?_)
 all_goals
  obtain rfl:=Option.some.inj H
  clear H
  go_enter Try.func16,Try.ntmps16
  go_wp2_with (first|((with_reducible refine gd_ 2 rfl ?_);refine bx_ #[.slice A0_0 l0_0.length c0_0,.slice A0_1 l0_1.length c0_1,.bool a0_2,.int .i64 a0_3,.int .i64 a0_4,.int .i64 a0_5] 38 ?_;intro gb459 hg w8 hbox hb;have BK459:=A_ hbox;have GW459:=gw_ hg HB;have GE459:=GW459;replace HB:=bs_ HB hb;clear hb hbox hg)|((with_reducible refine gd_ 3 rfl ?_);refine bx_ #[.slice A1_0 l1_0.length c1_0,.slice A1_1 l1_1.length c1_1,.bool a1_2,.int .i64 a1_3,.int .i64 a1_4,.int .i64 a1_5] 38 ?_;intro gb460 hg w9 hbox hb;have BK460:=A_ hbox;have GW460:=gw_ hg HB;have GE460:=GW460;obtain⟨NB459_460,NB460_459⟩:=nb_ BK459 hg;replace BK459:=kb_ BK459 hb;replace HB:=bs_ HB hb;clear hb hbox hg;have hnb10:=NB459_460.out;have hnc10:=NB460_459.out;obtain⟨hcz11_0,hcz11_1,hcz11_2,hcz11_3,hcz11_4,hcz11_5⟩:=cs6_ BK459.out;obtain⟨hfz11_0,hfz11_1,hfz11_2,hfz11_3,hfz11_4,hfz11_5⟩:=fz6_ BK459.out;obtain⟨hcz12_0,hcz12_1,hcz12_2,hcz12_3,hcz12_4,hcz12_5⟩:=cs6_ BK460.out;obtain⟨hfz12_0,hfz12_1,hfz12_2,hfz12_3,hfz12_4,hfz12_5⟩:=fz6_ BK460.out)|((with_reducible refine gc_ 33 rfl ?_);refine gm_ (some 9) Try.func33 (laws_eqFuncS.calls k _ _ l0_0 _ _ l1_0 true _ (cb_ HR0_0 HB) HC0_0.out (cb_ HR1_0 HB) HC1_0.out A3.out) ?_;intro w13 hb;replace BK459:=kb_ BK459 hb;replace BK460:=kb_ BK460 hb;replace HB:=bs_ HB hb;(try clear hb);obtain⟨hcz14_0,hcz14_1,hcz14_2,hcz14_3,hcz14_4,hcz14_5⟩:=cs6_ BK459.out;obtain⟨hfz14_0,hfz14_1,hfz14_2,hfz14_3,hfz14_4,hfz14_5⟩:=fz6_ BK459.out;obtain⟨hcz15_0,hcz15_1,hcz15_2,hcz15_3,hcz15_4,hcz15_5⟩:=cs6_ BK460.out;obtain⟨hfz15_0,hfz15_1,hfz15_2,hfz15_3,hfz15_4,hfz15_5⟩:=fz6_ BK460.out)|((with_reducible refine gc_ 34 rfl ?_);refine gm_ (some 15) Try.func34 (laws_eqGlobalS.calls k _ _ l0_1 _ _ l1_1 true _ (cb_ HR0_1 HB) HC0_1.out (cb_ HR1_1 HB) HC1_1.out A5.out) ?_;intro w16 hb;replace BK459:=kb_ BK459 hb;replace BK460:=kb_ BK460 hb;replace HB:=bs_ HB hb;(try clear hb);obtain⟨hcz17_0,hcz17_1,hcz17_2,hcz17_3,hcz17_4,hcz17_5⟩:=cs6_ BK459.out;obtain⟨hfz17_0,hfz17_1,hfz17_2,hfz17_3,hfz17_4,hfz17_5⟩:=fz6_ BK459.out;obtain⟨hcz18_0,hcz18_1,hcz18_2,hcz18_3,hcz18_4,hcz18_5⟩:=cs6_ BK460.out;obtain⟨hfz18_0,hfz18_1,hfz18_2,hfz18_3,hfz18_4,hfz18_5⟩:=fz6_ BK460.out)|((with_reducible refine gc_ 34 rfl ?_);refine gm_ (some 15) Try.func34 (laws_eqGlobalS.calls k _ _ l0_1 _ _ l1_1 false _ (cb_ HR0_1 HB) HC0_1.out (cb_ HR1_1 HB) HC1_1.out A5.out) ?_;intro w74 hb;replace BK459:=kb_ BK459 hb;replace BK460:=kb_ BK460 hb;replace HB:=bs_ HB hb;(try clear hb))|((with_reducible refine gc_ 33 rfl ?_);refine gm_ (some 9) Try.func33 (laws_eqFuncS.calls k _ _ l0_0 _ _ l1_0 false _ (cb_ HR0_0 HB) HC0_0.out (cb_ HR1_0 HB) HC1_0.out A3.out) ?_;intro w80 hb;replace BK459:=kb_ BK459 hb;replace BK460:=kb_ BK460 hb;replace HB:=bs_ HB hb;(try clear hb)))
  go_ret
  exact⟨rr_,bw HB.out⟩

/-! ### laws_eqMemory: function 35 -/
def laws_eqMemory.f (a0_0:Int) (a0_1:ByteArray) (a1_0:Int) (a1_1:ByteArray):Option (Bool):=if a0_0=a1_0 then (if a0_1.toList=a1_1.toList then (some true) else (some false)) else (some false)
theorem laws_eqMemory.calls (a0_0:Int) (a0_1:ByteArray) (a1_0:Int) (a1_1:ByteArray) (r:Bool) (w:World) (h:laws_eqMemory.f a0_0 a0_1 a1_0 a1_1=some r):
  Calls Try.prog 35 #[.agg #[.int .i64 a0_0,.string a0_1],.agg #[.int .i64 a1_0,.string a1_1]] w fun e w'=>e=.returned (.bool r)∧Below w.heap.size w w':=by
 have hu39:=Try.underlying39
 have HB:=A_ (Below.refl w.heap.size w)
 have H:(if a0_0=a1_0 then (if a0_1.toList=a1_1.toList then (some true) else (some false)) else (some false))=some r:=h
 clear h
 revert H
 refine iE_ (fun c3b0 c3b1 H=>?_) (fun c3 c3b0 c3b1 H=>?_)
 revert H
 refine iE_ (fun c4b0 c4b1 H=>?_) (fun c4 c4b0 c4b1 H=>?_)
 all_goals
  obtain rfl:=Option.some.inj H
  clear H
  go_enter Try.func35,Try.ntmps35
  go_wp2_with (first|((with_reducible refine gd_ 2 rfl ?_);refine bx_ #[.int .i64 a0_0,.string a0_1] 39 ?_;intro gb463 hg w5 hbox hb;have BK463:=A_ hbox;have GW463:=gw_ hg HB;have GE463:=GW463;replace HB:=bs_ HB hb;clear hb hbox hg)|((with_reducible refine gd_ 3 rfl ?_);refine bx_ #[.int .i64 a1_0,.string a1_1] 39 ?_;intro gb464 hg w6 hbox hb;have BK464:=A_ hbox;have GW464:=gw_ hg HB;have GE464:=GW464;obtain⟨NB463_464,NB464_463⟩:=nb_ BK463 hg;replace BK463:=kb_ BK463 hb;replace HB:=bs_ HB hb;clear hb hbox hg;have hnb7:=NB463_464.out;have hnc7:=NB464_463.out;obtain⟨hcz8_0,hcz8_1⟩:=cs2_ BK463.out;obtain⟨hfz8_0,hfz8_1⟩:=fz2_ BK463.out;obtain⟨hcz9_0,hcz9_1⟩:=cs2_ BK464.out;obtain⟨hfz9_0,hfz9_1⟩:=fz2_ BK464.out))
  go_ret
  exact⟨rr_,bw HB.out⟩

/-! ### laws_eqWord: function 51 -/
def laws_eqWord.f (a0_0:Int) (a0_1:Int) (a1_0:Int) (a1_1:Int):Option (Bool):=if a0_0=a1_0 then (if a0_1=a1_1 then (some true) else (some false)) else (some false)
theorem laws_eqWord.calls (a0_0:Int) (a0_1:Int) (a1_0:Int) (a1_1:Int) (r:Bool) (w:World) (h:laws_eqWord.f a0_0 a0_1 a1_0 a1_1=some r):
  Calls Try.prog 51 #[.agg #[.int .i64 a0_0,.int .u64 a0_1],.agg #[.int .i64 a1_0,.int .u64 a1_1]] w fun e w'=>e=.returned (.bool r)∧Below w.heap.size w w':=by
 have hu72:=Try.underlying72
 have HB:=A_ (Below.refl w.heap.size w)
 have H:(if a0_0=a1_0 then (if a0_1=a1_1 then (some true) else (some false)) else (some false))=some r:=h
 clear h
 revert H
 refine iE_ (fun c3b0 c3b1 H=>?_) (fun c3 c3b0 c3b1 H=>?_)
 revert H
 refine iE_ (fun c4b0 c4b1 H=>?_) (fun c4 c4b0 c4b1 H=>?_)
 all_goals
  obtain rfl:=Option.some.inj H
  clear H
  go_enter Try.func51,Try.ntmps51
  go_wp2_with (first|((with_reducible refine gd_ 2 rfl ?_);refine bx_ #[.int .i64 a0_0,.int .u64 a0_1] 72 ?_;intro gb465 hg w5 hbox hb;have BK465:=A_ hbox;have GW465:=gw_ hg HB;have GE465:=GW465;replace HB:=bs_ HB hb;clear hb hbox hg)|((with_reducible refine gd_ 3 rfl ?_);refine bx_ #[.int .i64 a1_0,.int .u64 a1_1] 72 ?_;intro gb466 hg w6 hbox hb;have BK466:=A_ hbox;have GW466:=gw_ hg HB;have GE466:=GW466;obtain⟨NB465_466,NB466_465⟩:=nb_ BK465 hg;replace BK465:=kb_ BK465 hb;replace HB:=bs_ HB hb;clear hb hbox hg;have hnb7:=NB465_466.out;have hnc7:=NB466_465.out;obtain⟨hcz8_0,hcz8_1⟩:=cs2_ BK465.out;obtain⟨hfz8_0,hfz8_1⟩:=fz2_ BK465.out;obtain⟨hcz9_0,hcz9_1⟩:=cs2_ BK466.out;obtain⟨hfz9_0,hfz9_1⟩:=fz2_ BK466.out))
  go_ret
  exact⟨rr_,bw HB.out⟩

/-! ### laws_eqWordS: function 36 -/
def laws_eqWordS.l0:Nat→List (S72)→List (S72)→Int→Option (Bool)
 |0,_,_,_=>none
 |k+1,x0,x1,x5=>if x5<(x0.length:Int) then (if 0≤x5 then (if x5<(x1.length:Int) then ((laws_eqWord.f ((rd_T72 x0 x5).f0) ((rd_T72 x0 x5).f1) ((rd_T72 x1 x5).f0) ((rd_T72 x1 x5).f1)).bind fun t469=>(if t469=true then (laws_eqWordS.l0 k x0 x1 (wrap64 (x5+1))) else (some false))) else (none)) else (none)) else (some true)
def laws_eqWordS.f (k:Nat) (l0:List (S72)) (l1:List (S72)):Option (Bool):=if (l0.length:Int)=(l1.length:Int) then (laws_eqWordS.l0 k l0 l1 0) else (some false)
def laws_eqWordS.T6:Bool × List (List Nat × List Nat):=(true,[([],[]),([],[]),([0,1],[0,1]),([2],[2]),([],[]),([],[]),([4,5],[4,5]),([6],[6]),([3,7],[3,7]),([8],[8])])
def laws_eqWordS.B6:List Nat:=[0,0,3,7,0,0,48,112,255,511]
theorem laws_eqWordS.tab6:rtab .any (opsOf Try.f36 6)=laws_eqWordS.T6:=by kernel_rfl
theorem laws_eqWordS.bits6:waitsOk laws_eqWordS.T6.2 laws_eqWordS.B6=true:=by kernel_rfl
theorem laws_eqWordS.calls (k:Nat) (A0:Option Addr) (c0:Nat) (l0:List (S72)) (A1:Option Addr) (c1:Nat) (l1:List (S72)) (r:Bool) (w:World) (hr0:Kd.C k72 w A0 l0.length l0) (hc0:l0.length≤c0) (hr1:Kd.C k72 w A1 l1.length l1) (hc1:l1.length≤c1) (h:laws_eqWordS.f k l0 l1=some r):
  Calls Try.prog 36 #[.slice A0 l0.length c0,.slice A1 l1.length c1] w fun e w'=>e=.returned (.bool r)∧Below w.heap.size w w':=by
 have hu72:=Try.underlying72
 have HR0:=A_ hr0
 have HC0:=A_ hc0
 clear hr0 hc0
 have HR1:=A_ hr1
 have HC1:=A_ hc1
 clear hr1 hc1
 have HB:=A_ (Below.refl w.heap.size w)
 have H:(if (l0.length:Int)=(l1.length:Int) then (laws_eqWordS.l0 k l0 l1 0) else (some false))=some r:=h
 clear h
 by_cases c3:(l0.length:Int)=(l1.length:Int)
 ·
  rw[if_pos c3] at H
  obtain⟨c3b0,c3b1⟩:=eT_ c3
  have c3b2:(l0.length==l1.length)=true:=by first|simpa using c3|(simp at c3 ⊢;omega)
  clear c3
  have H':=A_ H
  clear H
  go_enter Try.func36,Try.ntmps36
  go_wp2
  (try simp only[Act.put,List.setIfInBounds_toArray,List.set_cons_zero,List.set_cons_succ])
  go_loopg [5] k (fun kq v5 w'=>∃ (x5_1:Int),v5=.int .i64 x5_1∧Aside0 (laws_eqWordS.l0 kq l0 l1 x5_1=some r)∧Aside0 (kq≤k)∧Aside0 (Below w.heap.size w w'))
  case atStart=>exact⟨(0),rs_,H',⟨Nat.le_refl _⟩,⟨bw HB.out⟩⟩
  case round=>
   clear H'
   try clear c1 c3 c3b0 c3b1 c3b2
   obtain⟨x5_1,rfl,HA,HK1,HB⟩:=hrel
   cases gk with
   |zero=>exact absurd HA.out (by simp[laws_eqWordS.l0])
   |succ k1=>
    have H:=HA.out
    clear HA
    simp only[laws_eqWordS.l0] at H
    revert H
    refine iL_ (fun c4b0 H=>?_) (fun c4b0 H=>?_)
    ·
     replace H:=id_ H
     obtain⟨c5b0,H⟩:=H
     replace H:=id_ H
     obtain⟨c6b0,H⟩:=H
     replace H:=bA_ H
     obtain⟨t469,A7,H⟩:=H
     revert H
     refine iB_ (fun c8 H=>?_) (fun c8 H=>?_)<;>subst c8
     ·
      have H':=A_ H
      clear H
      try go_wp2
      have n0_:=A_ (below_drew1 HB.out)
      clear HB
      have HB:=n0_
      clear n0_
      have p467:0≤(x5_1:Int):=od_
      have q467:x5_1<(l0.length:Int):=od_
      obtain⟨ad467,e467,hx467_0,hx467_1⟩:=at_T72 HR0.out x5_1 p467 q467
      have hw467_1:=hx467_1
      have hw467_0:=hx467_0
      cases e467
      replace hx467_0:=cl_ HB.out hx467_0
      replace hx467_1:=cl_ HB.out hx467_1
      replace p467:=eq_true p467
      replace q467:=eq_true q467
      have p468:0≤(x5_1:Int):=od_
      have q468:x5_1<(l1.length:Int):=od_
      obtain⟨ad468,e468,hx468_0,hx468_1⟩:=at_T72 HR1.out x5_1 p468 q468
      have hw468_1:=hx468_1
      have hw468_0:=hx468_0
      cases e468
      replace hx468_0:=cl_ HB.out hx468_0
      replace hx468_1:=cl_ HB.out hx468_1
      replace p468:=eq_true p468
      replace q468:=eq_true q468
      refine sS 10 (fun w'=>w'.cell? (ad467.add ((x5_1).toNat*2))=some (.int .i64 ((rd_T72 l0 x5_1).f0))∧w'.cell? ⟨(ad467.add ((x5_1).toNat*2)).block,(ad467.add ((x5_1).toNat*2)).off+1,none⟩=some (.int .u64 ((rd_T72 l0 x5_1).f1))∧w'.cell? (ad468.add ((x5_1).toNat*2))=some (.int .i64 ((rd_T72 l1 x5_1).f0))∧w'.cell? ⟨(ad468.add ((x5_1).toNat*2)).block,(ad468.add ((x5_1).toNat*2)).off+1,none⟩=some (.int .u64 ((rd_T72 l1 x5_1).f1))) [] ⟨(ce_ HB hw467_0),(ce_ HB hw467_1),(ce_ HB hw468_0),(ce_ HB hw468_1)⟩ laws_eqWordS.tab6 laws_eqWordS.bits6 (fun hHeld HT_ HW_=>?_)
      generalize wr.drew=w9 at HB hx467_0 hx467_1 hx468_0 hx468_1 hHeld ⊢
      refine pS HT_ 0 17 ?_
      refine pS HT_ 1 18 ?_
      refine pS HT_ 2 19 ?_
      refine pS HT_ 4 21 ?_
      refine pS HT_ 5 22 ?_
      refine pS HT_ 6 23 ?_
      refine tS HT_ HW_ 3 20 hHeld ?_
      refine tS HT_ HW_ 7 24 hHeld ?_
      refine oS HT_ 8 (some 25) (fun K hK=>?_)
      refine goes_ Try.func51 (by kernel_rfl) rfl #[.agg #[.int .i64 ((rd_T72 l0 x5_1).f0),.int .u64 ((rd_T72 l0 x5_1).f1)],.agg #[.int .i64 ((rd_T72 l1 x5_1).f0),.int .u64 ((rd_T72 l1 x5_1).f1)]] (by rfl) rfl rfl ar ?_
      with_reducible refine(laws_eqWord.calls ((rd_T72 l0 x5_1).f0) ((rd_T72 l0 x5_1).f1) ((rd_T72 l1 x5_1).f0) ((rd_T72 l1 x5_1).f1) true _ A7.out).mono ?_
      rintro e w10 ⟨rfl,hb⟩
      refine⟨_,rfl,?_⟩
      have n0_:=A_ (below_step (bw HB.out) hb)
      clear HB
      have HB:=n0_
      clear n0_
      (try clear hb)
      (try clear hb2)
      (try clear hk)
      (try clear hi)
      refine hK.out _ _ ⟨(ce_ HB hw467_0),(ce_ HB hw467_1),(ce_ HB hw468_0),(ce_ HB hw468_1)⟩ (fun hHeld=>?_)
      clear hK K
      refine nS (some 25) ?_
      refine pS HT_ 9 26 ?_
      refine dS HT_ ?_
      try go_wp2
      go_roundg k1
      case measure=>have:=HK1.out;omega
      case rel=>exact⟨(wrap64 (x5_1+1)),rs_,H',⟨by have:=HK1.out;omega⟩,⟨bw HB.out⟩⟩
     obtain rfl:=Option.some.inj H
     clear H
     try go_wp2
     have n0_:=A_ (below_drew1 HB.out)
     clear HB
     have HB:=n0_
     clear n0_
     have p467:0≤(x5_1:Int):=od_
     have q467:x5_1<(l0.length:Int):=od_
     obtain⟨ad467,e467,hx467_0,hx467_1⟩:=at_T72 HR0.out x5_1 p467 q467
     have hw467_1:=hx467_1
     have hw467_0:=hx467_0
     cases e467
     replace hx467_0:=cl_ HB.out hx467_0
     replace hx467_1:=cl_ HB.out hx467_1
     replace p467:=eq_true p467
     replace q467:=eq_true q467
     have p468:0≤(x5_1:Int):=od_
     have q468:x5_1<(l1.length:Int):=od_
     obtain⟨ad468,e468,hx468_0,hx468_1⟩:=at_T72 HR1.out x5_1 p468 q468
     have hw468_1:=hx468_1
     have hw468_0:=hx468_0
     cases e468
     replace hx468_0:=cl_ HB.out hx468_0
     replace hx468_1:=cl_ HB.out hx468_1
     replace p468:=eq_true p468
     replace q468:=eq_true q468
     refine sS 10 (fun w'=>w'.cell? (ad467.add ((x5_1).toNat*2))=some (.int .i64 ((rd_T72 l0 x5_1).f0))∧w'.cell? ⟨(ad467.add ((x5_1).toNat*2)).block,(ad467.add ((x5_1).toNat*2)).off+1,none⟩=some (.int .u64 ((rd_T72 l0 x5_1).f1))∧w'.cell? (ad468.add ((x5_1).toNat*2))=some (.int .i64 ((rd_T72 l1 x5_1).f0))∧w'.cell? ⟨(ad468.add ((x5_1).toNat*2)).block,(ad468.add ((x5_1).toNat*2)).off+1,none⟩=some (.int .u64 ((rd_T72 l1 x5_1).f1))) [] ⟨(ce_ HB hw467_0),(ce_ HB hw467_1),(ce_ HB hw468_0),(ce_ HB hw468_1)⟩ laws_eqWordS.tab6 laws_eqWordS.bits6 (fun hHeld HT_ HW_=>?_)
     generalize wr.drew=w11 at HB hx467_0 hx467_1 hx468_0 hx468_1 hHeld ⊢
     refine pS HT_ 0 17 ?_
     refine pS HT_ 1 18 ?_
     refine pS HT_ 2 19 ?_
     refine pS HT_ 4 21 ?_
     refine pS HT_ 5 22 ?_
     refine pS HT_ 6 23 ?_
     refine tS HT_ HW_ 3 20 hHeld ?_
     refine tS HT_ HW_ 7 24 hHeld ?_
     refine oS HT_ 8 (some 25) (fun K hK=>?_)
     refine goes_ Try.func51 (by kernel_rfl) rfl #[.agg #[.int .i64 ((rd_T72 l0 x5_1).f0),.int .u64 ((rd_T72 l0 x5_1).f1)],.agg #[.int .i64 ((rd_T72 l1 x5_1).f0),.int .u64 ((rd_T72 l1 x5_1).f1)]] (by rfl) rfl rfl ar ?_
     with_reducible refine(laws_eqWord.calls ((rd_T72 l0 x5_1).f0) ((rd_T72 l0 x5_1).f1) ((rd_T72 l1 x5_1).f0) ((rd_T72 l1 x5_1).f1) false _ A7.out).mono ?_
     rintro e w12 ⟨rfl,hb⟩
     refine⟨_,rfl,?_⟩
     have n0_:=A_ (below_step (bw HB.out) hb)
     clear HB
     have HB:=n0_
     clear n0_
     (try clear hb)
     (try clear hb2)
     (try clear hk)
     (try clear hi)
     refine hK.out _ _ ⟨(ce_ HB hw467_0),(ce_ HB hw467_1),(ce_ HB hw468_0),(ce_ HB hw468_1)⟩ (fun hHeld=>?_)
     clear hK K
     refine nS (some 25) ?_
     refine pS HT_ 9 26 ?_
     refine dS HT_ ?_
     try go_wp2
     go_ret
     exact⟨rr_,bw HB.out⟩
    obtain rfl:=Option.some.inj H
    clear H
    go_wp2
    go_ret
    exact⟨rr_,bw HB.out⟩
 rw[if_neg c3] at H
 obtain⟨c3b0,c3b1⟩:=eF_ c3
 have c3b2:(l0.length==l1.length)=false:=by first|simpa using c3|(simp at c3 ⊢;omega)
 obtain rfl:=Option.some.inj H
 clear H
 go_enter Try.func36,Try.ntmps36
 go_wp2
 go_ret
 exact⟨rr_,bw HB.out⟩

/-! ### laws_eqState: function 17 -/
def laws_eqState.f (k:Nat) (a0_0:Int) (a0_1:ByteArray) (l0_2:List (S72)) (a1_0:Int) (a1_1:ByteArray) (l1_2:List (S72)):Option (Bool):=(laws_eqMemory.f a0_0 a0_1 a1_0 a1_1).bind fun t472=>(if t472=true then ((laws_eqWordS.f k l0_2 l1_2).bind fun t473=>(if t473=true then (some true) else (some false))) else (some false))
theorem laws_eqState.calls (k:Nat) (a0_0:Int) (a0_1:ByteArray) (A0_2:Option Addr) (c0_2:Nat) (l0_2:List (S72)) (a1_0:Int) (a1_1:ByteArray) (A1_2:Option Addr) (c1_2:Nat) (l1_2:List (S72)) (r:Bool) (w:World) (hr0_2:Kd.C k72 w A0_2 l0_2.length l0_2) (hc0_2:l0_2.length≤c0_2) (hr1_2:Kd.C k72 w A1_2 l1_2.length l1_2) (hc1_2:l1_2.length≤c1_2) (h:laws_eqState.f k a0_0 a0_1 l0_2 a1_0 a1_1 l1_2=some r):
  Calls Try.prog 17 #[.agg #[.int .i64 a0_0,.string a0_1,.slice A0_2 l0_2.length c0_2],.agg #[.int .i64 a1_0,.string a1_1,.slice A1_2 l1_2.length c1_2]] w fun e w'=>e=.returned (.bool r)∧Below w.heap.size w w':=by
 have hu42:=Try.underlying42
 have hu39:=Try.underlying39
 have HR0_2:=A_ hr0_2
 have HC0_2:=A_ hc0_2
 clear hr0_2 hc0_2
 have HR1_2:=A_ hr1_2
 have HC1_2:=A_ hc1_2
 clear hr1_2 hc1_2
 have HB:=A_ (Below.refl w.heap.size w)
 have H:((laws_eqMemory.f a0_0 a0_1 a1_0 a1_1).bind fun t472=>(if t472=true then ((laws_eqWordS.f k l0_2 l1_2).bind fun t473=>(if t473=true then (some true) else (some false))) else (some false)))=some r:=h
 clear h
 replace H:=bA_ H
 obtain⟨t472,A3,H⟩:=H
 revert H
 refine iB_ (fun c4 H=>?_) (fun c4 H=>?_)<;>subst c4
 replace H:=bA_ H
 obtain⟨t473,A5,H⟩:=H
 revert H
 refine iB_ (fun c6 H=>?_) (fun c6 H=>?_)<;>subst c6
 all_goals
  obtain rfl:=Option.some.inj H
  clear H
  go_enter Try.func17,Try.ntmps17
  go_wp2_with (first|((with_reducible refine gd_ 2 rfl ?_);refine bx_ #[.int .i64 a0_0,.string a0_1,.slice A0_2 l0_2.length c0_2] 42 ?_;intro gb470 hg w7 hbox hb;have BK470:=A_ hbox;have GW470:=gw_ hg HB;have GE470:=GW470;replace HB:=bs_ HB hb;clear hb hbox hg)|((with_reducible refine gd_ 3 rfl ?_);refine bx_ #[.int .i64 a1_0,.string a1_1,.slice A1_2 l1_2.length c1_2] 42 ?_;intro gb471 hg w8 hbox hb;have BK471:=A_ hbox;have GW471:=gw_ hg HB;have GE471:=GW471;obtain⟨NB470_471,NB471_470⟩:=nb_ BK470 hg;replace BK470:=kb_ BK470 hb;replace HB:=bs_ HB hb;clear hb hbox hg;have hnb9:=NB470_471.out;have hnc9:=NB471_470.out;obtain⟨hcz10_0,hcz10_1,hcz10_2⟩:=cs3_ BK470.out;obtain⟨hfz10_0,hfz10_1,hfz10_2⟩:=fz3_ BK470.out;obtain⟨hcz11_0,hcz11_1,hcz11_2⟩:=cs3_ BK471.out;obtain⟨hfz11_0,hfz11_1,hfz11_2⟩:=fz3_ BK471.out)|((with_reducible refine gc_ 35 rfl ?_);refine gm_ (some 9) Try.func35 (laws_eqMemory.calls a0_0 a0_1 a1_0 a1_1 true _ A3.out) ?_;intro w12 hb;replace BK470:=kb_ BK470 hb;replace BK471:=kb_ BK471 hb;replace HB:=bs_ HB hb;(try clear hb);obtain⟨hcz13_0,hcz13_1,hcz13_2⟩:=cs3_ BK470.out;obtain⟨hfz13_0,hfz13_1,hfz13_2⟩:=fz3_ BK470.out;obtain⟨hcz14_0,hcz14_1,hcz14_2⟩:=cs3_ BK471.out;obtain⟨hfz14_0,hfz14_1,hfz14_2⟩:=fz3_ BK471.out)|((with_reducible refine gc_ 36 rfl ?_);refine gm_ (some 15) Try.func36 (laws_eqWordS.calls k _ _ l0_2 _ _ l1_2 true _ (cb_ HR0_2 HB) HC0_2.out (cb_ HR1_2 HB) HC1_2.out A5.out) ?_;intro w15 hb;replace BK470:=kb_ BK470 hb;replace BK471:=kb_ BK471 hb;replace HB:=bs_ HB hb;(try clear hb))|((with_reducible refine gc_ 36 rfl ?_);refine gm_ (some 15) Try.func36 (laws_eqWordS.calls k _ _ l0_2 _ _ l1_2 false _ (cb_ HR0_2 HB) HC0_2.out (cb_ HR1_2 HB) HC1_2.out A5.out) ?_;intro w15 hb;replace BK470:=kb_ BK470 hb;replace BK471:=kb_ BK471 hb;replace HB:=bs_ HB hb;(try clear hb))|((with_reducible refine gc_ 35 rfl ?_);refine gm_ (some 9) Try.func35 (laws_eqMemory.calls a0_0 a0_1 a1_0 a1_1 false _ A3.out) ?_;intro w30 hb;replace BK470:=kb_ BK470 hb;replace BK471:=kb_ BK471 hb;replace HB:=bs_ HB hb;(try clear hb)))
  go_ret
  exact⟨rr_,bw HB.out⟩

/-! ### laws_eqInstance: function 8 -/
def laws_eqInstance.f (k:Nat) (l0_0:List (S88)) (l0_1:List (S75)) (a0_2:Bool) (a0_3:Int) (a0_4:Int) (a0_5:Int) (a0_6:Int) (a0_7:ByteArray) (l0_8:List (S72)) (a0_9:Bool) (a0_10:Int) (l1_0:List (S88)) (l1_1:List (S75)) (a1_2:Bool) (a1_3:Int) (a1_4:Int) (a1_5:Int) (a1_6:Int) (a1_7:ByteArray) (l1_8:List (S72)) (a1_9:Bool) (a1_10:Int):Option (Bool):=(laws_eqModule.f k l0_0 l0_1 a0_2 a0_3 a0_4 a0_5 l1_0 l1_1 a1_2 a1_3 a1_4 a1_5).bind fun t476=>(if t476=true then ((laws_eqState.f k a0_6 a0_7 l0_8 a1_6 a1_7 l1_8).bind fun t477=>(if t477=true then (if (a0_9 !=a1_9)=true then (some false) else (if a0_10=a1_10 then (some true) else (some false))) else (some false))) else (some false))
theorem laws_eqInstance.calls (k:Nat) (A0_0:Option Addr) (c0_0:Nat) (l0_0:List (S88)) (A0_1:Option Addr) (c0_1:Nat) (l0_1:List (S75)) (a0_2:Bool) (a0_3:Int) (a0_4:Int) (a0_5:Int) (a0_6:Int) (a0_7:ByteArray) (A0_8:Option Addr) (c0_8:Nat) (l0_8:List (S72)) (a0_9:Bool) (a0_10:Int) (A1_0:Option Addr) (c1_0:Nat) (l1_0:List (S88)) (A1_1:Option Addr) (c1_1:Nat) (l1_1:List (S75)) (a1_2:Bool) (a1_3:Int) (a1_4:Int) (a1_5:Int) (a1_6:Int) (a1_7:ByteArray) (A1_8:Option Addr) (c1_8:Nat) (l1_8:List (S72)) (a1_9:Bool) (a1_10:Int) (r:Bool) (w:World) (hr0_0:Kd.C k88 w A0_0 l0_0.length l0_0) (hc0_0:l0_0.length≤c0_0) (hr0_1:Kd.C k75 w A0_1 l0_1.length l0_1) (hc0_1:l0_1.length≤c0_1) (hr0_8:Kd.C k72 w A0_8 l0_8.length l0_8) (hc0_8:l0_8.length≤c0_8) (hr1_0:Kd.C k88 w A1_0 l1_0.length l1_0) (hc1_0:l1_0.length≤c1_0) (hr1_1:Kd.C k75 w A1_1 l1_1.length l1_1) (hc1_1:l1_1.length≤c1_1) (hr1_8:Kd.C k72 w A1_8 l1_8.length l1_8) (hc1_8:l1_8.length≤c1_8) (h:laws_eqInstance.f k l0_0 l0_1 a0_2 a0_3 a0_4 a0_5 a0_6 a0_7 l0_8 a0_9 a0_10 l1_0 l1_1 a1_2 a1_3 a1_4 a1_5 a1_6 a1_7 l1_8 a1_9 a1_10=some r):
  Calls Try.prog 8 #[.agg #[.slice A0_0 l0_0.length c0_0,.slice A0_1 l0_1.length c0_1,.bool a0_2,.int .i64 a0_3,.int .i64 a0_4,.int .i64 a0_5,.int .i64 a0_6,.string a0_7,.slice A0_8 l0_8.length c0_8,.bool a0_9,.int .i64 a0_10],.agg #[.slice A1_0 l1_0.length c1_0,.slice A1_1 l1_1.length c1_1,.bool a1_2,.int .i64 a1_3,.int .i64 a1_4,.int .i64 a1_5,.int .i64 a1_6,.string a1_7,.slice A1_8 l1_8.length c1_8,.bool a1_9,.int .i64 a1_10]] w fun e w'=>e=.returned (.bool r)∧Below w.heap.size w w':=by
 have hu44:=Try.underlying44
 have hu38:=Try.underlying38
 have hu42:=Try.underlying42
 have HR0_0:=A_ hr0_0
 have HC0_0:=A_ hc0_0
 clear hr0_0 hc0_0
 have HR0_1:=A_ hr0_1
 have HC0_1:=A_ hc0_1
 clear hr0_1 hc0_1
 have HR0_8:=A_ hr0_8
 have HC0_8:=A_ hc0_8
 clear hr0_8 hc0_8
 have HR1_0:=A_ hr1_0
 have HC1_0:=A_ hc1_0
 clear hr1_0 hc1_0
 have HR1_1:=A_ hr1_1
 have HC1_1:=A_ hc1_1
 clear hr1_1 hc1_1
 have HR1_8:=A_ hr1_8
 have HC1_8:=A_ hc1_8
 clear hr1_8 hc1_8
 have HB:=A_ (Below.refl w.heap.size w)
 have H:((laws_eqModule.f k l0_0 l0_1 a0_2 a0_3 a0_4 a0_5 l1_0 l1_1 a1_2 a1_3 a1_4 a1_5).bind fun t476=>(if t476=true then ((laws_eqState.f k a0_6 a0_7 l0_8 a1_6 a1_7 l1_8).bind fun t477=>(if t477=true then (if (a0_9 !=a1_9)=true then (some false) else (if a0_10=a1_10 then (some true) else (some false))) else (some false))) else (some false)))=some r:=h
 clear h
 replace H:=bA_ H
 obtain⟨t476,A3,H⟩:=H
 revert H
 refine iB_ (fun c4 H=>?_) (fun c4 H=>?_)<;>subst c4
 replace H:=bA_ H
 obtain⟨t477,A5,H⟩:=H
 revert H
 refine iB_ (fun c6 H=>?_) (fun c6 H=>?_)<;>subst c6
 refine ic_ ((a0_9 !=a1_9)=true) (fun c7=>?pc7) (fun c7=>?nc7)
 case' pc7=>
  rw[if_pos c7] at H
  have c7b0:(a0_9 !=a1_9)=true:=c7
  (try (have c7b1:decide (a0_9=a1_9)=false:=by simpa using c7))
  (try (have c7b2:(a0_9==a1_9)=false:=by simpa using c7))
  (try (have c7b3:¬(a0_9=a1_9):=by simpa using c7))
  clear c7
 case' nc7=>
  rw[if_neg c7] at H
  have c7b0:(a0_9 !=a1_9)=false:=by simpa using c7
  (try (have c7b1:decide (a0_9=a1_9)=true:=by simpa using c7))
  (try (have c7b2:(a0_9==a1_9)=true:=by simpa using c7))
  clear c7
  revert H
  refine iE_ (fun c19b0 c19b1 H=>?_) (fun c19 c19b0 c19b1 H=>?_)
 all_goals
  obtain rfl:=Option.some.inj H
  clear H
  go_enter Try.func8,Try.ntmps8
  go_wp2_with (first|((with_reducible refine gd_ 2 rfl ?_);refine bx_ #[.slice A0_0 l0_0.length c0_0,.slice A0_1 l0_1.length c0_1,.bool a0_2,.int .i64 a0_3,.int .i64 a0_4,.int .i64 a0_5,.int .i64 a0_6,.string a0_7,.slice A0_8 l0_8.length c0_8,.bool a0_9,.int .i64 a0_10] 44 ?_;intro gb474 hg w8 hbox hb;have BK474:=A_ hbox;have GW474:=gw_ hg HB;have GE474:=GW474;replace HB:=bs_ HB hb;clear hb hbox hg)|((with_reducible refine gd_ 3 rfl ?_);refine bx_ #[.slice A1_0 l1_0.length c1_0,.slice A1_1 l1_1.length c1_1,.bool a1_2,.int .i64 a1_3,.int .i64 a1_4,.int .i64 a1_5,.int .i64 a1_6,.string a1_7,.slice A1_8 l1_8.length c1_8,.bool a1_9,.int .i64 a1_10] 44 ?_;intro gb475 hg w9 hbox hb;have BK475:=A_ hbox;have GW475:=gw_ hg HB;have GE475:=GW475;obtain⟨NB474_475,NB475_474⟩:=nb_ BK474 hg;replace BK474:=kb_ BK474 hb;replace HB:=bs_ HB hb;clear hb hbox hg;have hnb10:=NB474_475.out;have hnc10:=NB475_474.out;have hcz11_0:w9.cell? ⟨gb474,0,none⟩=some (.slice A0_0 l0_0.length c0_0):=(blk_cell BK474.out 0).trans rfl;have hcz11_1:w9.cell? ⟨gb474,1,none⟩=some (.slice A0_1 l0_1.length c0_1):=(blk_cell BK474.out 1).trans rfl;have hcz11_2:w9.cell? ⟨gb474,2,none⟩=some (.bool a0_2):=(blk_cell BK474.out 2).trans rfl;have hcz11_3:w9.cell? ⟨gb474,3,none⟩=some (.int .i64 a0_3):=(blk_cell BK474.out 3).trans rfl;have hcz11_4:w9.cell? ⟨gb474,4,none⟩=some (.int .i64 a0_4):=(blk_cell BK474.out 4).trans rfl;have hcz11_5:w9.cell? ⟨gb474,5,none⟩=some (.int .i64 a0_5):=(blk_cell BK474.out 5).trans rfl;have hcz11_6:w9.cell? ⟨gb474,6,none⟩=some (.int .i64 a0_6):=(blk_cell BK474.out 6).trans rfl;have hcz11_7:w9.cell? ⟨gb474,7,none⟩=some (.string a0_7):=(blk_cell BK474.out 7).trans rfl;have hcz11_8:w9.cell? ⟨gb474,8,none⟩=some (.slice A0_8 l0_8.length c0_8):=(blk_cell BK474.out 8).trans rfl;have hcz11_9:w9.cell? ⟨gb474,9,none⟩=some (.bool a0_9):=(blk_cell BK474.out 9).trans rfl;have hcz11_10:w9.cell? ⟨gb474,10,none⟩=some (.int .i64 a0_10):=(blk_cell BK474.out 10).trans rfl;have hfz11_0:=blk_frozen BK474.out 0;have hfz11_1:=blk_frozen BK474.out 1;have hfz11_2:=blk_frozen BK474.out 2;have hfz11_3:=blk_frozen BK474.out 3;have hfz11_4:=blk_frozen BK474.out 4;have hfz11_5:=blk_frozen BK474.out 5;have hfz11_6:=blk_frozen BK474.out 6;have hfz11_7:=blk_frozen BK474.out 7;have hfz11_8:=blk_frozen BK474.out 8;have hfz11_9:=blk_frozen BK474.out 9;have hfz11_10:=blk_frozen BK474.out 10;have hcz12_0:w9.cell? ⟨gb475,0,none⟩=some (.slice A1_0 l1_0.length c1_0):=(blk_cell BK475.out 0).trans rfl;have hcz12_1:w9.cell? ⟨gb475,1,none⟩=some (.slice A1_1 l1_1.length c1_1):=(blk_cell BK475.out 1).trans rfl;have hcz12_2:w9.cell? ⟨gb475,2,none⟩=some (.bool a1_2):=(blk_cell BK475.out 2).trans rfl;have hcz12_3:w9.cell? ⟨gb475,3,none⟩=some (.int .i64 a1_3):=(blk_cell BK475.out 3).trans rfl;have hcz12_4:w9.cell? ⟨gb475,4,none⟩=some (.int .i64 a1_4):=(blk_cell BK475.out 4).trans rfl;have hcz12_5:w9.cell? ⟨gb475,5,none⟩=some (.int .i64 a1_5):=(blk_cell BK475.out 5).trans rfl;have hcz12_6:w9.cell? ⟨gb475,6,none⟩=some (.int .i64 a1_6):=(blk_cell BK475.out 6).trans rfl;have hcz12_7:w9.cell? ⟨gb475,7,none⟩=some (.string a1_7):=(blk_cell BK475.out 7).trans rfl;have hcz12_8:w9.cell? ⟨gb475,8,none⟩=some (.slice A1_8 l1_8.length c1_8):=(blk_cell BK475.out 8).trans rfl;have hcz12_9:w9.cell? ⟨gb475,9,none⟩=some (.bool a1_9):=(blk_cell BK475.out 9).trans rfl;have hcz12_10:w9.cell? ⟨gb475,10,none⟩=some (.int .i64 a1_10):=(blk_cell BK475.out 10).trans rfl;have hfz12_0:=blk_frozen BK475.out 0;have hfz12_1:=blk_frozen BK475.out 1;have hfz12_2:=blk_frozen BK475.out 2;have hfz12_3:=blk_frozen BK475.out 3;have hfz12_4:=blk_frozen BK475.out 4;have hfz12_5:=blk_frozen BK475.out 5;have hfz12_6:=blk_frozen BK475.out 6;have hfz12_7:=blk_frozen BK475.out 7;have hfz12_8:=blk_frozen BK475.out 8;have hfz12_9:=blk_frozen BK475.out 9;have hfz12_10:=blk_frozen BK475.out 10)|((with_reducible refine gc_ 16 rfl ?_);refine gm_ (some 9) Try.func16 (laws_eqModule.calls k _ _ l0_0 _ _ l0_1 a0_2 a0_3 a0_4 a0_5 _ _ l1_0 _ _ l1_1 a1_2 a1_3 a1_4 a1_5 true _ (cb_ HR0_0 HB) HC0_0.out (cb_ HR0_1 HB) HC0_1.out (cb_ HR1_0 HB) HC1_0.out (cb_ HR1_1 HB) HC1_1.out A3.out) ?_;intro w13 hb;replace BK474:=kb_ BK474 hb;replace BK475:=kb_ BK475 hb;replace HB:=bs_ HB hb;(try clear hb);have hcz14_0:w13.cell? ⟨gb474,0,none⟩=some (.slice A0_0 l0_0.length c0_0):=(blk_cell BK474.out 0).trans rfl;have hcz14_1:w13.cell? ⟨gb474,1,none⟩=some (.slice A0_1 l0_1.length c0_1):=(blk_cell BK474.out 1).trans rfl;have hcz14_2:w13.cell? ⟨gb474,2,none⟩=some (.bool a0_2):=(blk_cell BK474.out 2).trans rfl;have hcz14_3:w13.cell? ⟨gb474,3,none⟩=some (.int .i64 a0_3):=(blk_cell BK474.out 3).trans rfl;have hcz14_4:w13.cell? ⟨gb474,4,none⟩=some (.int .i64 a0_4):=(blk_cell BK474.out 4).trans rfl;have hcz14_5:w13.cell? ⟨gb474,5,none⟩=some (.int .i64 a0_5):=(blk_cell BK474.out 5).trans rfl;have hcz14_6:w13.cell? ⟨gb474,6,none⟩=some (.int .i64 a0_6):=(blk_cell BK474.out 6).trans rfl;have hcz14_7:w13.cell? ⟨gb474,7,none⟩=some (.string a0_7):=(blk_cell BK474.out 7).trans rfl;have hcz14_8:w13.cell? ⟨gb474,8,none⟩=some (.slice A0_8 l0_8.length c0_8):=(blk_cell BK474.out 8).trans rfl;have hcz14_9:w13.cell? ⟨gb474,9,none⟩=some (.bool a0_9):=(blk_cell BK474.out 9).trans rfl;have hcz14_10:w13.cell? ⟨gb474,10,none⟩=some (.int .i64 a0_10):=(blk_cell BK474.out 10).trans rfl;have hfz14_0:=blk_frozen BK474.out 0;have hfz14_1:=blk_frozen BK474.out 1;have hfz14_2:=blk_frozen BK474.out 2;have hfz14_3:=blk_frozen BK474.out 3;have hfz14_4:=blk_frozen BK474.out 4;have hfz14_5:=blk_frozen BK474.out 5;have hfz14_6:=blk_frozen BK474.out 6;have hfz14_7:=blk_frozen BK474.out 7;have hfz14_8:=blk_frozen BK474.out 8;have hfz14_9:=blk_frozen BK474.out 9;have hfz14_10:=blk_frozen BK474.out 10;have hcz15_0:w13.cell? ⟨gb475,0,none⟩=some (.slice A1_0 l1_0.length c1_0):=(blk_cell BK475.out 0).trans rfl;have hcz15_1:w13.cell? ⟨gb475,1,none⟩=some (.slice A1_1 l1_1.length c1_1):=(blk_cell BK475.out 1).trans rfl;have hcz15_2:w13.cell? ⟨gb475,2,none⟩=some (.bool a1_2):=(blk_cell BK475.out 2).trans rfl;have hcz15_3:w13.cell? ⟨gb475,3,none⟩=some (.int .i64 a1_3):=(blk_cell BK475.out 3).trans rfl;have hcz15_4:w13.cell? ⟨gb475,4,none⟩=some (.int .i64 a1_4):=(blk_cell BK475.out 4).trans rfl;have hcz15_5:w13.cell? ⟨gb475,5,none⟩=some (.int .i64 a1_5):=(blk_cell BK475.out 5).trans rfl;have hcz15_6:w13.cell? ⟨gb475,6,none⟩=some (.int .i64 a1_6):=(blk_cell BK475.out 6).trans rfl;have hcz15_7:w13.cell? ⟨gb475,7,none⟩=some (.string a1_7):=(blk_cell BK475.out 7).trans rfl;have hcz15_8:w13.cell? ⟨gb475,8,none⟩=some (.slice A1_8 l1_8.length c1_8):=(blk_cell BK475.out 8).trans rfl;have hcz15_9:w13.cell? ⟨gb475,9,none⟩=some (.bool a1_9):=(blk_cell BK475.out 9).trans rfl;have hcz15_10:w13.cell? ⟨gb475,10,none⟩=some (.int .i64 a1_10):=(blk_cell BK475.out 10).trans rfl;have hfz15_0:=blk_frozen BK475.out 0;have hfz15_1:=blk_frozen BK475.out 1;have hfz15_2:=blk_frozen BK475.out 2;have hfz15_3:=blk_frozen BK475.out 3;have hfz15_4:=blk_frozen BK475.out 4;have hfz15_5:=blk_frozen BK475.out 5;have hfz15_6:=blk_frozen BK475.out 6;have hfz15_7:=blk_frozen BK475.out 7;have hfz15_8:=blk_frozen BK475.out 8;have hfz15_9:=blk_frozen BK475.out 9;have hfz15_10:=blk_frozen BK475.out 10)|((with_reducible refine gc_ 17 rfl ?_);refine gm_ (some 15) Try.func17 (laws_eqState.calls k a0_6 a0_7 _ _ l0_8 a1_6 a1_7 _ _ l1_8 true _ (cb_ HR0_8 HB) HC0_8.out (cb_ HR1_8 HB) HC1_8.out A5.out) ?_;intro w16 hb;replace BK474:=kb_ BK474 hb;replace BK475:=kb_ BK475 hb;replace HB:=bs_ HB hb;(try clear hb);have hcz17_0:w16.cell? ⟨gb474,0,none⟩=some (.slice A0_0 l0_0.length c0_0):=(blk_cell BK474.out 0).trans rfl;have hcz17_1:w16.cell? ⟨gb474,1,none⟩=some (.slice A0_1 l0_1.length c0_1):=(blk_cell BK474.out 1).trans rfl;have hcz17_2:w16.cell? ⟨gb474,2,none⟩=some (.bool a0_2):=(blk_cell BK474.out 2).trans rfl;have hcz17_3:w16.cell? ⟨gb474,3,none⟩=some (.int .i64 a0_3):=(blk_cell BK474.out 3).trans rfl;have hcz17_4:w16.cell? ⟨gb474,4,none⟩=some (.int .i64 a0_4):=(blk_cell BK474.out 4).trans rfl;have hcz17_5:w16.cell? ⟨gb474,5,none⟩=some (.int .i64 a0_5):=(blk_cell BK474.out 5).trans rfl;have hcz17_6:w16.cell? ⟨gb474,6,none⟩=some (.int .i64 a0_6):=(blk_cell BK474.out 6).trans rfl;have hcz17_7:w16.cell? ⟨gb474,7,none⟩=some (.string a0_7):=(blk_cell BK474.out 7).trans rfl;have hcz17_8:w16.cell? ⟨gb474,8,none⟩=some (.slice A0_8 l0_8.length c0_8):=(blk_cell BK474.out 8).trans rfl;have hcz17_9:w16.cell? ⟨gb474,9,none⟩=some (.bool a0_9):=(blk_cell BK474.out 9).trans rfl;have hcz17_10:w16.cell? ⟨gb474,10,none⟩=some (.int .i64 a0_10):=(blk_cell BK474.out 10).trans rfl;have hfz17_0:=blk_frozen BK474.out 0;have hfz17_1:=blk_frozen BK474.out 1;have hfz17_2:=blk_frozen BK474.out 2;have hfz17_3:=blk_frozen BK474.out 3;have hfz17_4:=blk_frozen BK474.out 4;have hfz17_5:=blk_frozen BK474.out 5;have hfz17_6:=blk_frozen BK474.out 6;have hfz17_7:=blk_frozen BK474.out 7;have hfz17_8:=blk_frozen BK474.out 8;have hfz17_9:=blk_frozen BK474.out 9;have hfz17_10:=blk_frozen BK474.out 10;have hcz18_0:w16.cell? ⟨gb475,0,none⟩=some (.slice A1_0 l1_0.length c1_0):=(blk_cell BK475.out 0).trans rfl;have hcz18_1:w16.cell? ⟨gb475,1,none⟩=some (.slice A1_1 l1_1.length c1_1):=(blk_cell BK475.out 1).trans rfl;have hcz18_2:w16.cell? ⟨gb475,2,none⟩=some (.bool a1_2):=(blk_cell BK475.out 2).trans rfl;have hcz18_3:w16.cell? ⟨gb475,3,none⟩=some (.int .i64 a1_3):=(blk_cell BK475.out 3).trans rfl;have hcz18_4:w16.cell? ⟨gb475,4,none⟩=some (.int .i64 a1_4):=(blk_cell BK475.out 4).trans rfl;have hcz18_5:w16.cell? ⟨gb475,5,none⟩=some (.int .i64 a1_5):=(blk_cell BK475.out 5).trans rfl;have hcz18_6:w16.cell? ⟨gb475,6,none⟩=some (.int .i64 a1_6):=(blk_cell BK475.out 6).trans rfl;have hcz18_7:w16.cell? ⟨gb475,7,none⟩=some (.string a1_7):=(blk_cell BK475.out 7).trans rfl;have hcz18_8:w16.cell? ⟨gb475,8,none⟩=some (.slice A1_8 l1_8.length c1_8):=(blk_cell BK475.out 8).trans rfl;have hcz18_9:w16.cell? ⟨gb475,9,none⟩=some (.bool a1_9):=(blk_cell BK475.out 9).trans rfl;have hcz18_10:w16.cell? ⟨gb475,10,none⟩=some (.int .i64 a1_10):=(blk_cell BK475.out 10).trans rfl;have hfz18_0:=blk_frozen BK475.out 0;have hfz18_1:=blk_frozen BK475.out 1;have hfz18_2:=blk_frozen BK475.out 2;have hfz18_3:=blk_frozen BK475.out 3;have hfz18_4:=blk_frozen BK475.out 4;have hfz18_5:=blk_frozen BK475.out 5;have hfz18_6:=blk_frozen BK475.out 6;have hfz18_7:=blk_frozen BK475.out 7;have hfz18_8:=blk_frozen BK475.out 8;have hfz18_9:=blk_frozen BK475.out 9;have hfz18_10:=blk_frozen BK475.out 10)|((with_reducible refine gc_ 17 rfl ?_);refine gm_ (some 15) Try.func17 (laws_eqState.calls k a0_6 a0_7 _ _ l0_8 a1_6 a1_7 _ _ l1_8 false _ (cb_ HR0_8 HB) HC0_8.out (cb_ HR1_8 HB) HC1_8.out A5.out) ?_;intro w50 hb;replace BK474:=kb_ BK474 hb;replace BK475:=kb_ BK475 hb;replace HB:=bs_ HB hb;(try clear hb))|((with_reducible refine gc_ 16 rfl ?_);refine gm_ (some 9) Try.func16 (laws_eqModule.calls k _ _ l0_0 _ _ l0_1 a0_2 a0_3 a0_4 a0_5 _ _ l1_0 _ _ l1_1 a1_2 a1_3 a1_4 a1_5 false _ (cb_ HR0_0 HB) HC0_0.out (cb_ HR0_1 HB) HC0_1.out (cb_ HR1_0 HB) HC1_0.out (cb_ HR1_1 HB) HC1_1.out A3.out) ?_;intro w56 hb;replace BK474:=kb_ BK474 hb;replace BK475:=kb_ BK475 hb;replace HB:=bs_ HB hb;(try clear hb)))
  go_ret
  exact⟨rr_,bw HB.out⟩
end Go.Proofs.Ytanhbfhmgmjdgaa.Q

