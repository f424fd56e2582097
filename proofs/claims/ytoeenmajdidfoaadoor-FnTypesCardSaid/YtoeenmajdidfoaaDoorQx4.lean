-- Written by a program of this session; it walks the functions that the law reaches.
import Derived.Test.YtoeenmajdidfoaaDoorQx0
namespace Go.Proofs.YtoeenmajdidfoaaDoor.Q
open Go.RowKit Go.Proofs.YtoeenmajdidfoaaDoorW.PrintWords Go.Proofs.YtoeenmajdidfoaaDoorW.PrintLast Go.Proofs.YtoeenmajdidfoaaDoorW.PrintMore
attribute [local go_sem] max2_int min2_int max_two min_two max_three min_three max_four min_four   -- for this text's walks alone
set_option linter.unusedVariables false
set_option linter.unusedSimpArgs false

/-! ### impl_nodeOk: function 20 -/
mutual
def impl_nodeOk.j0:Nat→Int→Int→Bool→Int→Int→Int→Option (Bool)
 |0,_,_,_,_,_,_=>none
 |k+1,x1,x6,x7,x216000,x216001,x216002=>if x7=true then (if x216001=0 then (some (x1==1)) else (some false)) else (if x6=14 then (impl_nodeOk.j1 k x1 x6 (x6==14) x216000 x216001 x216002) else (impl_nodeOk.j1 k x1 x6 (x6==15) x216000 x216001 x216002))
def impl_nodeOk.j1:Nat→Int→Int→Bool→Int→Int→Int→Option (Bool)
 |0,_,_,_,_,_,_=>none
 |k+1,x1,x6,x17,x216000,x216001,x216002=>if x17=true then (if x216001=0 then (if x1≥1 then (some (decide (x1≤8))) else (some false)) else (some false)) else (if x6=18 then (if x216001=0 then (some (x1==2)) else (some false)) else (if x6=16 then (if x216001≥1 then (if x216001≤32 then (some (x1==0)) else (some false)) else (some false)) else (if x6=19 then (if x216001≥1 then (if x216001≤300 then (some (x1==0)) else (some false)) else (some false)) else (if x6=20 then (if x216001≥0 then (if x216001≤9 then (some (x1==0)) else (some false)) else (some false)) else (if x6=21 then (if x216001≥0 then (if x216001≤9 then (some (x1==0)) else (some false)) else (some false)) else (if x216000≥1 then (if x216000≤12 then (if x216001=0 then (some (x1==0)) else (some false)) else (some false)) else (some false)))))))
end
def impl_nodeOk.f (k:Nat) (a0_0:Int) (a0_1:Int) (a0_2:Int) (a1:Int):Option (Bool):=if a0_0=13 then (impl_nodeOk.j0 k a1 a0_0 (a0_0==13) a0_0 a0_1 a0_2) else (impl_nodeOk.j0 k a1 a0_0 (a0_0==17) a0_0 a0_1 a0_2)
set_option maxHeartbeats 8000000 in
set_option maxRecDepth 100000 in
theorem impl_nodeOk.calls (k:Nat) (a0_0:Int) (a0_1:Int) (a0_2:Int) (a1:Int) (r:Bool) (w:World) (h:impl_nodeOk.f k a0_0 a0_1 a0_2 a1=some r):
  Calls Tryd.prog 20 #[.agg #[.int .i64 a0_0,.int .i64 a0_1,.int .i64 a0_2],.int .i64 a1] w fun e w'=>e=.returned (.bool r)∧Below w.heap.size w w':=by
 have hu33:=Tryd.underlying33
 have HB:=A_ (Below.refl w.heap.size w)
 have H:(if a0_0=13 then (impl_nodeOk.j0 k a1 a0_0 (a0_0==13) a0_0 a0_1 a0_2) else (impl_nodeOk.j0 k a1 a0_0 (a0_0==17) a0_0 a0_1 a0_2))=some r:=h
 clear h
 have HC3:=A_ H
 clear H
 go_enter Tryd.func20,Tryd.ntmps20
 go_upto_if 7 with (first|((with_reducible refine gd_ 2 rfl ?_);refine bx_ #[.int .i64 a0_0,.int .i64 a0_1,.int .i64 a0_2] 33 ?_;intro gb215 hg w4 hbox hb;have BK215:=A_ hbox;have GW215:=gw_ hg HB;have GE215:=GW215;replace HB:=bs_ HB hb;clear hb hbox hg;obtain⟨hcz5_0,hcz5_1,hcz5_2⟩:=cs3_ BK215.out;obtain⟨hfz5_0,hfz5_1,hfz5_2⟩:=fz3_ BK215.out))
 (try simp only[Act.put,List.setIfInBounds_toArray,List.set_cons_zero,List.set_cons_succ])
 go_cut [7] (fun v7 wc=>∃ (kq:Nat) (x7_2:Bool),v7=.bool x7_2∧Aside0 (impl_nodeOk.j0 kq a1 a0_0 x7_2 a0_0 a0_1 a0_2=some r)∧Aside0 (kq≤k)∧Aside0 (wc.heap[gb215]? =some (.cells #[.int .i64 a0_0,.int .i64 a0_1,.int .i64 a0_2] 33 (0,0)))∧Aside0 (Below w.heap.size w wc))
 case first=>
  have H:=HC3.out
  clear HC3
  revert H
  refine iE_ (fun c6b0 c6b1 H=>?_) (fun c6 c6b0 c6b1 H=>?_)
  ·
   (first|rw[c6b0]|(simp only[i64_w,i32_w];rw[c6b0])|skip)
   have H':=A_ H
   clear H
   go_wp2
   go_meet
   case rel=>exact⟨_,((a0_0==13)),rs_,H',⟨by first|omega|exact Nat.le_refl _⟩,⟨bk BK215.out⟩,⟨bw HB.out⟩⟩
  (first|rw[c6b0]|(simp only[i64_w,i32_w];rw[c6b0])|skip)
  have H':=A_ H
  clear H
  go_wp2
  go_meet
  case rel=>exact⟨_,((a0_0==17)),rs_,H',⟨by first|omega|exact Nat.le_refl _⟩,⟨bk BK215.out⟩,⟨bw HB.out⟩⟩
 case rest=>
  clear HC3
  try clear hcz5_0 hcz5_1 hcz5_2 hfz5_0 hfz5_1 hfz5_2
  obtain⟨kq,x7_2,rfl,HA,HJ2,BK215,HB⟩:=hcut
  cases kq with
  |zero=>exact absurd HA.out (by simp[impl_nodeOk.j0])
  |succ kj2=>
   have H:=HA.out
   clear HA
   simp only[impl_nodeOk.j0] at H
   revert H
   refine iB_ (fun c7 H=>?_) (fun c7 H=>?_)<;>subst c7
   ·
    revert H
    refine iE_ (fun c8b0 c8b1 H=>?_) (fun c8 c8b0 c8b1 H=>?_)
    ·
     obtain rfl:=Option.some.inj H
     clear H
     obtain⟨hcz9_0,hcz9_1,hcz9_2⟩:=cs3_ BK215.out
     obtain⟨hfz9_0,hfz9_1,hfz9_2⟩:=fz3_ BK215.out
     go_wp2
     go_ret
     exact⟨rr_,bw HB.out⟩
    obtain rfl:=Option.some.inj H
    clear H
    obtain⟨hcz10_0,hcz10_1,hcz10_2⟩:=cs3_ BK215.out
    obtain⟨hfz10_0,hfz10_1,hfz10_2⟩:=fz3_ BK215.out
    go_wp2
    go_ret
    exact⟨rr_,bw HB.out⟩
   have HC11:=A_ H
   clear H
   go_upto_if 17 with (fail)
   go_cut [17] (fun v17 wc=>∃ (kq:Nat) (x17_10:Bool),v17=.bool x17_10∧Aside0 (impl_nodeOk.j1 kq a1 a0_0 x17_10 a0_0 a0_1 a0_2=some r)∧Aside0 (kq≤kj2)∧Aside0 (wc.heap[gb215]? =some (.cells #[.int .i64 a0_0,.int .i64 a0_1,.int .i64 a0_2] 33 (0,0)))∧Aside0 (Below w.heap.size w wc))
   case first=>
    have H:=HC11.out
    clear HC11
    revert H
    refine iE_ (fun c12b0 c12b1 H=>?_) (fun c12 c12b0 c12b1 H=>?_)
    ·
     (first|rw[c12b0]|(simp only[i64_w,i32_w];rw[c12b0])|skip)
     have H':=A_ H
     clear H
     go_wp2
     go_meet
     case rel=>exact⟨_,((a0_0==14)),rs_,H',⟨by have:=HJ2.out;first|omega|exact Nat.le_refl _⟩,⟨bk BK215.out⟩,⟨bw HB.out⟩⟩
    (first|rw[c12b0]|(simp only[i64_w,i32_w];rw[c12b0])|skip)
    have H':=A_ H
    clear H
    go_wp2
    go_meet
    case rel=>exact⟨_,((a0_0==15)),rs_,H',⟨by have:=HJ2.out;first|omega|exact Nat.le_refl _⟩,⟨bk BK215.out⟩,⟨bw HB.out⟩⟩
   case rest=>
    clear HC11
    try clear c7 hcz5_0 hcz5_1 hcz5_2 hfz5_0 hfz5_1 hfz5_2
    obtain⟨kq,x17_10,rfl,HA,HJ10,BK215,HB⟩:=hcut
    cases kq with
    |zero=>exact absurd HA.out (by simp[impl_nodeOk.j1])
    |succ kj10=>
     have H:=HA.out
     clear HA
     simp only[impl_nodeOk.j1] at H
     revert H
     refine iB_ (fun c13 H=>?_) (fun c13 H=>?_)<;>subst c13
     ·
      revert H
      refine iE_ (fun c14b0 c14b1 H=>?_) (fun c14 c14b0 c14b1 H=>?_)
      ·
       revert H
       refine iL_ (fun c15b0 H=>?_) (fun c15b0 H=>?_)
       ·
        obtain rfl:=Option.some.inj H
        clear H
        obtain⟨hcz16_0,hcz16_1,hcz16_2⟩:=cs3_ BK215.out
        obtain⟨hfz16_0,hfz16_1,hfz16_2⟩:=fz3_ BK215.out
        go_wp2
        go_ret
        exact⟨rr_,bw HB.out⟩
       obtain rfl:=Option.some.inj H
       clear H
       obtain⟨hcz17_0,hcz17_1,hcz17_2⟩:=cs3_ BK215.out
       obtain⟨hfz17_0,hfz17_1,hfz17_2⟩:=fz3_ BK215.out
       go_wp2
       go_ret
       exact⟨rr_,bw HB.out⟩
      obtain rfl:=Option.some.inj H
      clear H
      obtain⟨hcz18_0,hcz18_1,hcz18_2⟩:=cs3_ BK215.out
      obtain⟨hfz18_0,hfz18_1,hfz18_2⟩:=fz3_ BK215.out
      go_wp2
      go_ret
      exact⟨rr_,bw HB.out⟩
     revert H
     refine iE_ (fun c19b0 c19b1 H=>?_) (fun c19 c19b0 c19b1 H=>?_)
     ·
      revert H
      refine iE_ (fun c20b0 c20b1 H=>?_) (fun c20 c20b0 c20b1 H=>?_)
      ·
       obtain rfl:=Option.some.inj H
       clear H
       obtain⟨hcz21_0,hcz21_1,hcz21_2⟩:=cs3_ BK215.out
       obtain⟨hfz21_0,hfz21_1,hfz21_2⟩:=fz3_ BK215.out
       go_wp2
       go_ret
       exact⟨rr_,bw HB.out⟩
      obtain rfl:=Option.some.inj H
      clear H
      obtain⟨hcz22_0,hcz22_1,hcz22_2⟩:=cs3_ BK215.out
      obtain⟨hfz22_0,hfz22_1,hfz22_2⟩:=fz3_ BK215.out
      go_wp2
      go_ret
      exact⟨rr_,bw HB.out⟩
     revert H
     refine iE_ (fun c23b0 c23b1 H=>?_) (fun c23 c23b0 c23b1 H=>?_)
     ·
      revert H
      refine iL_ (fun c24b0 H=>?_) (fun c24b0 H=>?_)
      ·
       revert H
       refine iL_ (fun c25b0 H=>?_) (fun c25b0 H=>?_)
       ·
        obtain rfl:=Option.some.inj H
        clear H
        obtain⟨hcz26_0,hcz26_1,hcz26_2⟩:=cs3_ BK215.out
        obtain⟨hfz26_0,hfz26_1,hfz26_2⟩:=fz3_ BK215.out
        go_wp2
        go_ret
        exact⟨rr_,bw HB.out⟩
       obtain rfl:=Option.some.inj H
       clear H
       obtain⟨hcz27_0,hcz27_1,hcz27_2⟩:=cs3_ BK215.out
       obtain⟨hfz27_0,hfz27_1,hfz27_2⟩:=fz3_ BK215.out
       go_wp2
       go_ret
       exact⟨rr_,bw HB.out⟩
      obtain rfl:=Option.some.inj H
      clear H
      obtain⟨hcz28_0,hcz28_1,hcz28_2⟩:=cs3_ BK215.out
      obtain⟨hfz28_0,hfz28_1,hfz28_2⟩:=fz3_ BK215.out
      go_wp2
      go_ret
      exact⟨rr_,bw HB.out⟩
     revert H
     refine iE_ (fun c29b0 c29b1 H=>?_) (fun c29 c29b0 c29b1 H=>?_)
     ·
      revert H
      refine iL_ (fun c30b0 H=>?_) (fun c30b0 H=>?_)
      ·
       revert H
       refine iL_ (fun c31b0 H=>?_) (fun c31b0 H=>?_)
       ·
        obtain rfl:=Option.some.inj H
        clear H
        obtain⟨hcz32_0,hcz32_1,hcz32_2⟩:=cs3_ BK215.out
        obtain⟨hfz32_0,hfz32_1,hfz32_2⟩:=fz3_ BK215.out
        go_wp2
        go_ret
        exact⟨rr_,bw HB.out⟩
       obtain rfl:=Option.some.inj H
       clear H
       obtain⟨hcz33_0,hcz33_1,hcz33_2⟩:=cs3_ BK215.out
       obtain⟨hfz33_0,hfz33_1,hfz33_2⟩:=fz3_ BK215.out
       go_wp2
       go_ret
       exact⟨rr_,bw HB.out⟩
      obtain rfl:=Option.some.inj H
      clear H
      obtain⟨hcz34_0,hcz34_1,hcz34_2⟩:=cs3_ BK215.out
      obtain⟨hfz34_0,hfz34_1,hfz34_2⟩:=fz3_ BK215.out
      go_wp2
      go_ret
      exact⟨rr_,bw HB.out⟩
     revert H
     refine iE_ (fun c35b0 c35b1 H=>?_) (fun c35 c35b0 c35b1 H=>?_)
     ·
      revert H
      refine iL_ (fun c36b0 H=>?_) (fun c36b0 H=>?_)
      ·
       revert H
       refine iL_ (fun c37b0 H=>?_) (fun c37b0 H=>?_)
       ·
        obtain rfl:=Option.some.inj H
        clear H
        obtain⟨hcz38_0,hcz38_1,hcz38_2⟩:=cs3_ BK215.out
        obtain⟨hfz38_0,hfz38_1,hfz38_2⟩:=fz3_ BK215.out
        go_wp2
        go_ret
        exact⟨rr_,bw HB.out⟩
       obtain rfl:=Option.some.inj H
       clear H
       obtain⟨hcz39_0,hcz39_1,hcz39_2⟩:=cs3_ BK215.out
       obtain⟨hfz39_0,hfz39_1,hfz39_2⟩:=fz3_ BK215.out
       go_wp2
       go_ret
       exact⟨rr_,bw HB.out⟩
      obtain rfl:=Option.some.inj H
      clear H
      obtain⟨hcz40_0,hcz40_1,hcz40_2⟩:=cs3_ BK215.out
      obtain⟨hfz40_0,hfz40_1,hfz40_2⟩:=fz3_ BK215.out
      go_wp2
      go_ret
      exact⟨rr_,bw HB.out⟩
     revert H
     refine iE_ (fun c41b0 c41b1 H=>?_) (fun c41 c41b0 c41b1 H=>?_)
     ·
      revert H
      refine iL_ (fun c42b0 H=>?_) (fun c42b0 H=>?_)
      ·
       revert H
       refine iL_ (fun c43b0 H=>?_) (fun c43b0 H=>?_)
       ·
        obtain rfl:=Option.some.inj H
        clear H
        obtain⟨hcz44_0,hcz44_1,hcz44_2⟩:=cs3_ BK215.out
        obtain⟨hfz44_0,hfz44_1,hfz44_2⟩:=fz3_ BK215.out
        go_wp2
        go_ret
        exact⟨rr_,bw HB.out⟩
       obtain rfl:=Option.some.inj H
       clear H
       obtain⟨hcz45_0,hcz45_1,hcz45_2⟩:=cs3_ BK215.out
       obtain⟨hfz45_0,hfz45_1,hfz45_2⟩:=fz3_ BK215.out
       go_wp2
       go_ret
       exact⟨rr_,bw HB.out⟩
      obtain rfl:=Option.some.inj H
      clear H
      obtain⟨hcz46_0,hcz46_1,hcz46_2⟩:=cs3_ BK215.out
      obtain⟨hfz46_0,hfz46_1,hfz46_2⟩:=fz3_ BK215.out
      go_wp2
      go_ret
      exact⟨rr_,bw HB.out⟩
     revert H
     refine iL_ (fun c47b0 H=>?_) (fun c47b0 H=>?_)
     ·
      revert H
      refine iL_ (fun c48b0 H=>?_) (fun c48b0 H=>?_)
      ·
       revert H
       refine iE_ (fun c49b0 c49b1 H=>?_) (fun c49 c49b0 c49b1 H=>?_)
       ·
        obtain rfl:=Option.some.inj H
        clear H
        obtain⟨hcz50_0,hcz50_1,hcz50_2⟩:=cs3_ BK215.out
        obtain⟨hfz50_0,hfz50_1,hfz50_2⟩:=fz3_ BK215.out
        go_wp2
        go_ret
        exact⟨rr_,bw HB.out⟩
       obtain rfl:=Option.some.inj H
       clear H
       obtain⟨hcz51_0,hcz51_1,hcz51_2⟩:=cs3_ BK215.out
       obtain⟨hfz51_0,hfz51_1,hfz51_2⟩:=fz3_ BK215.out
       go_wp2
       go_ret
       exact⟨rr_,bw HB.out⟩
      obtain rfl:=Option.some.inj H
      clear H
      obtain⟨hcz52_0,hcz52_1,hcz52_2⟩:=cs3_ BK215.out
      obtain⟨hfz52_0,hfz52_1,hfz52_2⟩:=fz3_ BK215.out
      go_wp2
      go_ret
      exact⟨rr_,bw HB.out⟩
     obtain rfl:=Option.some.inj H
     clear H
     obtain⟨hcz53_0,hcz53_1,hcz53_2⟩:=cs3_ BK215.out
     obtain⟨hfz53_0,hfz53_1,hfz53_2⟩:=fz3_ BK215.out
     go_wp2
     go_ret
     exact⟨rr_,bw HB.out⟩
end Go.Proofs.YtoeenmajdidfoaaDoor.Q

