-- Written by a program of this session; it walks the functions that the law reaches.
import Derived.Test.YtanhbfhmgmjdgaaQx0
import Derived.Test.YtanhbfhmgmjdgaaQx1
namespace Go.Proofs.Ytanhbfhmgmjdgaa.Q
open Go.RowKit Go.Proofs.YtanhbfhmgmjdgaaW.PrintWords Go.Proofs.YtanhbfhmgmjdgaaW.PrintLast Go.Proofs.YtanhbfhmgmjdgaaW.PrintMore
attribute [local go_sem] max2_int min2_int max_two min_two max_three min_three max_four min_four   -- for this text's walks alone
set_option linter.unusedVariables false
set_option linter.unusedSimpArgs false

/-! ### spec_l6Good: function 93 -/
def spec_l6Good.l0:Nat→List (S103)→List (S103)→Int→Int→Option (Bool)
 |0,_,_,_,_=>none
 |k+1,x0,x5,x6,x7=>if x7<x6 then (if 0≤x7 then (if x7<(x5.length:Int) then ((spec_GoodIns.f k ((rd_T103 x5 x7).f0) ((rd_T103 x5 x7).f1)).bind fun t130=>(if t130=true then (spec_l6Good.l0 k x0 x5 x6 (wrap64 (x7+1))) else (some false))) else (none)) else (none)) else (some (decide ((x0.length:Int)≤200)))
def spec_l6Good.f (k:Nat) (l0:List (S103)):Option (Bool):=spec_l6Good.l0 k l0 l0 (l0.length:Int) 0
set_option maxHeartbeats 8000000 in
set_option maxRecDepth 100000 in
theorem spec_l6Good.calls (k:Nat) (A0:Option Addr) (c0:Nat) (l0:List (S103)) (r:Bool) (w:World) (hr0:Kd.C k103 w A0 l0.length l0) (hc0:l0.length≤c0) (h:spec_l6Good.f k l0=some r):
  Calls Try.prog 93 #[.slice A0 l0.length c0] w fun e w'=>e=.returned (.bool r)∧Below w.heap.size w w':=by
 have hu103:=Try.underlying103
 have HR0:=A_ hr0
 have HC0:=A_ hc0
 clear hr0 hc0
 have HB:=A_ (Below.refl w.heap.size w)
 have H:(spec_l6Good.l0 k l0 l0 (l0.length:Int) 0)=some r:=h
 clear h
 have H':=A_ H
 clear H
 go_enter Try.func93,Try.ntmps93
 go_wp2
 (try simp only[Act.put,List.setIfInBounds_toArray,List.set_cons_zero,List.set_cons_succ])
 go_loopg [7] k (fun kq v7 w'=>∃ (x7_1:Int),v7=.int .i64 x7_1∧Aside0 (spec_l6Good.l0 kq l0 l0 (l0.length:Int) x7_1=some r)∧Aside0 (kq≤k)∧Aside0 (Below w.heap.size w w'))
 case atStart=>exact⟨(0),rs_,H',⟨Nat.le_refl _⟩,⟨bw HB.out⟩⟩
 case round=>
  clear H'
  obtain⟨x7_1,rfl,HA,HK1,HB⟩:=hrel
  cases gk with
  |zero=>exact absurd HA.out (by simp[spec_l6Good.l0])
  |succ k1=>
   have H:=HA.out
   clear HA
   simp only[spec_l6Good.l0] at H
   revert H
   refine iL_ (fun c2b0 H=>?_) (fun c2b0 H=>?_)
   ·
    replace H:=id_ H
    obtain⟨c3b0,H⟩:=H
    replace H:=id_ H
    obtain⟨c4b0,H⟩:=H
    replace H:=bA_ H
    obtain⟨t130,A5,H⟩:=H
    revert H
    refine iB_ (fun c6 H=>?_) (fun c6 H=>?_)<;>subst c6
    ·
     have H':=A_ H
     clear H
     have p128:0≤(x7_1:Int):=od_
     have q128:x7_1<(l0.length:Int):=od_
     obtain⟨ad128,e128,hx128_0,hx128_1⟩:=at_T103 HR0.out x7_1 p128 q128
     cases e128
     replace hx128_0:=cl_ HB.out hx128_0
     replace hx128_1:=cl_ HB.out hx128_1
     replace p128:=eq_true p128
     replace q128:=eq_true q128
     go_wp2_with (first|((with_reducible refine gd_ 4 rfl ?_);refine bx_ #[.int .i64 0,.int .i64 0] 103 ?_;intro gb129 hg w7 hbox hb;have BK129:=A_ hbox;have GW129:=gw_ hg HB;have GE129:=GW129;replace HB:=bs_ HB hb;clear hb hbox hg;obtain⟨hcz8_0,hcz8_1⟩:=cs2_ BK129.out;obtain⟨hfz8_0,hfz8_1⟩:=fz2_ BK129.out)|((with_reducible refine gc_ 98 rfl ?_);refine gm_ (some 12) Try.func98 (spec_GoodIns.calls k1 ((rd_T103 l0 x7_1).f0) ((rd_T103 l0 x7_1).f1) true _ A5.out) ?_;intro w9 hb;replace BK129:=A_ (blk_below (g:=gb129) (o:=.cells #[.int .i64 ((rd_T103 l0 x7_1).f0),.int .i64 ((rd_T103 l0 x7_1).f1)] 103 (0,0)) (by refine blk_put (cs:=#[.int .i64 ((rd_T103 l0 x7_1).f0),.int .i64 0]) ?_ 1 _ rfl;refine blk_put (cs:=#[.int .i64 0,.int .i64 0]) ?_ 0 _ rfl;(with_reducible repeat (first|refine blk_drewN ?_ _|refine blk_drew ?_|refine blk_alloc ?_ _));exact BK129.out) hb);replace HB:=bs_ HB hb;(try clear hb)))
     go_roundg k1
     case measure=>have:=HK1.out;omega
     case rel=>exact⟨(wrap64 (x7_1+1)),rs_,H',⟨by have:=HK1.out;omega⟩,⟨bw HB.out⟩⟩
    obtain rfl:=Option.some.inj H
    clear H
    have p128:0≤(x7_1:Int):=od_
    have q128:x7_1<(l0.length:Int):=od_
    obtain⟨ad128,e128,hx128_0,hx128_1⟩:=at_T103 HR0.out x7_1 p128 q128
    cases e128
    replace hx128_0:=cl_ HB.out hx128_0
    replace hx128_1:=cl_ HB.out hx128_1
    replace p128:=eq_true p128
    replace q128:=eq_true q128
    go_wp2_with (first|((with_reducible refine gd_ 4 rfl ?_);refine bx_ #[.int .i64 0,.int .i64 0] 103 ?_;intro gb129 hg w10 hbox hb;have BK129:=A_ hbox;have GW129:=gw_ hg HB;have GE129:=GW129;replace HB:=bs_ HB hb;clear hb hbox hg;obtain⟨hcz11_0,hcz11_1⟩:=cs2_ BK129.out;obtain⟨hfz11_0,hfz11_1⟩:=fz2_ BK129.out)|((with_reducible refine gc_ 98 rfl ?_);refine gm_ (some 12) Try.func98 (spec_GoodIns.calls k1 ((rd_T103 l0 x7_1).f0) ((rd_T103 l0 x7_1).f1) false _ A5.out) ?_;intro w12 hb;replace BK129:=A_ (blk_below (g:=gb129) (o:=.cells #[.int .i64 ((rd_T103 l0 x7_1).f0),.int .i64 ((rd_T103 l0 x7_1).f1)] 103 (0,0)) (by refine blk_put (cs:=#[.int .i64 ((rd_T103 l0 x7_1).f0),.int .i64 0]) ?_ 1 _ rfl;refine blk_put (cs:=#[.int .i64 0,.int .i64 0]) ?_ 0 _ rfl;(with_reducible repeat (first|refine blk_drewN ?_ _|refine blk_drew ?_|refine blk_alloc ?_ _));exact BK129.out) hb);replace HB:=bs_ HB hb;(try clear hb)))
    go_ret
    exact⟨rr_,bw HB.out⟩
   obtain rfl:=Option.some.inj H
   clear H
   go_wp2
   go_ret
   exact⟨rr_,bw HB.out⟩
end Go.Proofs.Ytanhbfhmgmjdgaa.Q

