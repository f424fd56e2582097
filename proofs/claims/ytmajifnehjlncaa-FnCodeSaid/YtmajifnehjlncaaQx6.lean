-- Written by a program of this session; it walks the functions that the law reaches.
import Derived.Test.YtmajifnehjlncaaQx0
import Derived.Test.YtmajifnehjlncaaQx5
namespace Go.Proofs.Ytmajifnehjlncaa.Q
open Go.RowKit Go.Proofs.YtmajifnehjlncaaW.PrintWords Go.Proofs.YtmajifnehjlncaaW.PrintLast Go.Proofs.YtmajifnehjlncaaW.PrintMore
attribute [local go_sem] max2_int min2_int max_two min_two max_three min_three max_four min_four   -- for this text's walks alone
set_option linter.unusedVariables false
set_option linter.unusedSimpArgs false
set_option maxRecDepth 100000
set_option maxHeartbeats 8000000

/-! ### spec_GoodIns: function 32 -/
def spec_GoodIns.f (k:Nat) (a0_0:Int) (a0_1:Int):Option (Bool):=(spec_l6Shape.f k a0_0).bind fun t658=>(if t658=0 then (some (a0_1==0)) else (if t658=1 then ((spec_l6Type.f a0_1).bind fun t659=>(if t659=true then (some true) else (some (a0_1==64)))) else (if t658=2 then ((spec_l1In.f a0_1 0 1000).bind fun t660=>(some t660)) else (if t658=3 then ((spec_l1In.f a0_1 0 10000).bind fun t661=>(some t661)) else (if t658=4 then ((spec_l1In.f a0_1 (-2147483648) 2147483647).bind fun t662=>(some t662)) else (if t658=5 then (some true) else (if t658=6 then ((spec_l1In.f a0_1 0 4294967295).bind fun t663=>(some t663)) else (some false))))))))
theorem spec_GoodIns.calls (k:Nat) (a0_0:Int) (a0_1:Int) (r:Bool) (w:World) (h:spec_GoodIns.f k a0_0 a0_1=some r):
  Calls Try.prog 32 #[.agg #[.int .i64 a0_0,.int .i64 a0_1]] w fun e w'=>e=.returned (.bool r)∧Below w.heap.size w w':=by
 have hu37:=Try.underlying37
 have HB:=A_ (Below.refl w.heap.size w)
 have H:((spec_l6Shape.f k a0_0).bind fun t658=>(if t658=0 then (some (a0_1==0)) else (if t658=1 then ((spec_l6Type.f a0_1).bind fun t659=>(if t659=true then (some true) else (some (a0_1==64)))) else (if t658=2 then ((spec_l1In.f a0_1 0 1000).bind fun t660=>(some t660)) else (if t658=3 then ((spec_l1In.f a0_1 0 10000).bind fun t661=>(some t661)) else (if t658=4 then ((spec_l1In.f a0_1 (-2147483648) 2147483647).bind fun t662=>(some t662)) else (if t658=5 then (some true) else (if t658=6 then ((spec_l1In.f a0_1 0 4294967295).bind fun t663=>(some t663)) else (some false)))))))))=some r:=h
 clear h
 replace H:=bi_ H
 obtain⟨t658,A20,H⟩:=H
 have A2:=A_ A20
 clear A20
 by_cases c3:t658=0
 ·
  rw[if_pos c3] at H
  obtain⟨c3b0,c3b1⟩:=eT_ c3
  clear c3
  obtain rfl:=Option.some.inj H
  clear H
  go_enter Try.func32,Try.ntmps32
  go_wp2_with (first|((with_reducible refine gd_ 1 rfl ?_);refine bx_ #[.int .i64 a0_0,.int .i64 a0_1] 37 ?_;intro gb657 hg w4 hbox hb;have BK657:=A_ hbox;have GW657:=gw_ hg HB;have GE657:=GW657;replace HB:=bs_ HB hb;clear hb hbox hg;obtain⟨hcz5_0,hcz5_1⟩:=cs2_ BK657.out;obtain⟨hfz5_0,hfz5_1⟩:=fz2_ BK657.out)|((with_reducible refine gc_ 33 rfl ?_);refine gn_ (some 5) Try.func33 (spec_l6Shape.calls k a0_0 t658 _ A2.out) ?_;intro nd))
  go_ret
  exact⟨rr_,bw HB.out⟩
 rw[if_neg c3] at H
 obtain⟨c3b0,c3b1⟩:=eF_ c3
 by_cases c6:t658=1
 ·
  rw[if_pos c6] at H
  obtain⟨c6b0,c6b1⟩:=eT_ c6
  clear c6
  replace H:=bi_ H
  obtain⟨t659,A70,H⟩:=H
  have A7:=A_ A70
  clear A70
  by_cases c8:t659=true
  ·
   subst c8
   replace H:=iT_ H
   obtain rfl:=Option.some.inj H
   clear H
   go_enter Try.func32,Try.ntmps32
   go_wp2_with (first|((with_reducible refine gd_ 1 rfl ?_);refine bx_ #[.int .i64 a0_0,.int .i64 a0_1] 37 ?_;intro gb657 hg w9 hbox hb;have BK657:=A_ hbox;have GW657:=gw_ hg HB;have GE657:=GW657;replace HB:=bs_ HB hb;clear hb hbox hg;obtain⟨hcz10_0,hcz10_1⟩:=cs2_ BK657.out;obtain⟨hfz10_0,hfz10_1⟩:=fz2_ BK657.out)|((with_reducible refine gc_ 33 rfl ?_);refine gn_ (some 5) Try.func33 (spec_l6Shape.calls k a0_0 t658 _ A2.out) ?_;intro nd)|((with_reducible refine gc_ 43 rfl ?_);refine gn_ (some 15) Try.func43 (spec_l6Type.calls a0_1 true _ A7.out) ?_;intro nd))
   go_ret
   exact⟨rr_,bw HB.out⟩
  replace c8:=Bool.eq_false_iff.mpr c8
  subst c8
  replace H:=iF_ H
  obtain rfl:=Option.some.inj H
  clear H
  go_enter Try.func32,Try.ntmps32
  go_wp2_with (first|((with_reducible refine gd_ 1 rfl ?_);refine bx_ #[.int .i64 a0_0,.int .i64 a0_1] 37 ?_;intro gb657 hg w11 hbox hb;have BK657:=A_ hbox;have GW657:=gw_ hg HB;have GE657:=GW657;replace HB:=bs_ HB hb;clear hb hbox hg;obtain⟨hcz12_0,hcz12_1⟩:=cs2_ BK657.out;obtain⟨hfz12_0,hfz12_1⟩:=fz2_ BK657.out)|((with_reducible refine gc_ 33 rfl ?_);refine gn_ (some 5) Try.func33 (spec_l6Shape.calls k a0_0 t658 _ A2.out) ?_;intro nd)|((with_reducible refine gc_ 43 rfl ?_);refine gn_ (some 15) Try.func43 (spec_l6Type.calls a0_1 false _ A7.out) ?_;intro nd))
  go_ret
  exact⟨rr_,bw HB.out⟩
 rw[if_neg c6] at H
 obtain⟨c6b0,c6b1⟩:=eF_ c6
 by_cases c13:t658=2
 ·
  rw[if_pos c13] at H
  obtain⟨c13b0,c13b1⟩:=eT_ c13
  clear c13
  replace H:=bi_ H
  obtain⟨t660,A140,H⟩:=H
  have A14:=A_ A140
  clear A140
  obtain rfl:=Option.some.inj H
  clear H
  go_enter Try.func32,Try.ntmps32
  go_wp2_with (first|((with_reducible refine gd_ 1 rfl ?_);refine bx_ #[.int .i64 a0_0,.int .i64 a0_1] 37 ?_;intro gb657 hg w15 hbox hb;have BK657:=A_ hbox;have GW657:=gw_ hg HB;have GE657:=GW657;replace HB:=bs_ HB hb;clear hb hbox hg;obtain⟨hcz16_0,hcz16_1⟩:=cs2_ BK657.out;obtain⟨hfz16_0,hfz16_1⟩:=fz2_ BK657.out)|((with_reducible refine gc_ 33 rfl ?_);refine gn_ (some 5) Try.func33 (spec_l6Shape.calls k a0_0 t658 _ A2.out) ?_;intro nd)|((with_reducible refine gc_ 44 rfl ?_);refine gn_ (some 25) Try.func44 (spec_l1In.calls a0_1 0 1000 t660 _ A14.out) ?_;intro nd))
  go_ret
  exact⟨rr_,bw HB.out⟩
 rw[if_neg c13] at H
 obtain⟨c13b0,c13b1⟩:=eF_ c13
 by_cases c17:t658=3
 ·
  rw[if_pos c17] at H
  obtain⟨c17b0,c17b1⟩:=eT_ c17
  clear c17
  replace H:=bi_ H
  obtain⟨t661,A180,H⟩:=H
  have A18:=A_ A180
  clear A180
  obtain rfl:=Option.some.inj H
  clear H
  go_enter Try.func32,Try.ntmps32
  go_wp2_with (first|((with_reducible refine gd_ 1 rfl ?_);refine bx_ #[.int .i64 a0_0,.int .i64 a0_1] 37 ?_;intro gb657 hg w19 hbox hb;have BK657:=A_ hbox;have GW657:=gw_ hg HB;have GE657:=GW657;replace HB:=bs_ HB hb;clear hb hbox hg;obtain⟨hcz20_0,hcz20_1⟩:=cs2_ BK657.out;obtain⟨hfz20_0,hfz20_1⟩:=fz2_ BK657.out)|((with_reducible refine gc_ 33 rfl ?_);refine gn_ (some 5) Try.func33 (spec_l6Shape.calls k a0_0 t658 _ A2.out) ?_;intro nd)|((with_reducible refine gc_ 44 rfl ?_);refine gn_ (some 30) Try.func44 (spec_l1In.calls a0_1 0 10000 t661 _ A18.out) ?_;intro nd))
  go_ret
  exact⟨rr_,bw HB.out⟩
 rw[if_neg c17] at H
 obtain⟨c17b0,c17b1⟩:=eF_ c17
 by_cases c21:t658=4
 ·
  rw[if_pos c21] at H
  obtain⟨c21b0,c21b1⟩:=eT_ c21
  clear c21
  replace H:=bi_ H
  obtain⟨t662,A220,H⟩:=H
  have A22:=A_ A220
  clear A220
  obtain rfl:=Option.some.inj H
  clear H
  go_enter Try.func32,Try.ntmps32
  go_wp2_with (first|((with_reducible refine gd_ 1 rfl ?_);refine bx_ #[.int .i64 a0_0,.int .i64 a0_1] 37 ?_;intro gb657 hg w23 hbox hb;have BK657:=A_ hbox;have GW657:=gw_ hg HB;have GE657:=GW657;replace HB:=bs_ HB hb;clear hb hbox hg;obtain⟨hcz24_0,hcz24_1⟩:=cs2_ BK657.out;obtain⟨hfz24_0,hfz24_1⟩:=fz2_ BK657.out)|((with_reducible refine gc_ 33 rfl ?_);refine gn_ (some 5) Try.func33 (spec_l6Shape.calls k a0_0 t658 _ A2.out) ?_;intro nd)|((with_reducible refine gc_ 44 rfl ?_);refine gn_ (some 35) Try.func44 (spec_l1In.calls a0_1 (-2147483648) 2147483647 t662 _ A22.out) ?_;intro nd))
  go_ret
  exact⟨rr_,bw HB.out⟩
 rw[if_neg c21] at H
 obtain⟨c21b0,c21b1⟩:=eF_ c21
 by_cases c25:t658=5
 ·
  rw[if_pos c25] at H
  obtain⟨c25b0,c25b1⟩:=eT_ c25
  clear c25
  obtain rfl:=Option.some.inj H
  clear H
  go_enter Try.func32,Try.ntmps32
  go_wp2_with (first|((with_reducible refine gd_ 1 rfl ?_);refine bx_ #[.int .i64 a0_0,.int .i64 a0_1] 37 ?_;intro gb657 hg w26 hbox hb;have BK657:=A_ hbox;have GW657:=gw_ hg HB;have GE657:=GW657;replace HB:=bs_ HB hb;clear hb hbox hg;obtain⟨hcz27_0,hcz27_1⟩:=cs2_ BK657.out;obtain⟨hfz27_0,hfz27_1⟩:=fz2_ BK657.out)|((with_reducible refine gc_ 33 rfl ?_);refine gn_ (some 5) Try.func33 (spec_l6Shape.calls k a0_0 t658 _ A2.out) ?_;intro nd))
  go_ret
  exact⟨rr_,bw HB.out⟩
 rw[if_neg c25] at H
 obtain⟨c25b0,c25b1⟩:=eF_ c25
 by_cases c28:t658=6
 ·
  rw[if_pos c28] at H
  obtain⟨c28b0,c28b1⟩:=eT_ c28
  clear c28
  replace H:=bi_ H
  obtain⟨t663,A290,H⟩:=H
  have A29:=A_ A290
  clear A290
  obtain rfl:=Option.some.inj H
  clear H
  go_enter Try.func32,Try.ntmps32
  go_wp2_with (first|((with_reducible refine gd_ 1 rfl ?_);refine bx_ #[.int .i64 a0_0,.int .i64 a0_1] 37 ?_;intro gb657 hg w30 hbox hb;have BK657:=A_ hbox;have GW657:=gw_ hg HB;have GE657:=GW657;replace HB:=bs_ HB hb;clear hb hbox hg;obtain⟨hcz31_0,hcz31_1⟩:=cs2_ BK657.out;obtain⟨hfz31_0,hfz31_1⟩:=fz2_ BK657.out)|((with_reducible refine gc_ 33 rfl ?_);refine gn_ (some 5) Try.func33 (spec_l6Shape.calls k a0_0 t658 _ A2.out) ?_;intro nd)|((with_reducible refine gc_ 44 rfl ?_);refine gn_ (some 42) Try.func44 (spec_l1In.calls a0_1 0 4294967295 t663 _ A29.out) ?_;intro nd))
  go_ret
  exact⟨rr_,bw HB.out⟩
 rw[if_neg c28] at H
 obtain⟨c28b0,c28b1⟩:=eF_ c28
 obtain rfl:=Option.some.inj H
 clear H
 go_enter Try.func32,Try.ntmps32
 go_wp2_with (first|((with_reducible refine gd_ 1 rfl ?_);refine bx_ #[.int .i64 a0_0,.int .i64 a0_1] 37 ?_;intro gb657 hg w32 hbox hb;have BK657:=A_ hbox;have GW657:=gw_ hg HB;have GE657:=GW657;replace HB:=bs_ HB hb;clear hb hbox hg;obtain⟨hcz33_0,hcz33_1⟩:=cs2_ BK657.out;obtain⟨hfz33_0,hfz33_1⟩:=fz2_ BK657.out)|((with_reducible refine gc_ 33 rfl ?_);refine gn_ (some 5) Try.func33 (spec_l6Shape.calls k a0_0 t658 _ A2.out) ?_;intro nd))
 go_ret
 exact⟨rr_,bw HB.out⟩

/-! ### spec_l6Good: function 21 -/
def spec_l6Good.l0:Nat→List (S37)→List (S37)→Int→Int→Option (Bool)
 |0,_,_,_,_=>none
 |k+1,x0,x5,x6,x7=>if x7<x6 then (if 0≤x7 then (if x7<(x5.length:Int) then ((spec_GoodIns.f k ((rd_T37 x5 x7).f0) ((rd_T37 x5 x7).f1)).bind fun t666=>(if t666=true then (spec_l6Good.l0 k x0 x5 x6 (wrap64 (x7+1))) else (some false))) else (none)) else (none)) else (some (decide ((x0.length:Int)≤200)))
def spec_l6Good.f (k:Nat) (l0:List (S37)):Option (Bool):=spec_l6Good.l0 k l0 l0 (l0.length:Int) 0
theorem spec_l6Good.calls (k:Nat) (A0:Option Addr) (c0:Nat) (l0:List (S37)) (r:Bool) (w:World) (hr0:Kd.C k37 w A0 l0.length l0) (hc0:l0.length≤c0) (h:spec_l6Good.f k l0=some r):
  Calls Try.prog 21 #[.slice A0 l0.length c0] w fun e w'=>e=.returned (.bool r)∧Below w.heap.size w w':=by
 have hu37:=Try.underlying37
 have HR0:=A_ hr0
 have HC0:=A_ hc0
 clear hr0 hc0
 have HB:=A_ (Below.refl w.heap.size w)
 have H:(spec_l6Good.l0 k l0 l0 (l0.length:Int) 0)=some r:=h
 clear h
 have H':=A_ H
 clear H
 go_enter Try.func21,Try.ntmps21
 go_wp2
 (try simp only[Act.put,List.setIfInBounds_toArray,List.set_cons_zero,List.set_cons_succ])
 go_loopg [7] k (fun kq v7 w'=>∃ (x7_1:Int),v7=.int .i64 x7_1∧Aside0 (spec_l6Good.l0 kq l0 l0 (l0.length:Int) x7_1=some r)∧Aside0 (kq≤k)∧Aside0 (Below w.heap.size w w'))
 case atStart=>exact⟨(0),rs_,H',⟨Nat.le_refl _⟩,⟨bw HB.out⟩⟩
 case round=>
  clear H'
  obtain⟨x7_1,rfl,HA,HK1,HB⟩:=hrel
  cases gk with
  |zero=>exact absurd HA.out (by simp[spec_l6Good.l0])
  |succ k1=>
   have H:=HA.out
   clear HA
   simp only[spec_l6Good.l0] at H
   by_cases c2:x7_1<(l0.length:Int)
   ·
    rw[if_pos c2] at H
    have c2b0:=decide_eq_true c2
    clear c2
    by_cases c3:0≤x7_1
    ·
     rw[if_pos c3] at H
     have c3b0:=decide_eq_true c3
     clear c3
     by_cases c4:x7_1<(l0.length:Int)
     ·
      rw[if_pos c4] at H
      have c4b0:=decide_eq_true c4
      clear c4
      replace H:=bi_ H
      obtain⟨t666,A50,H⟩:=H
      have A5:=A_ A50
      clear A50
      by_cases c6:t666=true
      ·
       subst c6
       replace H:=iT_ H
       have H':=A_ H
       clear H
       have p664:0≤(x7_1:Int):=od_
       have q664:x7_1<(l0.length:Int):=od_
       obtain⟨ad664,e664,hx664_0,hx664_1⟩:=at_T37 HR0.out x7_1 p664 q664
       cases e664
       replace hx664_0:=cl_ HB.out hx664_0
       replace hx664_1:=cl_ HB.out hx664_1
       replace p664:=eq_true p664
       replace q664:=eq_true q664
       go_wp2_with (first|((with_reducible refine gd_ 4 rfl ?_);refine bx_ #[.int .i64 0,.int .i64 0] 37 ?_;intro gb665 hg w7 hbox hb;have BK665:=A_ hbox;have GW665:=gw_ hg HB;have GE665:=GW665;replace HB:=bs_ HB hb;clear hb hbox hg;obtain⟨hcz8_0,hcz8_1⟩:=cs2_ BK665.out;obtain⟨hfz8_0,hfz8_1⟩:=fz2_ BK665.out)|((with_reducible refine gc_ 32 rfl ?_);refine gm_ (some 12) Try.func32 (spec_GoodIns.calls k1 ((rd_T37 l0 x7_1).f0) ((rd_T37 l0 x7_1).f1) true _ A5.out) ?_;intro w9 hb;replace BK665:=A_ (blk_below (g:=gb665) (o:=.cells #[.int .i64 ((rd_T37 l0 x7_1).f0),.int .i64 ((rd_T37 l0 x7_1).f1)] 37 (0,0)) (by refine blk_put (cs:=#[.int .i64 ((rd_T37 l0 x7_1).f0),.int .i64 0]) ?_ 1 _ rfl;refine blk_put (cs:=#[.int .i64 0,.int .i64 0]) ?_ 0 _ rfl;(with_reducible repeat (first|refine blk_drewN ?_ _|refine blk_drew ?_|refine blk_alloc ?_ _));exact BK665.out) hb);replace HB:=bs_ HB hb;(try clear hb)))
       go_roundg k1
       case measure=>have:=HK1.out;omega
       case rel=>exact⟨(wrap64 (x7_1+1)),rs_,H',⟨by have:=HK1.out;omega⟩,⟨bw HB.out⟩⟩
      replace c6:=Bool.eq_false_iff.mpr c6
      subst c6
      replace H:=iF_ H
      obtain rfl:=Option.some.inj H
      clear H
      have p664:0≤(x7_1:Int):=od_
      have q664:x7_1<(l0.length:Int):=od_
      obtain⟨ad664,e664,hx664_0,hx664_1⟩:=at_T37 HR0.out x7_1 p664 q664
      cases e664
      replace hx664_0:=cl_ HB.out hx664_0
      replace hx664_1:=cl_ HB.out hx664_1
      replace p664:=eq_true p664
      replace q664:=eq_true q664
      go_wp2_with (first|((with_reducible refine gd_ 4 rfl ?_);refine bx_ #[.int .i64 0,.int .i64 0] 37 ?_;intro gb665 hg w10 hbox hb;have BK665:=A_ hbox;have GW665:=gw_ hg HB;have GE665:=GW665;replace HB:=bs_ HB hb;clear hb hbox hg;obtain⟨hcz11_0,hcz11_1⟩:=cs2_ BK665.out;obtain⟨hfz11_0,hfz11_1⟩:=fz2_ BK665.out)|((with_reducible refine gc_ 32 rfl ?_);refine gm_ (some 12) Try.func32 (spec_GoodIns.calls k1 ((rd_T37 l0 x7_1).f0) ((rd_T37 l0 x7_1).f1) false _ A5.out) ?_;intro w12 hb;replace BK665:=A_ (blk_below (g:=gb665) (o:=.cells #[.int .i64 ((rd_T37 l0 x7_1).f0),.int .i64 ((rd_T37 l0 x7_1).f1)] 37 (0,0)) (by refine blk_put (cs:=#[.int .i64 ((rd_T37 l0 x7_1).f0),.int .i64 0]) ?_ 1 _ rfl;refine blk_put (cs:=#[.int .i64 0,.int .i64 0]) ?_ 0 _ rfl;(with_reducible repeat (first|refine blk_drewN ?_ _|refine blk_drew ?_|refine blk_alloc ?_ _));exact BK665.out) hb);replace HB:=bs_ HB hb;(try clear hb)))
      go_ret
      exact⟨rr_,bw HB.out⟩
     rw[if_neg c4] at H
     exact absurd H (by simp)
    rw[if_neg c3] at H
    exact absurd H (by simp)
   rw[if_neg c2] at H
   have c2b0:=decide_eq_false c2
   clear c2
   obtain rfl:=Option.some.inj H
   clear H
   go_wp2
   go_ret
   exact⟨rr_,bw HB.out⟩

/-! ### spec_l1Uleb: function 34 -/
def spec_l1Uleb.l0:Nat→Int→List Int→Option (ByteArray)
 |0,_,_=>none
 |k+1,x0,x3=>if x0 > 127 then (if x3.length<140737488355328 then (spec_l1Uleb.l0 k (x0 / 128) (x3++[(Go.bits .or .u64 (Go.bits .and .u64 x0 127) 128) % 256])) else (none)) else (if x3.length<140737488355328 then (some (strOfNums (x3++[(x0) % 256]))) else (none))
def spec_l1Uleb.f (k:Nat) (a0:Int):Option (ByteArray):=spec_l1Uleb.l0 k a0 ([]:List Int)
theorem spec_l1Uleb.calls (k:Nat) (a0:Int) (r:ByteArray) (w:World) (h:spec_l1Uleb.f k a0=some r):
  Calls Try.prog 34 #[.int .u64 a0] w fun e w'=>e=.returned (.string r)∧Below w.heap.size w w':=by
 have HB:=A_ (Below.refl w.heap.size w)
 have H:(spec_l1Uleb.l0 k a0 ([]:List Int))=some r:=h
 clear h
 have H':=A_ H
 clear H
 go_enter Try.func34,Try.ntmps34
 go_wp2
 (try simp only[Act.put,List.setIfInBounds_toArray,List.set_cons_zero,List.set_cons_succ])
 go_loopg [0,3] k (fun kq v0 v3 w'=>∃ (x0_1:Int) (x3_1:List Int),v0=.int .u64 x0_1∧Aside0 (spec_l1Uleb.l0 kq x0_1 x3_1=some r)∧Aside0 (kq≤k)∧Aside0 (Kd.R (Kd.int .u8) 5 w' w.heap.size (fun _=>True) v3 x3_1)∧Aside0 (Below w.heap.size w w'))
 case atStart=>exact⟨(a0),(([]:List Int)),rs_,H',⟨Nat.le_refl _⟩,⟨by first|exact Kd.R_nil _ _ _ _ _|exact Kd.N_nil _ _ _ _ _|exact Kd.V_nil _ _ _ _ _|exact Kd.Q_nil _ _ _ _ _|exact Kd.S_nil _ _ _ _ _⟩,⟨bw HB.out⟩⟩
 case round=>
  clear H'
  obtain⟨x0_1,x3_1,rfl,HA,HK1,HO_3,HB⟩:=hrel
  cases gk with
  |zero=>exact absurd HA.out (by simp[spec_l1Uleb.l0])
  |succ k1=>
   have H:=HA.out
   clear HA
   simp only[spec_l1Uleb.l0] at H
   by_cases c2:x0_1 > 127
   ·
    rw[if_pos c2] at H
    have c2b0:=decide_eq_true c2
    clear c2
    by_cases c3:x3_1.length<140737488355328
    ·
     rw[if_pos c3] at H
     have LMc3:=A_ c3
     clear c3
     obtain⟨y667,hy667⟩:∃ y_:List Int,y_=(x3_1++[(Go.bits .or .u64 (Go.bits .and .u64 x0_1 127) 128) % 256]):=⟨_,rfl⟩
     replace H:(spec_l1Uleb.l0 k1 (x0_1 / 128) y667)=some r:=by first|(rw[hy667];with_reducible exact H)|(have H2_:=(Option.bind_some _ _).symm.trans H;rw[hy667];with_reducible exact H2_)|(have H2_:=(Option.bind_some _ _).symm.trans H;with_reducible exact H2_)|with_reducible exact H|(rw[hy667];exact H)|exact H
     have Ny667:=A_ hy667
     clear hy667
     have H':=A_ H
     clear H
     go_wp2_with (first|((with_reducible refine gate_builtin (b:=.append) (xs:=#[.tmp 6,.tmp 11]) rfl ?_);at_builtin;refine Kd.R_append (Kd.int .u8) (w0:=w) w.heap.size rfl (.tmp 6) (.tmp 11) 22 5 (.int .u8 0) 1 rfl Try.underlying22 info5 rfl (by decide) (by omega) u3 x3_1 ((Go.bits .or .u64 (Go.bits .and .u64 x0_1 127) 128) % 256) [.int .u8 ((Go.bits .or .u64 (Go.bits .and .u64 x0_1 127) 128) % 256)] (fun _=>True) (fun _=>False) rfl rfl ?aP (fun _ hk=>hk.elim) ?aF ?aO ?aB ?aS ?aL ?_;(case aP=>exact rfl);(case aB=>exact(bw HB.out));(case aF=>exact(fun _ _=>trivial));(case aO=>exact(kr_ HO_3.out));(case aS=>exact(below_size (bw HB.out)));(case aL=>have:=LMc3.out;omega);intro v668 w4 ho hb hg hat;rw[←Ny667.out] at ho;have HO669:=A_ (ho);replace HB:=A_ (hb);clear HO_3;clear ho hb hg hat))
     go_roundg k1
     case measure=>have:=HK1.out;omega
     case rel=>exact⟨(x0_1 / 128),(y667),rs_,H',⟨by have:=HK1.out;omega⟩,⟨kr_ HO669.out⟩,⟨bw HB.out⟩⟩
    rw[if_neg c3] at H
    exact absurd H (by simp)
   rw[if_neg c2] at H
   have c2b0:=decide_eq_false c2
   clear c2
   by_cases c5:x3_1.length<140737488355328
   ·
    rw[if_pos c5] at H
    have LMc5:=A_ c5
    clear c5
    obtain⟨y670,hy670⟩:∃ y_:List Int,y_=(x3_1++[(x0_1) % 256]):=⟨_,rfl⟩
    replace H:(some (strOfNums y670))=some r:=by first|(rw[hy670];with_reducible exact H)|(have H2_:=(Option.bind_some _ _).symm.trans H;rw[hy670];with_reducible exact H2_)|(have H2_:=(Option.bind_some _ _).symm.trans H;with_reducible exact H2_)|with_reducible exact H|(rw[hy670];exact H)|exact H
    have Ny670:=A_ hy670
    clear hy670
    obtain rfl:=Option.some.inj H
    clear H
    go_wp2_with (first|((with_reducible refine gate_builtin (b:=.append) (xs:=#[.tmp 15,.tmp 18]) rfl ?_);at_builtin;refine Kd.R_append (Kd.int .u8) (w0:=w) w.heap.size rfl (.tmp 15) (.tmp 18) 22 5 (.int .u8 0) 1 rfl Try.underlying22 info5 rfl (by decide) (by omega) u3 x3_1 ((x0_1) % 256) [.int .u8 ((x0_1) % 256)] (fun _=>True) (fun _=>False) rfl rfl ?aP (fun _ hk=>hk.elim) ?aF ?aO ?aB ?aS ?aL ?_;(case aP=>exact rfl);(case aB=>exact(bw HB.out));(case aF=>exact(fun _ _=>trivial));(case aO=>exact(kr_ HO_3.out));(case aS=>exact(below_size (bw HB.out)));(case aL=>have:=LMc5.out;omega);intro v671 w6 ho hb hg hat;rw[←Ny670.out] at ho;have HO672:=A_ (ho);replace HB:=A_ (hb);clear HO_3;clear ho hb hg hat;have hcv7:=own_string (P:=Try.prog) Try.underlying22 Try.underlying5 Try.underlying9 (Kd.own_of_R HO672.out)))
    go_ret
    exact⟨rr_,bw HB.out⟩
   rw[if_neg c5] at H
   exact absurd H (by simp)

/-! ### spec_l1Sleb: function 35 -/
def spec_l1Sleb.l0:Nat→Int→List Int→Option (ByteArray)
 |0,_,_=>none
 |k+1,x0,x3=>if (x0 / 128)=0 then (if (Go.bits .and .u8 ((Go.bits .and .i64 x0 127) % 256) 64)=0 then (if x3.length<140737488355328 then (some (strOfNums (x3++[(Go.bits .and .i64 x0 127) % 256]))) else (none)) else (if (x0 / 128)=(-1) then (if x3.length<140737488355328 then (some (strOfNums (x3++[(Go.bits .and .i64 x0 127) % 256]))) else (none)) else (if x3.length<140737488355328 then (spec_l1Sleb.l0 k (x0 / 128) (x3++[Go.bits .or .u8 ((Go.bits .and .i64 x0 127) % 256) 128])) else (none)))) else (if (x0 / 128)=(-1) then (if (Go.bits .and .u8 ((Go.bits .and .i64 x0 127) % 256) 64)=0 then (if x3.length<140737488355328 then (spec_l1Sleb.l0 k (x0 / 128) (x3++[Go.bits .or .u8 ((Go.bits .and .i64 x0 127) % 256) 128])) else (none)) else (if x3.length<140737488355328 then (some (strOfNums (x3++[(Go.bits .and .i64 x0 127) % 256]))) else (none))) else (if x3.length<140737488355328 then (spec_l1Sleb.l0 k (x0 / 128) (x3++[Go.bits .or .u8 ((Go.bits .and .i64 x0 127) % 256) 128])) else (none)))
def spec_l1Sleb.f (k:Nat) (a0:Int):Option (ByteArray):=spec_l1Sleb.l0 k a0 ([]:List Int)
theorem spec_l1Sleb.calls (k:Nat) (a0:Int) (r:ByteArray) (w:World) (h:spec_l1Sleb.f k a0=some r):
  Calls Try.prog 35 #[.int .i64 a0] w fun e w'=>e=.returned (.string r)∧Below w.heap.size w w':=by
 have HB:=A_ (Below.refl w.heap.size w)
 have H:(spec_l1Sleb.l0 k a0 ([]:List Int))=some r:=h
 clear h
 have H':=A_ H
 clear H
 go_enter Try.func35,Try.ntmps35
 go_wp2
 (try simp only[Act.put,List.setIfInBounds_toArray,List.set_cons_zero,List.set_cons_succ])
 go_loopg [0,3] k (fun kq v0 v3 w'=>∃ (x0_1:Int) (x3_1:List Int),v0=.int .i64 x0_1∧Aside0 (spec_l1Sleb.l0 kq x0_1 x3_1=some r)∧Aside0 (kq≤k)∧Aside0 (Kd.R (Kd.int .u8) 5 w' w.heap.size (fun _=>True) v3 x3_1)∧Aside0 (Below w.heap.size w w'))
 case atStart=>exact⟨(a0),(([]:List Int)),rs_,H',⟨Nat.le_refl _⟩,⟨by first|exact Kd.R_nil _ _ _ _ _|exact Kd.N_nil _ _ _ _ _|exact Kd.V_nil _ _ _ _ _|exact Kd.Q_nil _ _ _ _ _|exact Kd.S_nil _ _ _ _ _⟩,⟨bw HB.out⟩⟩
 case round=>
  clear H'
  obtain⟨x0_1,x3_1,rfl,HA,HK1,HO_3,HB⟩:=hrel
  cases gk with
  |zero=>exact absurd HA.out (by simp[spec_l1Sleb.l0])
  |succ k1=>
   have H:=HA.out
   clear HA
   simp only[spec_l1Sleb.l0] at H
   by_cases c2:(x0_1 / 128)=0
   ·
    rw[if_pos c2] at H
    obtain⟨c2b0,c2b1⟩:=eT_ c2
    clear c2
    by_cases c3:(Go.bits .and .u8 ((Go.bits .and .i64 x0_1 127) % 256) 64)=0
    ·
     rw[if_pos c3] at H
     obtain⟨c3b0,c3b1⟩:=eT_ c3
     clear c3
     by_cases c4:x3_1.length<140737488355328
     ·
      rw[if_pos c4] at H
      have LMc4:=A_ c4
      clear c4
      obtain⟨y673,hy673⟩:∃ y_:List Int,y_=(x3_1++[(Go.bits .and .i64 x0_1 127) % 256]):=⟨_,rfl⟩
      replace H:(some (strOfNums y673))=some r:=by first|(rw[hy673];with_reducible exact H)|(have H2_:=(Option.bind_some _ _).symm.trans H;rw[hy673];with_reducible exact H2_)|(have H2_:=(Option.bind_some _ _).symm.trans H;with_reducible exact H2_)|with_reducible exact H|(rw[hy673];exact H)|exact H
      have Ny673:=A_ hy673
      clear hy673
      obtain rfl:=Option.some.inj H
      clear H
      go_wp2_with (first|((with_reducible refine gate_builtin (b:=.append) (xs:=#[.tmp 26,.tmp 28]) rfl ?_);at_builtin;refine Kd.R_append (Kd.int .u8) (w0:=w) w.heap.size rfl (.tmp 26) (.tmp 28) 22 5 (.int .u8 0) 1 rfl Try.underlying22 info5 rfl (by decide) (by omega) u3 x3_1 ((Go.bits .and .i64 x0_1 127) % 256) [.int .u8 ((Go.bits .and .i64 x0_1 127) % 256)] (fun _=>True) (fun _=>False) rfl rfl ?aP (fun _ hk=>hk.elim) ?aF ?aO ?aB ?aS ?aL ?_;(case aP=>exact rfl);(case aB=>exact(bw HB.out));(case aF=>exact(fun _ _=>trivial));(case aO=>exact(kr_ HO_3.out));(case aS=>exact(below_size (bw HB.out)));(case aL=>have:=LMc4.out;omega);intro v674 w5 ho hb hg hat;rw[←Ny673.out] at ho;have HO675:=A_ (ho);replace HB:=A_ (hb);clear HO_3;clear ho hb hg hat;have hcv6:=own_string (P:=Try.prog) Try.underlying22 Try.underlying5 Try.underlying9 (Kd.own_of_R HO675.out)))
      go_ret
      exact⟨rr_,bw HB.out⟩
     rw[if_neg c4] at H
     exact absurd H (by simp)
    rw[if_neg c3] at H
    obtain⟨c3b0,c3b1⟩:=eF_ c3
    by_cases c7:(x0_1 / 128)=(-1)
    ·
     rw[if_pos c7] at H
     obtain⟨c7b0,c7b1⟩:=eT_ c7
     clear c7
     by_cases c8:x3_1.length<140737488355328
     ·
      rw[if_pos c8] at H
      have LMc8:=A_ c8
      clear c8
      obtain⟨y676,hy676⟩:∃ y_:List Int,y_=(x3_1++[(Go.bits .and .i64 x0_1 127) % 256]):=⟨_,rfl⟩
      replace H:(some (strOfNums y676))=some r:=by first|(rw[hy676];with_reducible exact H)|(have H2_:=(Option.bind_some _ _).symm.trans H;rw[hy676];with_reducible exact H2_)|(have H2_:=(Option.bind_some _ _).symm.trans H;with_reducible exact H2_)|with_reducible exact H|(rw[hy676];exact H)|exact H
      have Ny676:=A_ hy676
      clear hy676
      obtain rfl:=Option.some.inj H
      clear H
      go_wp2_with (first|((with_reducible refine gate_builtin (b:=.append) (xs:=#[.tmp 26,.tmp 28]) rfl ?_);at_builtin;refine Kd.R_append (Kd.int .u8) (w0:=w) w.heap.size rfl (.tmp 26) (.tmp 28) 22 5 (.int .u8 0) 1 rfl Try.underlying22 info5 rfl (by decide) (by omega) u3 x3_1 ((Go.bits .and .i64 x0_1 127) % 256) [.int .u8 ((Go.bits .and .i64 x0_1 127) % 256)] (fun _=>True) (fun _=>False) rfl rfl ?aP (fun _ hk=>hk.elim) ?aF ?aO ?aB ?aS ?aL ?_;(case aP=>exact rfl);(case aB=>exact(bw HB.out));(case aF=>exact(fun _ _=>trivial));(case aO=>exact(kr_ HO_3.out));(case aS=>exact(below_size (bw HB.out)));(case aL=>have:=LMc8.out;omega);intro v677 w9 ho hb hg hat;rw[←Ny676.out] at ho;have HO678:=A_ (ho);replace HB:=A_ (hb);clear HO_3;clear ho hb hg hat;have hcv10:=own_string (P:=Try.prog) Try.underlying22 Try.underlying5 Try.underlying9 (Kd.own_of_R HO678.out)))
      go_ret
      exact⟨rr_,bw HB.out⟩
     rw[if_neg c8] at H
     exact absurd H (by simp)
    rw[if_neg c7] at H
    obtain⟨c7b0,c7b1⟩:=eF_ c7
    by_cases c11:x3_1.length<140737488355328
    ·
     rw[if_pos c11] at H
     have LMc11:=A_ c11
     clear c11
     obtain⟨y679,hy679⟩:∃ y_:List Int,y_=(x3_1++[Go.bits .or .u8 ((Go.bits .and .i64 x0_1 127) % 256) 128]):=⟨_,rfl⟩
     replace H:(spec_l1Sleb.l0 k1 (x0_1 / 128) y679)=some r:=by first|(rw[hy679];with_reducible exact H)|(have H2_:=(Option.bind_some _ _).symm.trans H;rw[hy679];with_reducible exact H2_)|(have H2_:=(Option.bind_some _ _).symm.trans H;with_reducible exact H2_)|with_reducible exact H|(rw[hy679];exact H)|exact H
     have Ny679:=A_ hy679
     clear hy679
     have H':=A_ H
     clear H
     go_wp2_with (first|((with_reducible refine gate_builtin (b:=.append) (xs:=#[.tmp 31,.tmp 34]) rfl ?_);at_builtin;refine Kd.R_append (Kd.int .u8) (w0:=w) w.heap.size rfl (.tmp 31) (.tmp 34) 22 5 (.int .u8 0) 1 rfl Try.underlying22 info5 rfl (by decide) (by omega) u3 x3_1 (Go.bits .or .u8 ((Go.bits .and .i64 x0_1 127) % 256) 128) [.int .u8 (Go.bits .or .u8 ((Go.bits .and .i64 x0_1 127) % 256) 128)] (fun _=>True) (fun _=>False) rfl rfl ?aP (fun _ hk=>hk.elim) ?aF ?aO ?aB ?aS ?aL ?_;(case aP=>exact rfl);(case aB=>exact(bw HB.out));(case aF=>exact(fun _ _=>trivial));(case aO=>exact(kr_ HO_3.out));(case aS=>exact(below_size (bw HB.out)));(case aL=>have:=LMc11.out;omega);intro v680 w12 ho hb hg hat;rw[←Ny679.out] at ho;have HO681:=A_ (ho);replace HB:=A_ (hb);clear HO_3;clear ho hb hg hat))
     go_roundg k1
     case measure=>have:=HK1.out;omega
     case rel=>exact⟨(x0_1 / 128),(y679),rs_,H',⟨by have:=HK1.out;omega⟩,⟨kr_ HO681.out⟩,⟨bw HB.out⟩⟩
    rw[if_neg c11] at H
    exact absurd H (by simp)
   rw[if_neg c2] at H
   obtain⟨c2b0,c2b1⟩:=eF_ c2
   by_cases c13:(x0_1 / 128)=(-1)
   ·
    rw[if_pos c13] at H
    obtain⟨c13b0,c13b1⟩:=eT_ c13
    clear c13
    by_cases c14:(Go.bits .and .u8 ((Go.bits .and .i64 x0_1 127) % 256) 64)=0
    ·
     rw[if_pos c14] at H
     obtain⟨c14b0,c14b1⟩:=eT_ c14
     clear c14
     by_cases c15:x3_1.length<140737488355328
     ·
      rw[if_pos c15] at H
      have LMc15:=A_ c15
      clear c15
      obtain⟨y682,hy682⟩:∃ y_:List Int,y_=(x3_1++[Go.bits .or .u8 ((Go.bits .and .i64 x0_1 127) % 256) 128]):=⟨_,rfl⟩
      replace H:(spec_l1Sleb.l0 k1 (x0_1 / 128) y682)=some r:=by first|(rw[hy682];with_reducible exact H)|(have H2_:=(Option.bind_some _ _).symm.trans H;rw[hy682];with_reducible exact H2_)|(have H2_:=(Option.bind_some _ _).symm.trans H;with_reducible exact H2_)|with_reducible exact H|(rw[hy682];exact H)|exact H
      have Ny682:=A_ hy682
      clear hy682
      have H':=A_ H
      clear H
      go_wp2_with (first|((with_reducible refine gate_builtin (b:=.append) (xs:=#[.tmp 31,.tmp 34]) rfl ?_);at_builtin;refine Kd.R_append (Kd.int .u8) (w0:=w) w.heap.size rfl (.tmp 31) (.tmp 34) 22 5 (.int .u8 0) 1 rfl Try.underlying22 info5 rfl (by decide) (by omega) u3 x3_1 (Go.bits .or .u8 ((Go.bits .and .i64 x0_1 127) % 256) 128) [.int .u8 (Go.bits .or .u8 ((Go.bits .and .i64 x0_1 127) % 256) 128)] (fun _=>True) (fun _=>False) rfl rfl ?aP (fun _ hk=>hk.elim) ?aF ?aO ?aB ?aS ?aL ?_;(case aP=>exact rfl);(case aB=>exact(bw HB.out));(case aF=>exact(fun _ _=>trivial));(case aO=>exact(kr_ HO_3.out));(case aS=>exact(below_size (bw HB.out)));(case aL=>have:=LMc15.out;omega);intro v683 w16 ho hb hg hat;rw[←Ny682.out] at ho;have HO684:=A_ (ho);replace HB:=A_ (hb);clear HO_3;clear ho hb hg hat))
      go_roundg k1
      case measure=>have:=HK1.out;omega
      case rel=>exact⟨(x0_1 / 128),(y682),rs_,H',⟨by have:=HK1.out;omega⟩,⟨kr_ HO684.out⟩,⟨bw HB.out⟩⟩
     rw[if_neg c15] at H
     exact absurd H (by simp)
    rw[if_neg c14] at H
    obtain⟨c14b0,c14b1⟩:=eF_ c14
    by_cases c17:x3_1.length<140737488355328
    ·
     rw[if_pos c17] at H
     have LMc17:=A_ c17
     clear c17
     obtain⟨y685,hy685⟩:∃ y_:List Int,y_=(x3_1++[(Go.bits .and .i64 x0_1 127) % 256]):=⟨_,rfl⟩
     replace H:(some (strOfNums y685))=some r:=by first|(rw[hy685];with_reducible exact H)|(have H2_:=(Option.bind_some _ _).symm.trans H;rw[hy685];with_reducible exact H2_)|(have H2_:=(Option.bind_some _ _).symm.trans H;with_reducible exact H2_)|with_reducible exact H|(rw[hy685];exact H)|exact H
     have Ny685:=A_ hy685
     clear hy685
     obtain rfl:=Option.some.inj H
     clear H
     go_wp2_with (first|((with_reducible refine gate_builtin (b:=.append) (xs:=#[.tmp 26,.tmp 28]) rfl ?_);at_builtin;refine Kd.R_append (Kd.int .u8) (w0:=w) w.heap.size rfl (.tmp 26) (.tmp 28) 22 5 (.int .u8 0) 1 rfl Try.underlying22 info5 rfl (by decide) (by omega) u3 x3_1 ((Go.bits .and .i64 x0_1 127) % 256) [.int .u8 ((Go.bits .and .i64 x0_1 127) % 256)] (fun _=>True) (fun _=>False) rfl rfl ?aP (fun _ hk=>hk.elim) ?aF ?aO ?aB ?aS ?aL ?_;(case aP=>exact rfl);(case aB=>exact(bw HB.out));(case aF=>exact(fun _ _=>trivial));(case aO=>exact(kr_ HO_3.out));(case aS=>exact(below_size (bw HB.out)));(case aL=>have:=LMc17.out;omega);intro v686 w18 ho hb hg hat;rw[←Ny685.out] at ho;have HO687:=A_ (ho);replace HB:=A_ (hb);clear HO_3;clear ho hb hg hat;have hcv19:=own_string (P:=Try.prog) Try.underlying22 Try.underlying5 Try.underlying9 (Kd.own_of_R HO687.out)))
     go_ret
     exact⟨rr_,bw HB.out⟩
    rw[if_neg c17] at H
    exact absurd H (by simp)
   rw[if_neg c13] at H
   obtain⟨c13b0,c13b1⟩:=eF_ c13
   by_cases c20:x3_1.length<140737488355328
   ·
    rw[if_pos c20] at H
    have LMc20:=A_ c20
    clear c20
    obtain⟨y688,hy688⟩:∃ y_:List Int,y_=(x3_1++[Go.bits .or .u8 ((Go.bits .and .i64 x0_1 127) % 256) 128]):=⟨_,rfl⟩
    replace H:(spec_l1Sleb.l0 k1 (x0_1 / 128) y688)=some r:=by first|(rw[hy688];with_reducible exact H)|(have H2_:=(Option.bind_some _ _).symm.trans H;rw[hy688];with_reducible exact H2_)|(have H2_:=(Option.bind_some _ _).symm.trans H;with_reducible exact H2_)|with_reducible exact H|(rw[hy688];exact H)|exact H
    have Ny688:=A_ hy688
    clear hy688
    have H':=A_ H
    clear H
    go_wp2_with (first|((with_reducible refine gate_builtin (b:=.append) (xs:=#[.tmp 31,.tmp 34]) rfl ?_);at_builtin;refine Kd.R_append (Kd.int .u8) (w0:=w) w.heap.size rfl (.tmp 31) (.tmp 34) 22 5 (.int .u8 0) 1 rfl Try.underlying22 info5 rfl (by decide) (by omega) u3 x3_1 (Go.bits .or .u8 ((Go.bits .and .i64 x0_1 127) % 256) 128) [.int .u8 (Go.bits .or .u8 ((Go.bits .and .i64 x0_1 127) % 256) 128)] (fun _=>True) (fun _=>False) rfl rfl ?aP (fun _ hk=>hk.elim) ?aF ?aO ?aB ?aS ?aL ?_;(case aP=>exact rfl);(case aB=>exact(bw HB.out));(case aF=>exact(fun _ _=>trivial));(case aO=>exact(kr_ HO_3.out));(case aS=>exact(below_size (bw HB.out)));(case aL=>have:=LMc20.out;omega);intro v689 w21 ho hb hg hat;rw[←Ny688.out] at ho;have HO690:=A_ (ho);replace HB:=A_ (hb);clear HO_3;clear ho hb hg hat))
    go_roundg k1
    case measure=>have:=HK1.out;omega
    case rel=>exact⟨(x0_1 / 128),(y688),rs_,H',⟨by have:=HK1.out;omega⟩,⟨kr_ HO690.out⟩,⟨bw HB.out⟩⟩
   rw[if_neg c20] at H
   exact absurd H (by simp)

/-! ### spec_l5Bytes: function 36 -/
def spec_l5Bytes.l0:Nat→Int→List Int→Int→Int→Option (ByteArray)
 |0,_,_,_,_=>none
 |k+1,x0,x5,x10,x11=>if x11<x10 then (if 0≤(IntKind.u64.wrap (wrap64 (8*x11))) then (if 0≤x11 then (if x11<(x5.length:Int) then (spec_l5Bytes.l0 k x0 (x5.set (x11:Int).toNat ((shr .u64 x0 (IntKind.u64.wrap (wrap64 (8*x11)))) % 256)) x10 (wrap64 (x11+1))) else (none)) else (none)) else (none)) else (some (strOfNums x5))
def spec_l5Bytes.f (k:Nat) (a0:Int) (a1:Int):Option (ByteArray):=if 0≤a1 then (if (a1:Int).toNat≤281474976710656 then ((some (List.replicate (a1:Int).toNat 0:List Int)).bind fun y691=>(spec_l5Bytes.l0 k a0 y691 (y691.length:Int) 0)) else (none)) else (none)
theorem spec_l5Bytes.calls (k:Nat) (a0:Int) (a1:Int) (r:ByteArray) (w:World) (h:spec_l5Bytes.f k a0 a1=some r):
  Calls Try.prog 36 #[.int .u64 a0,.int .i64 a1] w fun e w'=>e=.returned (.string r)∧Below w.heap.size w w':=by
 have HB:=A_ (Below.refl w.heap.size w)
 have H:(if 0≤a1 then (if (a1:Int).toNat≤281474976710656 then ((some (List.replicate (a1:Int).toNat 0:List Int)).bind fun y691=>(spec_l5Bytes.l0 k a0 y691 (y691.length:Int) 0)) else (none)) else (none))=some r:=h
 clear h
 by_cases c3:0≤a1
 ·
  rw[if_pos c3] at H
  have c3b0:=eq_true c3
  have c3b1:=decide_eq_true c3
  clear c3
  by_cases c4:(a1:Int).toNat≤281474976710656
  ·
   rw[if_pos c4] at H
   have c4b0:=eq_true c4
   have c4b1:=decide_eq_true c4
   clear c4
   obtain⟨y691,hy691⟩:∃ y_:List Int,y_=(List.replicate (a1:Int).toNat 0):=⟨_,rfl⟩
   replace H:(spec_l5Bytes.l0 k a0 y691 (y691.length:Int) 0)=some r:=by first|(rw[hy691];with_reducible exact H)|(have H2_:=(Option.bind_some _ _).symm.trans H;rw[hy691];with_reducible exact H2_)|(have H2_:=(Option.bind_some _ _).symm.trans H;with_reducible exact H2_)|with_reducible exact H|(rw[hy691];exact H)|exact H
   have Ny691:=A_ hy691
   clear hy691
   have H':=A_ H
   clear H
   go_enter Try.func36,Try.ntmps36
   go_wp2_with (first|((with_reducible refine gd_ 8 rfl ?_);refine Kd.R_make (Kd.int .u8) _ 5 rfl (N:=8) rfl 22 _ _ rfl a1 rfl rfl Try.underlying22 (.int .u8 0) 1 info5 rfl (by decide) (by omega) 0 (ok:=fun _=>True) (okp:=fun _=>True) rfl (fun _ hk=>hk) trivial (od_) (Nat.le_trans (Nat.mul_le_mul_right _ (od_:a1.toNat≤281474976710656)) (by omega)) (Below.refl _ _) (Nat.le_refl _) ?_;intro v692 w5 ho6 hb hg_ hnew_;clear hg_ hnew_;(first|rw[←Ny691.out] at ho6|(simp only[Int.reduceToNat] at ho6;rw[←Ny691.out] at ho6));have HO693:=A_ (Kd.R_lower ho6 (below_size (bw HB.out)));replace HB:=bs_ HB hb;clear hb ho6;obtain⟨Ao7,co7,eo7⟩:=Kd.R_slice HO693.out;subst eo7))
   (try simp only[Act.put,List.setIfInBounds_toArray,List.set_cons_zero,List.set_cons_succ])
   go_loopg [11] k (fun kq v11 w'=>∃ (x5_1:List Int) (x11_1:Int),v11=.int .i64 x11_1∧Aside0 (spec_l5Bytes.l0 kq a0 x5_1 (y691.length:Int) x11_1=some r)∧Aside0 (kq≤k)∧Aside0 (Kd.R (Kd.int .u8) 5 w' w.heap.size (fun _=>True) (.slice Ao7 y691.length co7) x5_1)∧Aside0 (Below w.heap.size w w'))
   case atStart=>exact⟨(y691),(0),rs_,H',⟨Nat.le_refl _⟩,⟨kr_ HO693.out⟩,⟨bw HB.out⟩⟩
   case round=>
    clear H'
    try clear c3 c3b0 c3b1 c4 c4b0 c4b1
    obtain⟨x5_1,x11_1,rfl,HA,HK1,HO_5,HB⟩:=hrel
    have hl5_1:=(Kd.R_reads' HO_5.out).1
    rw[hl5_1] at HO_5
    (try simp only[hl5_1])
    cases gk with
    |zero=>exact absurd HA.out (by simp[spec_l5Bytes.l0])
    |succ k1=>
     have H:=HA.out
     clear HA
     simp only[spec_l5Bytes.l0] at H
     by_cases c8:x11_1<(y691.length:Int)
     ·
      rw[if_pos c8] at H
      have c8b0:=decide_eq_true c8
      clear c8
      obtain⟨ji9,hji9⟩:∃ j_:Int,(IntKind.u64.wrap (wrap64 (8*x11_1)))=j_:=⟨_,rfl⟩
      replace H:(if 0≤(ji9) then (if 0≤x11_1 then (if x11_1<(x5_1.length:Int) then (spec_l5Bytes.l0 k1 a0 (x5_1.set (x11_1:Int).toNat ((shr .u64 a0 (ji9)) % 256)) (y691.length:Int) (wrap64 (x11_1+1))) else (none)) else (none)) else (none))=some r:=by first|(rw[hji9] at H;exact H)|(simp only[hji9] at H ⊢;exact H)
      by_cases c10:0≤(ji9)
      ·
       rw[if_pos c10] at H
       have c10b0:=eq_true c10
       have c10b1:=decide_eq_true c10
       clear c10
       obtain⟨ji11,hji11⟩:∃ j_:Int,(shr .u64 a0 (ji9))=j_:=⟨_,rfl⟩
       replace H:(if 0≤x11_1 then (if x11_1<(x5_1.length:Int) then (spec_l5Bytes.l0 k1 a0 (x5_1.set (x11_1:Int).toNat ((ji11) % 256)) (y691.length:Int) (wrap64 (x11_1+1))) else (none)) else (none))=some r:=by first|(rw[hji11] at H;exact H)|(simp only[hji11] at H ⊢;exact H)
       have hji11_:(a0 / 2 ^ min (ji9).toNat 64)=ji11:=hji11
       have hji11z:(ji9)≤64→(a0 / 2 ^ (ji9).toNat)=ji11:=shr_small hji11
       by_cases c12:0≤x11_1
       ·
        rw[if_pos c12] at H
        have c12b0:=decide_eq_true c12
        clear c12
        by_cases c13:x11_1<(x5_1.length:Int)
        ·
         rw[if_pos c13] at H
         have c13b0:=decide_eq_true c13
         clear c13
         obtain⟨y694,hy694⟩:∃ y_:List Int,y_=(x5_1.set (x11_1:Int).toNat ((ji11) % 256)):=⟨_,rfl⟩
         replace H:(spec_l5Bytes.l0 k1 a0 y694 (y691.length:Int) (wrap64 (x11_1+1)))=some r:=by first|(rw[hy694];with_reducible exact H)|(have H2_:=(Option.bind_some _ _).symm.trans H;rw[hy694];with_reducible exact H2_)|(have H2_:=(Option.bind_some _ _).symm.trans H;with_reducible exact H2_)|with_reducible exact H|(rw[hy694];exact H)|exact H
         have Ny694:=A_ hy694
         clear hy694
         have H':=A_ H
         clear H
         have p14:0≤(x11_1:Int):=od_
         have q14:(x11_1:Int)<((x5_1.length:Int):Int):=od_
         obtain⟨go14,co14,eo14,gb14,gl14,cl14,HG14⟩:=Kd.R_form HO_5.out (by omega)
         (first|cases eo14|(injection eo14 with ea_ en_ ec_;(first|subst ea_|(injection ea_ with ea_;subst ea_));subst ec_;clear en_))
         have GB14:=A_ gb14
         have GG14:=A_ HG14
         clear gb14 gl14 HG14
         obtain⟨hx14_0,hf14_0⟩:=Kd.R_celln 0 HO_5.out (x11_1:Int) p14 q14
         replace p14:=eq_true p14
         replace q14:=eq_true q14
         have HP15:=Kd.R_putg HO_5.out (x11_1:Int) ((ji11) % 256)
         go_wp2_with (first|((with_reducible refine gate_store (t:=5) (p:=22) rfl ?_);refine store_event (t:=5) (p:=22) (v:=?vo_w16) (w1:=(wr.setCell ⟨go14,(x11_1:Int).toNat,none⟩ (.int .u8 ((ji11) % 256)))) ?hg ?ho ?hn ?hr ?_;(case ho=>rfl);(case hg=>rfl);(case hn=>rfl);(case hr=>first|(go_simp;done)|(go_simp;rfl));intro w16 hw;have hg:wr.grownBy w16 (some go14):=(by rw[hw];exact HP15.2);have hp_:Kd.R (Kd.int .u8) 5 w16 w.heap.size (fun _=>True) (.slice (some ⟨go14,0,none⟩) x5_1.length co7) y694:=(by rw[hw,Ny694.out];exact HP15.1);clear HP15;replace HO_5:=A_ (hp_);replace HB:=A_ ((by rw[hw];exact below_set (HB.out) GB14.out:Below w.heap.size w w16));clear hg hw hp_))
         (try simp only[←hl5_1])
         go_roundg k1
         case measure=>have:=HK1.out;omega
         case rel=>exact⟨(y694),(wrap64 (x11_1+1)),rs_,H',⟨by have:=HK1.out;omega⟩,⟨by (try simp only[hl5_1]);(with_reducible repeat (first|apply Kd.R_alloc|apply Kd.R_drewN|apply Kd.R_drew));exact HO_5.out⟩,⟨bw HB.out⟩⟩
        rw[if_neg c13] at H
        exact absurd H (by simp)
       rw[if_neg c12] at H
       exact absurd H (by simp)
      rw[if_neg c10] at H
      exact absurd H (by simp)
     rw[if_neg c8] at H
     have c8b0:=decide_eq_false c8
     (try rw[hl5_1] at c8b0)
     clear c8
     obtain rfl:=Option.some.inj H
     clear H
     have hcv17:=own_string (P:=Try.prog) Try.underlying22 Try.underlying5 Try.underlying9 (Kd.own_of_R HO_5.out)
     go_wp2
     go_ret
     exact⟨rr_,bw HB.out⟩
  rw[if_neg c4] at H
  exact absurd H (by simp)
 rw[if_neg c3] at H
 exact absurd H (by simp)

/-! ### spec_l6Bytes: function 22 -/
mutual
def spec_l6Bytes.l0:Nat→ByteArray→List (S37)→Int→Int→Option (ByteArray)
 |0,_,_,_,_=>none
 |k+1,x3,x6,x7,x8=>if x8<x7 then (if 0≤x8 then (if x8<(x6.length:Int) then ((some (([((rd_T37 x6 x8).f0) % 256]:List Int):List Int)).bind fun y697=>(if x3.size+(strOfNums y697).size≤9223372036854775807 then ((spec_l6Shape.f k ((rd_T37 x6 x8).f0)).bind fun t700=>(if t700=1 then ((some (([((rd_T37 x6 x8).f1) % 256]:List Int):List Int)).bind fun y701=>(if (x3++(strOfNums y697)).size+(strOfNums y701).size≤9223372036854775807 then (spec_l6Bytes.l0 k ((x3++(strOfNums y697))++(strOfNums y701)) x6 x7 (wrap64 (x8+1))) else (none))) else (if t700=2 then (spec_l6Bytes.j1 k (x3++(strOfNums y697)) x6 x7 x8 t700 (t700==2) ((rd_T37 x6 x8).f0) ((rd_T37 x6 x8).f1)) else (spec_l6Bytes.j1 k (x3++(strOfNums y697)) x6 x7 x8 t700 (t700==3) ((rd_T37 x6 x8).f0) ((rd_T37 x6 x8).f1))))) else (none))) else (none)) else (none)) else (some x3)
def spec_l6Bytes.j1:Nat→ByteArray→List (S37)→Int→Int→Int→Bool→Int→Int→Option (ByteArray)
 |0,_,_,_,_,_,_,_,_=>none
 |k+1,x3,x6,x7,x8,x21,x31,x697000,x697001=>if x31=true then ((spec_l1Uleb.f k (IntKind.u64.wrap (x697001))).bind fun t704=>(if x3.size+t704.size≤9223372036854775807 then (spec_l6Bytes.l0 k (x3++t704) x6 x7 (wrap64 (x8+1))) else (none))) else (if x21=4 then (spec_l6Bytes.j2 k x3 x6 x7 x8 x21 (x21==4) x697000 x697001) else (spec_l6Bytes.j2 k x3 x6 x7 x8 x21 (x21==5) x697000 x697001))
def spec_l6Bytes.j2:Nat→ByteArray→List (S37)→Int→Int→Int→Bool→Int→Int→Option (ByteArray)
 |0,_,_,_,_,_,_,_,_=>none
 |k+1,x3,x6,x7,x8,x21,x40,x697000,x697001=>if x40=true then ((spec_l1Sleb.f k x697001).bind fun t705=>(if x3.size+t705.size≤9223372036854775807 then (spec_l6Bytes.l0 k (x3++t705) x6 x7 (wrap64 (x8+1))) else (none))) else (if x21=6 then ((spec_l5Bytes.f k (IntKind.u64.wrap (x697001)) 4).bind fun t706=>(if x3.size+t706.size≤9223372036854775807 then (spec_l6Bytes.l0 k (x3++t706) x6 x7 (wrap64 (x8+1))) else (none))) else (spec_l6Bytes.l0 k x3 x6 x7 (wrap64 (x8+1))))
end
def spec_l6Bytes.f (k:Nat) (l0:List (S37)):Option (ByteArray):=spec_l6Bytes.l0 k (⟨#[]⟩:ByteArray) l0 (l0.length:Int) 0
theorem spec_l6Bytes.calls (k:Nat) (A0:Option Addr) (c0:Nat) (l0:List (S37)) (r:ByteArray) (w:World) (hr0:Kd.C k37 w A0 l0.length l0) (hc0:l0.length≤c0) (h:spec_l6Bytes.f k l0=some r):
  Calls Try.prog 22 #[.slice A0 l0.length c0] w fun e w'=>e=.returned (.string r)∧Below w.heap.size w w':=by
 have hu37:=Try.underlying37
 have HR0:=A_ hr0
 have HC0:=A_ hc0
 clear hr0 hc0
 have HB:=A_ (Below.refl w.heap.size w)
 have H:(spec_l6Bytes.l0 k (⟨#[]⟩:ByteArray) l0 (l0.length:Int) 0)=some r:=h
 clear h
 have H':=A_ H
 clear H
 go_enter Try.func22,Try.ntmps22
 go_wp2
 (try simp only[Act.put,List.setIfInBounds_toArray,List.set_cons_zero,List.set_cons_succ])
 go_loopg [3,8] k (fun kq v3 v8 w'=>∃ (x3_1:ByteArray) (x8_1:Int),v3=.string x3_1∧v8=.int .i64 x8_1∧Aside0 (spec_l6Bytes.l0 kq x3_1 l0 (l0.length:Int) x8_1=some r)∧Aside0 (kq≤k)∧Aside0 (Below w.heap.size w w'))
 case atStart=>exact⟨((⟨#[]⟩:ByteArray)),(0),rs_,rs_,H',⟨Nat.le_refl _⟩,⟨bw HB.out⟩⟩
 case round=>
  clear H'
  obtain⟨x3_1,x8_1,rfl,rfl,HA,HK1,HB⟩:=hrel
  cases gk with
  |zero=>exact absurd HA.out (by simp[spec_l6Bytes.l0])
  |succ k1=>
   have H:=HA.out
   clear HA
   simp only[spec_l6Bytes.l0] at H
   by_cases c2:x8_1<(l0.length:Int)
   ·
    rw[if_pos c2] at H
    have c2b0:=decide_eq_true c2
    clear c2
    by_cases c3:0≤x8_1
    ·
     rw[if_pos c3] at H
     have c3b0:=decide_eq_true c3
     clear c3
     by_cases c4:x8_1<(l0.length:Int)
     ·
      rw[if_pos c4] at H
      have c4b0:=decide_eq_true c4
      clear c4
      obtain⟨y697,hy697⟩:∃ y_:List Int,y_=(([((rd_T37 l0 x8_1).f0) % 256]:List Int)):=⟨_,rfl⟩
      replace H:(if x3_1.size+(strOfNums y697).size≤9223372036854775807 then ((spec_l6Shape.f k1 ((rd_T37 l0 x8_1).f0)).bind fun t700=>(if t700=1 then ((some (([((rd_T37 l0 x8_1).f1) % 256]:List Int):List Int)).bind fun y701=>(if (x3_1++(strOfNums y697)).size+(strOfNums y701).size≤9223372036854775807 then (spec_l6Bytes.l0 k1 ((x3_1++(strOfNums y697))++(strOfNums y701)) l0 (l0.length:Int) (wrap64 (x8_1+1))) else (none))) else (if t700=2 then (spec_l6Bytes.j1 k1 (x3_1++(strOfNums y697)) l0 (l0.length:Int) x8_1 t700 (t700==2) ((rd_T37 l0 x8_1).f0) ((rd_T37 l0 x8_1).f1)) else (spec_l6Bytes.j1 k1 (x3_1++(strOfNums y697)) l0 (l0.length:Int) x8_1 t700 (t700==3) ((rd_T37 l0 x8_1).f0) ((rd_T37 l0 x8_1).f1))))) else (none))=some r:=by first|(rw[hy697];with_reducible exact H)|(have H2_:=(Option.bind_some _ _).symm.trans H;rw[hy697];with_reducible exact H2_)|(have H2_:=(Option.bind_some _ _).symm.trans H;with_reducible exact H2_)|with_reducible exact H|(rw[hy697];exact H)|exact H
      have Ny697:=A_ hy697
      clear hy697
      by_cases c5:x3_1.size+(strOfNums y697).size≤9223372036854775807
      ·
       rw[if_pos c5] at H
       have c5b0:=eq_true c5
       have c5b1:=decide_eq_true c5
       try have c5b2:(9223372036854775807<x3_1.size+(strOfNums y697).size)=False:=eq_false (Nat.not_lt.2 c5)
       replace H:=bi_ H
       obtain⟨t700,A60,H⟩:=H
       have A6:=A_ A60
       clear A60
       by_cases c7:t700=1
       ·
        rw[if_pos c7] at H
        obtain⟨c7b0,c7b1⟩:=eT_ c7
        clear c7
        obtain⟨y701,hy701⟩:∃ y_:List Int,y_=(([((rd_T37 l0 x8_1).f1) % 256]:List Int)):=⟨_,rfl⟩
        replace H:(if (x3_1++(strOfNums y697)).size+(strOfNums y701).size≤9223372036854775807 then (spec_l6Bytes.l0 k1 ((x3_1++(strOfNums y697))++(strOfNums y701)) l0 (l0.length:Int) (wrap64 (x8_1+1))) else (none))=some r:=by first|(rw[hy701];with_reducible exact H)|(have H2_:=(Option.bind_some _ _).symm.trans H;rw[hy701];with_reducible exact H2_)|(have H2_:=(Option.bind_some _ _).symm.trans H;with_reducible exact H2_)|with_reducible exact H|(rw[hy701];exact H)|exact H
        have Ny701:=A_ hy701
        clear hy701
        by_cases c8:(x3_1++(strOfNums y697)).size+(strOfNums y701).size≤9223372036854775807
        ·
         rw[if_pos c8] at H
         have c8b0:=eq_true c8
         have c8b1:=decide_eq_true c8
         try have c8b2:(9223372036854775807<(x3_1++(strOfNums y697)).size+(strOfNums y701).size)=False:=eq_false (Nat.not_lt.2 c8)
         try have c8b3:=c8b0
         try simp only[ByteArray.size_append] at c8b3
         try have c8b4:=c8b1
         try simp only[ByteArray.size_append] at c8b4
         try have c8b5:=c8b2
         try simp only[ByteArray.size_append] at c8b5
         have H':=A_ H
         clear H
         have p695:0≤(x8_1:Int):=od_
         have q695:x8_1<(l0.length:Int):=od_
         obtain⟨ad695,e695,hx695_0,hx695_1⟩:=at_T37 HR0.out x8_1 p695 q695
         cases e695
         replace hx695_0:=cl_ HB.out hx695_0
         replace hx695_1:=cl_ HB.out hx695_1
         replace p695:=eq_true p695
         replace q695:=eq_true q695
         go_wp2_with (first|((with_reducible refine gd_ 5 rfl ?_);refine bx_ #[.int .i64 0,.int .i64 0] 37 ?_;intro gb696 hg w9 hbox hb;have BK696:=A_ hbox;have GW696:=gw_ hg HB;have GE696:=GW696;replace HB:=bs_ HB hb;clear hb hbox hg;obtain⟨hcz10_0,hcz10_1⟩:=cs2_ BK696.out;obtain⟨hfz10_0,hfz10_1⟩:=fz2_ BK696.out)|((with_reducible refine gd_ 16 rfl ?_);refine Kd.R_lit (Kd.int .u8) _ 5 ?hg (N:=16) ?hd (xs:=([((rd_T37 l0 x8_1).f0) % 256]:List Int)) (inner:=[.int .u8 (((rd_T37 l0 x8_1).f0) % 256)]) (ok:=fun _=>True) (okp:=fun _=>True) ?hr ?hp (fun _ hk=>hk) trivial (Below.refl _ _) (Nat.le_refl _) (by simp) ?_;(case hd=>rfl);(case hg=>rfl);(case hr=>first|(go_simp;done)|(go_simp;rfl));(case hp=>exact(Reps.one (show Kd.M (Kd.int .u8) _ _ _ (((rd_T37 l0 x8_1).f0) % 256) [.int .u8 (((rd_T37 l0 x8_1).f0) % 256)] from rfl) (Reps.none _ _)));intro v698 w11 ho12 hb hg_ hnew_;clear hg_ hnew_;(first|rw[←Ny697.out] at ho12|(simp only[Int.reduceToNat] at ho12;rw[←Ny697.out] at ho12));have HO699:=A_ (Kd.R_lower ho12 (below_size (bw HB.out)));replace BK696:=A_ (blk_below (g:=gb696) (o:=.cells #[.int .i64 ((rd_T37 l0 x8_1).f0),.int .i64 ((rd_T37 l0 x8_1).f1)] 37 (0,0)) (by refine blk_put (cs:=#[.int .i64 ((rd_T37 l0 x8_1).f0),.int .i64 0]) ?_ 1 _ rfl;refine blk_put (cs:=#[.int .i64 0,.int .i64 0]) ?_ 0 _ rfl;(with_reducible repeat (first|refine blk_drewN ?_ _|refine blk_drew ?_|refine blk_alloc ?_ _));exact BK696.out) hb);replace HB:=bs_ HB hb;clear hb ho12;have hcv13:=own_string (P:=Try.prog) Try.underlying22 Try.underlying5 Try.underlying9 (Kd.own_of_R HO699.out);obtain⟨hcz14_0,hcz14_1⟩:=cs2_ BK696.out;obtain⟨hfz14_0,hfz14_1⟩:=fz2_ BK696.out)|((with_reducible refine gc_ 33 rfl ?_);refine gn_ (some 21) Try.func33 (spec_l6Shape.calls k1 ((rd_T37 l0 x8_1).f0) t700 _ A6.out) ?_;intro nd)|((with_reducible refine gd_ 28 rfl ?_);refine Kd.R_lit (Kd.int .u8) _ 5 ?hg (N:=28) ?hd (xs:=([((rd_T37 l0 x8_1).f1) % 256]:List Int)) (inner:=[.int .u8 (((rd_T37 l0 x8_1).f1) % 256)]) (ok:=fun _=>True) (okp:=fun _=>True) ?hr ?hp (fun _ hk=>hk) trivial (Below.refl _ _) (Nat.le_refl _) (by simp) ?_;(case hd=>rfl);(case hg=>rfl);(case hr=>first|(go_simp;done)|(go_simp;rfl));(case hp=>exact(Reps.one (show Kd.M (Kd.int .u8) _ _ _ (((rd_T37 l0 x8_1).f1) % 256) [.int .u8 (((rd_T37 l0 x8_1).f1) % 256)] from rfl) (Reps.none _ _)));intro v702 w15 ho16 hb hg_ hnew_;clear hg_ hnew_;(first|rw[←Ny701.out] at ho16|(simp only[Int.reduceToNat] at ho16;rw[←Ny701.out] at ho16));have HO703:=A_ (Kd.R_lower (Kd.R_new' ho16 (Kd.R_lt (kr_ HO699.out))) (below_size (bw HB.out)));replace HO699:=A_ (Kd.R_elder' (kr_ HO699.out) (Kd.R_base ho16) hb);replace BK696:=kb_ BK696 hb;replace HB:=bs_ HB hb;clear hb ho16;have hcv17:=own_string (P:=Try.prog) Try.underlying22 Try.underlying5 Try.underlying9 (Kd.own_of_R HO703.out)))
         go_roundg k1
         case measure=>have:=HK1.out;omega
         case rel=>exact⟨((x3_1++(strOfNums y697))++(strOfNums y701)),(wrap64 (x8_1+1)),rs_,rs_,H',⟨by have:=HK1.out;omega⟩,⟨bw HB.out⟩⟩
        rw[if_neg c8] at H
        exact absurd H (by simp)
       rw[if_neg c7] at H
       obtain⟨c7b0,c7b1⟩:=eF_ c7
       have HC18:=A_ H
       clear H
       have p695:0≤(x8_1:Int):=od_
       have q695:x8_1<(l0.length:Int):=od_
       obtain⟨ad695,e695,hx695_0,hx695_1⟩:=at_T37 HR0.out x8_1 p695 q695
       cases e695
       replace hx695_0:=cl_ HB.out hx695_0
       replace hx695_1:=cl_ HB.out hx695_1
       replace p695:=eq_true p695
       replace q695:=eq_true q695
       go_upto_if 31 with (first|((with_reducible refine gd_ 5 rfl ?_);refine bx_ #[.int .i64 0,.int .i64 0] 37 ?_;intro gb696 hg w19 hbox hb;have BK696:=A_ hbox;have GW696:=gw_ hg HB;have GE696:=GW696;replace HB:=bs_ HB hb;clear hb hbox hg;obtain⟨hcz20_0,hcz20_1⟩:=cs2_ BK696.out;obtain⟨hfz20_0,hfz20_1⟩:=fz2_ BK696.out)|((with_reducible refine gd_ 16 rfl ?_);refine Kd.R_lit (Kd.int .u8) _ 5 ?hg (N:=16) ?hd (xs:=([((rd_T37 l0 x8_1).f0) % 256]:List Int)) (inner:=[.int .u8 (((rd_T37 l0 x8_1).f0) % 256)]) (ok:=fun _=>True) (okp:=fun _=>True) ?hr ?hp (fun _ hk=>hk) trivial (Below.refl _ _) (Nat.le_refl _) (by simp) ?_;(case hd=>rfl);(case hg=>rfl);(case hr=>first|(go_simp;done)|(go_simp;rfl));(case hp=>exact(Reps.one (show Kd.M (Kd.int .u8) _ _ _ (((rd_T37 l0 x8_1).f0) % 256) [.int .u8 (((rd_T37 l0 x8_1).f0) % 256)] from rfl) (Reps.none _ _)));intro v698 w21 ho22 hb hg_ hnew_;clear hg_ hnew_;(first|rw[←Ny697.out] at ho22|(simp only[Int.reduceToNat] at ho22;rw[←Ny697.out] at ho22));have HO699:=A_ (Kd.R_lower ho22 (below_size (bw HB.out)));replace BK696:=A_ (blk_below (g:=gb696) (o:=.cells #[.int .i64 ((rd_T37 l0 x8_1).f0),.int .i64 ((rd_T37 l0 x8_1).f1)] 37 (0,0)) (by refine blk_put (cs:=#[.int .i64 ((rd_T37 l0 x8_1).f0),.int .i64 0]) ?_ 1 _ rfl;refine blk_put (cs:=#[.int .i64 0,.int .i64 0]) ?_ 0 _ rfl;(with_reducible repeat (first|refine blk_drewN ?_ _|refine blk_drew ?_|refine blk_alloc ?_ _));exact BK696.out) hb);replace HB:=bs_ HB hb;clear hb ho22;have hcv23:=own_string (P:=Try.prog) Try.underlying22 Try.underlying5 Try.underlying9 (Kd.own_of_R HO699.out);obtain⟨hcz24_0,hcz24_1⟩:=cs2_ BK696.out;obtain⟨hfz24_0,hfz24_1⟩:=fz2_ BK696.out)|((with_reducible refine gc_ 33 rfl ?_);refine gn_ (some 21) Try.func33 (spec_l6Shape.calls k1 ((rd_T37 l0 x8_1).f0) t700 _ A6.out) ?_;intro nd))
       (try simp only[Act.put,List.setIfInBounds_toArray,List.set_cons_zero,List.set_cons_succ])
       go_cut [31] (fun v31 wc=>∃ (kq:Nat) (x31_17:Bool),v31=.bool x31_17∧Aside0 (spec_l6Bytes.j1 kq (x3_1++(strOfNums y697)) l0 (l0.length:Int) x8_1 t700 x31_17 ((rd_T37 l0 x8_1).f0) ((rd_T37 l0 x8_1).f1)=some r)∧Aside0 (kq≤k1)∧Aside0 (wc.heap[gb696]? =some (.cells #[.int .i64 ((rd_T37 l0 x8_1).f0),.int .i64 ((rd_T37 l0 x8_1).f1)] 37 (0,0)))∧Aside0 (Below w.heap.size w wc))
       case first=>
        have H:=HC18.out
        clear HC18
        by_cases c25:t700=2
        ·
         rw[if_pos c25] at H
         obtain⟨c25b0,c25b1⟩:=eT_ c25
         clear c25
         (first|rw[c25b0]|(simp only[i64_w,i32_w];rw[c25b0])|skip)
         have H':=A_ H
         clear H
         go_wp2
         go_meet
         case rel=>exact⟨_,((t700==2)),rs_,H',⟨by have:=HK1.out;first|omega|exact Nat.le_refl _⟩,⟨bk BK696.out⟩,⟨bw HB.out⟩⟩
        rw[if_neg c25] at H
        obtain⟨c25b0,c25b1⟩:=eF_ c25
        (first|rw[c25b0]|(simp only[i64_w,i32_w];rw[c25b0])|skip)
        have H':=A_ H
        clear H
        go_wp2
        go_meet
        case rel=>exact⟨_,((t700==3)),rs_,H',⟨by have:=HK1.out;first|omega|exact Nat.le_refl _⟩,⟨bk BK696.out⟩,⟨bw HB.out⟩⟩
       case rest=>
        clear HC18
        try clear c2 c2b0 c3 c3b0 c4 c4b0 c5 c5b0 c5b1 c5b2 c7 c7b0 c7b1 hcv23 hcz20_0 hcz20_1 hcz24_0 hcz24_1 hfz20_0 hfz20_1 hfz24_0 hfz24_1 hx695_0 hx695_1 p695 q695
        obtain⟨kq,x31_17,rfl,HA,HJ17,BK696,HB⟩:=hcut
        cases kq with
        |zero=>exact absurd HA.out (by simp[spec_l6Bytes.j1])
        |succ kj17=>
         have H:=HA.out
         clear HA
         simp only[spec_l6Bytes.j1] at H
         by_cases c26:x31_17=true
         ·
          subst c26
          replace H:=iT_ H
          replace H:=bi_ H
          obtain⟨t704,A270,H⟩:=H
          have A27:=A_ A270
          clear A270
          by_cases c28:(x3_1++(strOfNums y697)).size+t704.size≤9223372036854775807
          ·
           rw[if_pos c28] at H
           have c28b0:=eq_true c28
           have c28b1:=decide_eq_true c28
           try have c28b2:(9223372036854775807<(x3_1++(strOfNums y697)).size+t704.size)=False:=eq_false (Nat.not_lt.2 c28)
           try have c28b3:=c28b0
           try simp only[ByteArray.size_append] at c28b3
           try have c28b4:=c28b1
           try simp only[ByteArray.size_append] at c28b4
           try have c28b5:=c28b2
           try simp only[ByteArray.size_append] at c28b5
           have H':=A_ H
           clear H
           obtain⟨hcz29_0,hcz29_1⟩:=cs2_ BK696.out
           obtain⟨hfz29_0,hfz29_1⟩:=fz2_ BK696.out
           go_wp2_with (first|((with_reducible refine gc_ 34 rfl ?_);refine gm_ (some 38) Try.func34 (spec_l1Uleb.calls kj17 (IntKind.u64.wrap (((rd_T37 l0 x8_1).f1))) t704 _ A27.out) ?_;intro w30 hb;replace BK696:=kb_ BK696 hb;replace HB:=bs_ HB hb;(try clear hb)))
           go_roundg kj17
           case measure=>have:=HK1.out;have:=HJ17.out;omega
           case rel=>exact⟨((x3_1++(strOfNums y697))++t704),(wrap64 (x8_1+1)),rs_,rs_,H',⟨by have:=HK1.out;have:=HJ17.out;omega⟩,⟨bw HB.out⟩⟩
          rw[if_neg c28] at H
          exact absurd H (by simp)
         replace c26:=Bool.eq_false_iff.mpr c26
         subst c26
         replace H:=iF_ H
         have HC31:=A_ H
         clear H
         go_upto_if 40 with (fail)
         go_cut [40] (fun v40 wc=>∃ (kq:Nat) (x40_30:Bool),v40=.bool x40_30∧Aside0 (spec_l6Bytes.j2 kq (x3_1++(strOfNums y697)) l0 (l0.length:Int) x8_1 t700 x40_30 ((rd_T37 l0 x8_1).f0) ((rd_T37 l0 x8_1).f1)=some r)∧Aside0 (kq≤kj17)∧Aside0 (wc.heap[gb696]? =some (.cells #[.int .i64 ((rd_T37 l0 x8_1).f0),.int .i64 ((rd_T37 l0 x8_1).f1)] 37 (0,0)))∧Aside0 (Below w.heap.size w wc))
         case first=>
          have H:=HC31.out
          clear HC31
          by_cases c32:t700=4
          ·
           rw[if_pos c32] at H
           obtain⟨c32b0,c32b1⟩:=eT_ c32
           clear c32
           (first|rw[c32b0]|(simp only[i64_w,i32_w];rw[c32b0])|skip)
           have H':=A_ H
           clear H
           go_wp2
           go_meet
           case rel=>exact⟨_,((t700==4)),rs_,H',⟨by have:=HK1.out;have:=HJ17.out;first|omega|exact Nat.le_refl _⟩,⟨bk BK696.out⟩,⟨bw HB.out⟩⟩
          rw[if_neg c32] at H
          obtain⟨c32b0,c32b1⟩:=eF_ c32
          (first|rw[c32b0]|(simp only[i64_w,i32_w];rw[c32b0])|skip)
          have H':=A_ H
          clear H
          go_wp2
          go_meet
          case rel=>exact⟨_,((t700==5)),rs_,H',⟨by have:=HK1.out;have:=HJ17.out;first|omega|exact Nat.le_refl _⟩,⟨bk BK696.out⟩,⟨bw HB.out⟩⟩
         case rest=>
          clear HC31
          try clear c2 c2b0 c3 c3b0 c4 c4b0 c5 c5b0 c5b1 c5b2 c7 c7b0 c7b1 hcv23 c26 hcz20_0 hcz20_1 hcz24_0 hcz24_1 hfz20_0 hfz20_1 hfz24_0 hfz24_1 hx695_0 hx695_1 p695 q695
          obtain⟨kq,x40_30,rfl,HA,HJ30,BK696,HB⟩:=hcut
          cases kq with
          |zero=>exact absurd HA.out (by simp[spec_l6Bytes.j2])
          |succ kj30=>
           have H:=HA.out
           clear HA
           simp only[spec_l6Bytes.j2] at H
           by_cases c33:x40_30=true
           ·
            subst c33
            replace H:=iT_ H
            replace H:=bi_ H
            obtain⟨t705,A340,H⟩:=H
            have A34:=A_ A340
            clear A340
            by_cases c35:(x3_1++(strOfNums y697)).size+t705.size≤9223372036854775807
            ·
             rw[if_pos c35] at H
             have c35b0:=eq_true c35
             have c35b1:=decide_eq_true c35
             try have c35b2:(9223372036854775807<(x3_1++(strOfNums y697)).size+t705.size)=False:=eq_false (Nat.not_lt.2 c35)
             try have c35b3:=c35b0
             try simp only[ByteArray.size_append] at c35b3
             try have c35b4:=c35b1
             try simp only[ByteArray.size_append] at c35b4
             try have c35b5:=c35b2
             try simp only[ByteArray.size_append] at c35b5
             have H':=A_ H
             clear H
             obtain⟨hcz36_0,hcz36_1⟩:=cs2_ BK696.out
             obtain⟨hfz36_0,hfz36_1⟩:=fz2_ BK696.out
             go_wp2_with (first|((with_reducible refine gc_ 35 rfl ?_);refine gm_ (some 46) Try.func35 (spec_l1Sleb.calls kj30 ((rd_T37 l0 x8_1).f1) t705 _ A34.out) ?_;intro w37 hb;replace BK696:=kb_ BK696 hb;replace HB:=bs_ HB hb;(try clear hb)))
             go_roundg kj30
             case measure=>have:=HK1.out;have:=HJ17.out;have:=HJ30.out;omega
             case rel=>exact⟨((x3_1++(strOfNums y697))++t705),(wrap64 (x8_1+1)),rs_,rs_,H',⟨by have:=HK1.out;have:=HJ17.out;have:=HJ30.out;omega⟩,⟨bw HB.out⟩⟩
            rw[if_neg c35] at H
            exact absurd H (by simp)
           replace c33:=Bool.eq_false_iff.mpr c33
           subst c33
           replace H:=iF_ H
           by_cases c38:t700=6
           ·
            rw[if_pos c38] at H
            obtain⟨c38b0,c38b1⟩:=eT_ c38
            clear c38
            replace H:=bi_ H
            obtain⟨t706,A390,H⟩:=H
            have A39:=A_ A390
            clear A390
            by_cases c40:(x3_1++(strOfNums y697)).size+t706.size≤9223372036854775807
            ·
             rw[if_pos c40] at H
             have c40b0:=eq_true c40
             have c40b1:=decide_eq_true c40
             try have c40b2:(9223372036854775807<(x3_1++(strOfNums y697)).size+t706.size)=False:=eq_false (Nat.not_lt.2 c40)
             try have c40b3:=c40b0
             try simp only[ByteArray.size_append] at c40b3
             try have c40b4:=c40b1
             try simp only[ByteArray.size_append] at c40b4
             try have c40b5:=c40b2
             try simp only[ByteArray.size_append] at c40b5
             have H':=A_ H
             clear H
             obtain⟨hcz41_0,hcz41_1⟩:=cs2_ BK696.out
             obtain⟨hfz41_0,hfz41_1⟩:=fz2_ BK696.out
             go_wp2_with (first|((with_reducible refine gc_ 36 rfl ?_);refine gm_ (some 54) Try.func36 (spec_l5Bytes.calls kj30 (IntKind.u64.wrap (((rd_T37 l0 x8_1).f1))) 4 t706 _ A39.out) ?_;intro w42 hb;replace BK696:=kb_ BK696 hb;replace HB:=bs_ HB hb;(try clear hb)))
             go_roundg kj30
             case measure=>have:=HK1.out;have:=HJ17.out;have:=HJ30.out;omega
             case rel=>exact⟨((x3_1++(strOfNums y697))++t706),(wrap64 (x8_1+1)),rs_,rs_,H',⟨by have:=HK1.out;have:=HJ17.out;have:=HJ30.out;omega⟩,⟨bw HB.out⟩⟩
            rw[if_neg c40] at H
            exact absurd H (by simp)
           rw[if_neg c38] at H
           obtain⟨c38b0,c38b1⟩:=eF_ c38
           have H':=A_ H
           clear H
           go_wp2
           go_roundg kj30
           case measure=>have:=HK1.out;have:=HJ17.out;have:=HJ30.out;omega
           case rel=>exact⟨((x3_1++(strOfNums y697))),(wrap64 (x8_1+1)),rs_,rs_,H',⟨by have:=HK1.out;have:=HJ17.out;have:=HJ30.out;omega⟩,⟨bw HB.out⟩⟩
      rw[if_neg c5] at H
      exact absurd H (by simp)
     rw[if_neg c4] at H
     exact absurd H (by simp)
    rw[if_neg c3] at H
    exact absurd H (by simp)
   rw[if_neg c2] at H
   have c2b0:=decide_eq_false c2
   clear c2
   obtain rfl:=Option.some.inj H
   clear H
   go_wp2
   go_ret
   exact⟨rr_,bw HB.out⟩

/-! ### spec_CodeBytes: function 6 -/
def spec_CodeBytes.f (k:Nat) (l0:List (S37)):Option (ByteArray × Bool):=(spec_l6Good.f k l0).bind fun t707=>(if t707=true then ((spec_l6Bytes.f k l0).bind fun t708=>(some (t708,true))) else (some ((⟨#[]⟩:ByteArray),false)))
theorem spec_CodeBytes.calls (k:Nat) (A0:Option Addr) (c0:Nat) (l0:List (S37)) (r1:ByteArray) (r2:Bool) (w:World) (hr0:Kd.C k37 w A0 l0.length l0) (hc0:l0.length≤c0) (h:spec_CodeBytes.f k l0=some (r1,r2)):
  Calls Try.prog 6 #[.slice A0 l0.length c0] w fun e w'=>e=.returned (.tuple #[.string r1,.bool r2])∧Below w.heap.size w w':=by
 have HR0:=A_ hr0
 have HC0:=A_ hc0
 clear hr0 hc0
 have HB:=A_ (Below.refl w.heap.size w)
 have H:((spec_l6Good.f k l0).bind fun t707=>(if t707=true then ((spec_l6Bytes.f k l0).bind fun t708=>(some (t708,true))) else (some ((⟨#[]⟩:ByteArray),false))))=some (r1,r2):=h
 clear h
 replace H:=bi_ H
 obtain⟨t707,A20,H⟩:=H
 have A2:=A_ A20
 clear A20
 by_cases c3:t707=true
 ·
  subst c3
  replace H:=iT_ H
  replace H:=bi_ H
  obtain⟨t708,A40,H⟩:=H
  have A4:=A_ A40
  clear A40
  simp only[Option.some.injEq,Prod.mk.injEq] at H
  obtain⟨rfl,rfl⟩:=H
  go_enter Try.func6,Try.ntmps6
  go_wp2_with (first|((with_reducible refine gc_ 21 rfl ?_);refine goesL_ (some 5) rfl rfl Try.func21 (by kernel_rfl) rfl #[.slice A0 l0.length c0] rfl ar ?_;(with_reducible refine(spec_l6Good.calls k _ _ l0 true _ ?side1 ?side2 A2.out).mono ?_);(case side1=>repeat (first|exact HR0.out|(with_reducible refine Kd.C_alloc ?_ _)|(with_reducible refine Kd.C_drewN ?_ _)|(with_reducible refine Kd.C_drew ?_)));(case side2=>exact HC0.out);rintro e w5 ⟨rfl,hb⟩;refine⟨_,rfl,?_⟩;replace HB:=bs_ HB hb;(try clear hb))|((with_reducible refine gc_ 22 rfl ?_);refine gm_ (some 8) Try.func22 (spec_l6Bytes.calls k _ _ l0 t708 _ (cb_ HR0 HB) HC0.out A4.out) ?_;intro w6 hb;replace HB:=bs_ HB hb;(try clear hb)))
  go_ret2
  exact⟨rr_,bw HB.out⟩
 replace c3:=Bool.eq_false_iff.mpr c3
 subst c3
 replace H:=iF_ H
 simp only[Option.some.injEq,Prod.mk.injEq] at H
 obtain⟨rfl,rfl⟩:=H
 go_enter Try.func6,Try.ntmps6
 go_wp2_with (first|((with_reducible refine gc_ 21 rfl ?_);refine goesL_ (some 5) rfl rfl Try.func21 (by kernel_rfl) rfl #[.slice A0 l0.length c0] rfl ar ?_;(with_reducible refine(spec_l6Good.calls k _ _ l0 false _ ?side1 ?side2 A2.out).mono ?_);(case side1=>repeat (first|exact HR0.out|(with_reducible refine Kd.C_alloc ?_ _)|(with_reducible refine Kd.C_drewN ?_ _)|(with_reducible refine Kd.C_drew ?_)));(case side2=>exact HC0.out);rintro e w7 ⟨rfl,hb⟩;refine⟨_,rfl,?_⟩;replace HB:=bs_ HB hb;(try clear hb)))
 go_ret2
 exact⟨rr_,bw HB.out⟩

/-! ### impl_TakeUleb: function 37 -/
mutual
def impl_TakeUleb.j0:Nat→ByteArray→Int→Bool→Option (Int × Int)
 |0,_,_,_=>none
 |k+1,x0,x1,x15=>if x15=true then (some (0,0)) else (impl_TakeUleb.l0 k x0 x1 0 0)
def impl_TakeUleb.l0:Nat→ByteArray→Int→Int→Int→Option (Int × Int)
 |0,_,_,_,_=>none
 |k+1,x0,x1,x6,x7=>if x7<(x0.size:Int) then (impl_TakeUleb.j2 k x0 x1 x6 x7 (decide (x7<(wrap64 (Int.tdiv (wrap64 (x1+6)) 7))))) else (impl_TakeUleb.j2 k x0 x1 x6 x7 false)
def impl_TakeUleb.j2:Nat→ByteArray→Int→Int→Int→Bool→Option (Int × Int)
 |0,_,_,_,_,_=>none
 |k+1,x0,x1,x6,x7,x26=>if x26=true then (if 0≤x7 then (if x7<(x0.size:Int) then (if (wrap64 (x1 - (wrap64 (7*x7))))<7 then (if 0≤(wrap64 (x1 - (wrap64 (7*x7)))) then (impl_TakeUleb.j3 k x0 x1 x6 x7 (IntKind.u64.wrap (Go.bits .and .u8 (bt x0 x7) 127)) ((shr .u64 (IntKind.u64.wrap (Go.bits .and .u8 (bt x0 x7) 127)) (wrap64 (x1 - (wrap64 (7*x7))))) !=0)) else (none)) else (impl_TakeUleb.j3 k x0 x1 x6 x7 (IntKind.u64.wrap (Go.bits .and .u8 (bt x0 x7) 127)) false)) else (none)) else (none)) else (some (0,0))
def impl_TakeUleb.j3:Nat→ByteArray→Int→Int→Int→Int→Bool→Option (Int × Int)
 |0,_,_,_,_,_,_=>none
 |k+1,x0,x1,x6,x7,x8,x45=>if x45=true then (some (0,0)) else (if 0≤(wrap64 (7*x7)) then (if 0≤x7 then (if x7<(x0.size:Int) then (if (bt x0 x7)<128 then (some (Go.bits .or .u64 x6 (shl .u64 x8 (wrap64 (7*x7))),wrap64 (x7+1))) else (impl_TakeUleb.l0 k x0 x1 (Go.bits .or .u64 x6 (shl .u64 x8 (wrap64 (7*x7)))) (wrap64 (x7+1)))) else (none)) else (none)) else (none))
end
def impl_TakeUleb.f (k:Nat) (a0:ByteArray) (a1:Int):Option (Int × Int):=if a1<1 then (impl_TakeUleb.j0 k a0 a1 true) else (impl_TakeUleb.j0 k a0 a1 (decide (a1 > 64)))
theorem impl_TakeUleb.calls (k:Nat) (a0:ByteArray) (a1:Int) (r1:Int) (r2:Int) (w:World) (h:impl_TakeUleb.f k a0 a1=some (r1,r2)):
  Calls Try.prog 37 #[.string a0,.int .i64 a1] w fun e w'=>e=.returned (.tuple #[.int .u64 r1,.int .i64 r2])∧Drawn0 w w':=by
 have H:(if a1<1 then (impl_TakeUleb.j0 k a0 a1 true) else (impl_TakeUleb.j0 k a0 a1 (decide (a1 > 64))))=some (r1,r2):=h
 clear h
 have HC3:=A_ H
 clear H
 go_enter Try.func37,Try.ntmps37
 go_upto_region 1 with (fail)
 go_cut [15] (fun v15 wc=>∃ (kq:Nat) (x15_2:Bool),v15=.bool x15_2∧Aside0 (impl_TakeUleb.j0 kq a0 a1 x15_2=some (r1,r2))∧Aside0 (kq≤k)∧Drawn0 w wc)
 case first=>
  have H:=HC3.out
  clear HC3
  by_cases c4:a1<1
  ·
   rw[if_pos c4] at H
   have c4b0:=decide_eq_true c4
   clear c4
   (first|rw[c4b0]|(simp only[i64_w,i32_w];rw[c4b0])|skip)
   have H':=A_ H
   clear H
   go_wp2
   go_meet
   case rel=>exact⟨_,(true),rs_,H',⟨by first|omega|exact Nat.le_refl _⟩,dr_⟩
  rw[if_neg c4] at H
  have c4b0:=decide_eq_false c4
  clear c4
  (first|rw[c4b0]|(simp only[i64_w,i32_w];rw[c4b0])|skip)
  have H':=A_ H
  clear H
  go_wp2
  go_meet
  case rel=>exact⟨_,(decide (a1 > 64)),rs_,H',⟨by first|omega|exact Nat.le_refl _⟩,dr_⟩
 case rest=>
  clear HC3
  obtain⟨kq,x15_2,rfl,HA,HJ2,⟨mc2,rfl⟩⟩:=hcut
  cases kq with
  |zero=>exact absurd HA.out (by simp[impl_TakeUleb.j0])
  |succ kj2=>
   have H:=HA.out
   clear HA
   simp only[impl_TakeUleb.j0] at H
   by_cases c5:x15_2=true
   ·
    subst c5
    replace H:=iT_ H
    simp only[Option.some.injEq,Prod.mk.injEq] at H
    obtain⟨rfl,rfl⟩:=H
    go_wp2
    go_ret2
    exact⟨rs_,dr_⟩
   replace c5:=Bool.eq_false_iff.mpr c5
   subst c5
   replace H:=iF_ H
   have H':=A_ H
   clear H
   go_wp2
   (try simp only[Act.put,List.setIfInBounds_toArray,List.set_cons_zero,List.set_cons_succ])
   go_loopg [6,7] kj2 (fun kq v6 v7 w'=>∃ (x6_2:Int) (x7_2:Int),v6=.int .u64 x6_2∧v7=.int .i64 x7_2∧Aside0 (impl_TakeUleb.l0 kq a0 a1 x6_2 x7_2=some (r1,r2))∧Aside0 (kq≤kj2)∧Drawn0 w w')
   case atStart=>exact⟨(0),(0),rs_,rs_,H',⟨Nat.le_refl _⟩,dr_⟩
   case round=>
    clear H'
    try clear c5
    obtain⟨x6_2,x7_2,rfl,rfl,HA,HK2,⟨m2,rfl⟩⟩:=hrel
    cases gk with
    |zero=>exact absurd HA.out (by simp[impl_TakeUleb.l0])
    |succ k2=>
     have H:=HA.out
     clear HA
     simp only[impl_TakeUleb.l0] at H
     have HC6:=A_ H
     clear H
     go_upto_region 5 with (fail)
     go_cut [26] (fun v26 wc=>∃ (kq:Nat) (x26_5:Bool),v26=.bool x26_5∧Aside0 (impl_TakeUleb.j2 kq a0 a1 x6_2 x7_2 x26_5=some (r1,r2))∧Aside0 (kq≤k2)∧Drawn0 w wc)
     case first=>
      have H:=HC6.out
      clear HC6
      by_cases c7:x7_2<(a0.size:Int)
      ·
       rw[if_pos c7] at H
       have c7b0:=decide_eq_true c7
       clear c7
       (first|rw[c7b0]|(simp only[i64_w,i32_w];rw[c7b0])|skip)
       have H':=A_ H
       clear H
       go_wp2
       go_meet
       case rel=>exact⟨_,(decide (x7_2<(wrap64 (Int.tdiv (wrap64 (a1+6)) 7)))),rs_,H',⟨by have:=HJ2.out;have:=HK2.out;first|omega|exact Nat.le_refl _⟩,dr_⟩
      rw[if_neg c7] at H
      have c7b0:=decide_eq_false c7
      clear c7
      (first|rw[c7b0]|(simp only[i64_w,i32_w];rw[c7b0])|skip)
      have H':=A_ H
      clear H
      go_wp2
      go_meet
      case rel=>exact⟨_,(false),rs_,H',⟨by have:=HJ2.out;have:=HK2.out;first|omega|exact Nat.le_refl _⟩,dr_⟩
     case rest=>
      clear HC6
      try clear c5
      obtain⟨kq,x26_5,rfl,HA,HJ5,⟨mc5,rfl⟩⟩:=hcut
      cases kq with
      |zero=>exact absurd HA.out (by simp[impl_TakeUleb.j2])
      |succ kj5=>
       have H:=HA.out
       clear HA
       simp only[impl_TakeUleb.j2] at H
       by_cases c8:x26_5=true
       ·
        subst c8
        replace H:=iT_ H
        by_cases c9:0≤x7_2
        ·
         rw[if_pos c9] at H
         have c9b0:=decide_eq_true c9
         clear c9
         by_cases c10:x7_2<(a0.size:Int)
         ·
          rw[if_pos c10] at H
          have c10b0:=decide_eq_true c10
          clear c10
          have HC12:=A_ H
          clear H
          have p11:0≤(x7_2:Int):=od_
          have q11:x7_2<(a0.size:Int):=od_
          have hx11:=bt_at a0 x7_2
          replace p11:=eq_true p11
          replace q11:=eq_true q11
          go_upto_region 9 with (fail)
          go_cut [45] (fun v45 wc=>∃ (kq:Nat) (x45_11:Bool),v45=.bool x45_11∧Aside0 (impl_TakeUleb.j3 kq a0 a1 x6_2 x7_2 (IntKind.u64.wrap (Go.bits .and .u8 (bt a0 x7_2) 127)) x45_11=some (r1,r2))∧Aside0 (kq≤kj5)∧Drawn0 w wc)
          case first=>
           have H:=HC12.out
           clear HC12
           by_cases c13:(wrap64 (a1 - (wrap64 (7*x7_2))))<7
           ·
            rw[if_pos c13] at H
            have c13b0:=decide_eq_true c13
            clear c13
            (first|rw[c13b0]|(simp only[i64_w,i32_w];rw[c13b0])|skip)
            obtain⟨ji14,hji14⟩:∃ j_:Int,(wrap64 (a1 - (wrap64 (7*x7_2))))=j_:=⟨_,rfl⟩
            replace H:(if 0≤(ji14) then (impl_TakeUleb.j3 kj5 a0 a1 x6_2 x7_2 (IntKind.u64.wrap (Go.bits .and .u8 (bt a0 x7_2) 127)) ((shr .u64 (IntKind.u64.wrap (Go.bits .and .u8 (bt a0 x7_2) 127)) (ji14)) !=0)) else (none))=some (r1,r2):=by first|(rw[hji14] at H;exact H)|(simp only[hji14] at H ⊢;exact H)
            (try rw[hji14] at c13b0)
            have hji14w:(IntKind.i64.wrap (a1 - (wrap64 (7*x7_2))))=ji14:=(i64_w _).trans hji14
            by_cases c15:0≤(ji14)
            ·
             rw[if_pos c15] at H
             have c15b0:=eq_true c15
             have c15b1:=decide_eq_true c15
             clear c15
             obtain⟨ji16,hji16⟩:∃ j_:Int,(shr .u64 (IntKind.u64.wrap (Go.bits .and .u8 (bt a0 x7_2) 127)) (ji14))=j_:=⟨_,rfl⟩
             replace H:(impl_TakeUleb.j3 kj5 a0 a1 x6_2 x7_2 (IntKind.u64.wrap (Go.bits .and .u8 (bt a0 x7_2) 127)) ((ji16) !=0))=some (r1,r2):=by first|(rw[hji16] at H;exact H)|(simp only[hji16] at H ⊢;exact H)
             have hji16_:((IntKind.u64.wrap (Go.bits .and .u8 (bt a0 x7_2) 127)) / 2 ^ min (ji14).toNat 64)=ji16:=hji16
             have hji16z:(ji14)≤64→((IntKind.u64.wrap (Go.bits .and .u8 (bt a0 x7_2) 127)) / 2 ^ (ji14).toNat)=ji16:=shr_small hji16
             have H':=A_ H
             clear H
             go_wp2
             first|go_meet|((simp only[←hji16]);go_meet)|((simp only[←hji14]);go_meet)|((simp only[←hji16,←hji14]);go_meet)
             case rel=>exact⟨_,(((ji16) !=0)),(by first|rfl|(simp;done)|(simp only[←hji16]<;>(first|rfl|simp))|(simp[*];done)),H',⟨by have:=HJ2.out;have:=HK2.out;have:=HJ5.out;first|omega|exact Nat.le_refl _⟩,dr_⟩
            rw[if_neg c15] at H
            exact absurd H (by simp)
           rw[if_neg c13] at H
           have c13b0:=decide_eq_false c13
           clear c13
           (first|rw[c13b0]|(simp only[i64_w,i32_w];rw[c13b0])|skip)
           have H':=A_ H
           clear H
           go_wp2
           go_meet
           case rel=>exact⟨_,(false),rs_,H',⟨by have:=HJ2.out;have:=HK2.out;have:=HJ5.out;first|omega|exact Nat.le_refl _⟩,dr_⟩
          case rest=>
           clear HC12
           try clear c5 c8 c9 c9b0 c10 c10b0 p11 q11 hx11 p11 q11
           obtain⟨kq,x45_11,rfl,HA,HJ11,⟨mc11,rfl⟩⟩:=hcut
           cases kq with
           |zero=>exact absurd HA.out (by simp[impl_TakeUleb.j3])
           |succ kj11=>
            have H:=HA.out
            clear HA
            simp only[impl_TakeUleb.j3] at H
            by_cases c17:x45_11=true
            ·
             subst c17
             replace H:=iT_ H
             simp only[Option.some.injEq,Prod.mk.injEq] at H
             obtain⟨rfl,rfl⟩:=H
             go_wp2
             go_ret2
             exact⟨rs_,dr_⟩
            replace c17:=Bool.eq_false_iff.mpr c17
            subst c17
            replace H:=iF_ H
            obtain⟨ji18,hji18⟩:∃ j_:Int,(wrap64 (7*x7_2))=j_:=⟨_,rfl⟩
            replace H:(if 0≤(ji18) then (if 0≤x7_2 then (if x7_2<(a0.size:Int) then (if (bt a0 x7_2)<128 then (some (Go.bits .or .u64 x6_2 (shl .u64 (IntKind.u64.wrap (Go.bits .and .u8 (bt a0 x7_2) 127)) (ji18)),wrap64 (x7_2+1))) else (impl_TakeUleb.l0 kj11 a0 a1 (Go.bits .or .u64 x6_2 (shl .u64 (IntKind.u64.wrap (Go.bits .and .u8 (bt a0 x7_2) 127)) (ji18))) (wrap64 (x7_2+1)))) else (none)) else (none)) else (none))=some (r1,r2):=by first|(rw[hji18] at H;exact H)|(simp only[hji18] at H ⊢;exact H)
            have hji18w:(IntKind.i64.wrap (7*x7_2))=ji18:=(i64_w _).trans hji18
            by_cases c19:0≤(ji18)
            ·
             rw[if_pos c19] at H
             have c19b0:=eq_true c19
             have c19b1:=decide_eq_true c19
             clear c19
             obtain⟨ji20,hji20⟩:∃ j_:Int,(shl .u64 (IntKind.u64.wrap (Go.bits .and .u8 (bt a0 x7_2) 127)) (ji18))=j_:=⟨_,rfl⟩
             replace H:(if 0≤x7_2 then (if x7_2<(a0.size:Int) then (if (bt a0 x7_2)<128 then (some (Go.bits .or .u64 x6_2 (ji20),wrap64 (x7_2+1))) else (impl_TakeUleb.l0 kj11 a0 a1 (Go.bits .or .u64 x6_2 (ji20)) (wrap64 (x7_2+1)))) else (none)) else (none))=some (r1,r2):=by first|(rw[hji20] at H;exact H)|(simp only[hji20] at H ⊢;exact H)
             have hji20_:(IntKind.u64.wrap ((IntKind.u64.wrap (Go.bits .and .u8 (bt a0 x7_2) 127))*2 ^ min (ji18).toNat 64))=ji20:=hji20
             have hji20z:(ji18)≤64→(IntKind.u64.wrap ((IntKind.u64.wrap (Go.bits .and .u8 (bt a0 x7_2) 127))*2 ^ (ji18).toNat))=ji20:=shl_small hji20
             by_cases c21:0≤x7_2
             ·
              rw[if_pos c21] at H
              have c21b0:=decide_eq_true c21
              clear c21
              by_cases c22:x7_2<(a0.size:Int)
              ·
               rw[if_pos c22] at H
               have c22b0:=decide_eq_true c22
               clear c22
               by_cases c24:(bt a0 x7_2)<128
               ·
                rw[if_pos c24] at H
                have c24b0:=decide_eq_true c24
                clear c24
                simp only[Option.some.injEq,Prod.mk.injEq] at H
                obtain⟨rfl,rfl⟩:=H
                have p23:0≤(x7_2:Int):=od_
                have q23:x7_2<(a0.size:Int):=od_
                have hx23:=bt_at a0 x7_2
                replace p23:=eq_true p23
                replace q23:=eq_true q23
                go_wp2
                go_ret2
                exact⟨by first|rfl|(simp;done)|(simp only[←hji18,←hji20]<;>(first|rfl|simp))|(simp[*];done),dr_⟩
               rw[if_neg c24] at H
               have c24b0:=decide_eq_false c24
               clear c24
               have H':=A_ H
               clear H
               have p23:0≤(x7_2:Int):=od_
               have q23:x7_2<(a0.size:Int):=od_
               have hx23:=bt_at a0 x7_2
               replace p23:=eq_true p23
               replace q23:=eq_true q23
               go_wp2
               go_roundg kj11
               case measure=>have:=HJ2.out;have:=HK2.out;have:=HJ5.out;have:=HJ11.out;omega
               case rel=>exact⟨(Go.bits .or .u64 x6_2 (ji20)),(wrap64 (x7_2+1)),(by first|rfl|(simp;done)|(simp only[←hji20]<;>(first|rfl|simp))|(simp[*];done)),rs_,H',⟨by have:=HJ2.out;have:=HK2.out;have:=HJ5.out;have:=HJ11.out;omega⟩,dr_⟩
              rw[if_neg c22] at H
              exact absurd H (by simp)
             rw[if_neg c21] at H
             exact absurd H (by simp)
            rw[if_neg c19] at H
            exact absurd H (by simp)
         rw[if_neg c10] at H
         exact absurd H (by simp)
        rw[if_neg c9] at H
        exact absurd H (by simp)
       replace c8:=Bool.eq_false_iff.mpr c8
       subst c8
       replace H:=iF_ H
       simp only[Option.some.injEq,Prod.mk.injEq] at H
       obtain⟨rfl,rfl⟩:=H
       go_wp2
       go_ret2
       exact⟨rs_,dr_⟩

/-! ### impl_TakeSleb: function 38 -/
mutual
def impl_TakeSleb.j0:Nat→ByteArray→Int→Bool→Option (Int × Int)
 |0,_,_,_=>none
 |k+1,x0,x1,x16=>if x16=true then (some (0,0)) else (impl_TakeSleb.l0 k x0 x1 0 0)
def impl_TakeSleb.l0:Nat→ByteArray→Int→Int→Int→Option (Int × Int)
 |0,_,_,_,_=>none
 |k+1,x0,x1,x6,x7=>if x7<(x0.size:Int) then (impl_TakeSleb.j2 k x0 x1 x6 x7 (decide (x7<(wrap64 (Int.tdiv (wrap64 (x1+6)) 7))))) else (impl_TakeSleb.j2 k x0 x1 x6 x7 false)
def impl_TakeSleb.j2:Nat→ByteArray→Int→Int→Int→Bool→Option (Int × Int)
 |0,_,_,_,_,_=>none
 |k+1,x0,x1,x6,x7,x27=>if x27=true then (if 0≤x7 then (if x7<(x0.size:Int) then (if (wrap64 (Go.bits .and .u8 (bt x0 x7) 127))≥64 then (impl_TakeSleb.j3 k x0 x1 x6 x7 (wrap64 (Go.bits .and .u8 (bt x0 x7) 127)) (wrap64 ((wrap64 (Go.bits .and .u8 (bt x0 x7) 127)) - 128))) else (impl_TakeSleb.j3 k x0 x1 x6 x7 (wrap64 (Go.bits .and .u8 (bt x0 x7) 127)) (wrap64 (Go.bits .and .u8 (bt x0 x7) 127)))) else (none)) else (none)) else (some (0,0))
def impl_TakeSleb.j3:Nat→ByteArray→Int→Int→Int→Int→Int→Option (Int × Int)
 |0,_,_,_,_,_,_=>none
 |k+1,x0,x1,x6,x7,x8,x9=>if (wrap64 (x1 - (wrap64 (7*x7))))<7 then (if 0≤(wrap64 ((wrap64 (x1 - (wrap64 (7*x7)))) - 1)) then (if (shr .i64 x9 (wrap64 ((wrap64 (x1 - (wrap64 (7*x7)))) - 1)))=0 then (impl_TakeSleb.j4 k x0 x1 x6 x7 x8 x9 false) else (impl_TakeSleb.j4 k x0 x1 x6 x7 x8 x9 ((shr .i64 x9 (wrap64 ((wrap64 (x1 - (wrap64 (7*x7)))) - 1))) !=(-1)))) else (none)) else (impl_TakeSleb.j4 k x0 x1 x6 x7 x8 x9 false)
def impl_TakeSleb.j4:Nat→ByteArray→Int→Int→Int→Int→Int→Bool→Option (Int × Int)
 |0,_,_,_,_,_,_,_=>none
 |k+1,x0,x1,x6,x7,x8,x9,x59=>if x59=true then (some (0,0)) else (if 0≤x7 then (if x7<(x0.size:Int) then (if (bt x0 x7)<128 then (if 0≤(wrap64 (7*x7)) then (some (Go.bits .or .i64 x6 (shl .i64 x9 (wrap64 (7*x7))),wrap64 (x7+1))) else (none)) else (if 0≤(wrap64 (7*x7)) then (impl_TakeSleb.l0 k x0 x1 (Go.bits .or .i64 x6 (shl .i64 x8 (wrap64 (7*x7)))) (wrap64 (x7+1))) else (none))) else (none)) else (none))
end
def impl_TakeSleb.f (k:Nat) (a0:ByteArray) (a1:Int):Option (Int × Int):=if a1<1 then (impl_TakeSleb.j0 k a0 a1 true) else (impl_TakeSleb.j0 k a0 a1 (decide (a1 > 64)))
theorem impl_TakeSleb.mono_l:∀ k,(∀ y0 y1 y2,LeO (impl_TakeSleb.j0 k y0 y1 y2) (impl_TakeSleb.j0 (k+1) y0 y1 y2))∧(∀ y0 y1 y2 y3,LeO (impl_TakeSleb.l0 k y0 y1 y2 y3) (impl_TakeSleb.l0 (k+1) y0 y1 y2 y3))∧(∀ y0 y1 y2 y3 y4,LeO (impl_TakeSleb.j2 k y0 y1 y2 y3 y4) (impl_TakeSleb.j2 (k+1) y0 y1 y2 y3 y4))∧(∀ y0 y1 y2 y3 y4 y5,LeO (impl_TakeSleb.j3 k y0 y1 y2 y3 y4 y5) (impl_TakeSleb.j3 (k+1) y0 y1 y2 y3 y4 y5))∧(∀ y0 y1 y2 y3 y4 y5 y6,LeO (impl_TakeSleb.j4 k y0 y1 y2 y3 y4 y5 y6) (impl_TakeSleb.j4 (k+1) y0 y1 y2 y3 y4 y5 y6))
 |0=>⟨fun _ _ _ r h=>by simp[impl_TakeSleb.j0] at h,fun _ _ _ _ r h=>by simp[impl_TakeSleb.l0] at h,fun _ _ _ _ _ r h=>by simp[impl_TakeSleb.j2] at h,fun _ _ _ _ _ _ r h=>by simp[impl_TakeSleb.j3] at h,fun _ _ _ _ _ _ _ r h=>by simp[impl_TakeSleb.j4] at h⟩
 |k+1=>by
  obtain⟨ih0,ih1,ih2,ih3,ih4⟩:=impl_TakeSleb.mono_l k
  refine⟨?_,?_,?_,?_,?_⟩
  ·
   intro y0 y1 y2
   unfold impl_TakeSleb.j0
   repeat' first
   |(with_reducible exact ih0 _ _ _)
   |(with_reducible exact ih1 _ _ _ _)
   |(with_reducible exact ih2 _ _ _ _ _)
   |(with_reducible exact ih3 _ _ _ _ _ _)
   |(with_reducible exact ih4 _ _ _ _ _ _ _)
   |(with_reducible exact LeO.refl _)
   |(with_reducible exact LeO.none _)
   |(with_reducible refine LeO.ite ?_ ?_)
   |(with_reducible refine LeO.bind ?_ (fun _=>?_))
   |exact ih0 _ _ _
   |exact ih1 _ _ _ _
   |exact ih2 _ _ _ _ _
   |exact ih3 _ _ _ _ _ _
   |exact ih4 _ _ _ _ _ _ _
   |exact LeO.none _
   |refine LeO.ite ?_ ?_
   |refine LeO.bind ?_ (fun _=>?_)
  ·
   intro y0 y1 y2 y3
   unfold impl_TakeSleb.l0
   repeat' first
   |(with_reducible exact ih0 _ _ _)
   |(with_reducible exact ih1 _ _ _ _)
   |(with_reducible exact ih2 _ _ _ _ _)
   |(with_reducible exact ih3 _ _ _ _ _ _)
   |(with_reducible exact ih4 _ _ _ _ _ _ _)
   |(with_reducible exact LeO.refl _)
   |(with_reducible exact LeO.none _)
   |(with_reducible refine LeO.ite ?_ ?_)
   |(with_reducible refine LeO.bind ?_ (fun _=>?_))
   |exact ih0 _ _ _
   |exact ih1 _ _ _ _
   |exact ih2 _ _ _ _ _
   |exact ih3 _ _ _ _ _ _
   |exact ih4 _ _ _ _ _ _ _
   |exact LeO.none _
   |refine LeO.ite ?_ ?_
   |refine LeO.bind ?_ (fun _=>?_)
  ·
   intro y0 y1 y2 y3 y4
   unfold impl_TakeSleb.j2
   repeat' first
   |(with_reducible exact ih0 _ _ _)
   |(with_reducible exact ih1 _ _ _ _)
   |(with_reducible exact ih2 _ _ _ _ _)
   |(with_reducible exact ih3 _ _ _ _ _ _)
   |(with_reducible exact ih4 _ _ _ _ _ _ _)
   |(with_reducible exact LeO.refl _)
   |(with_reducible exact LeO.none _)
   |(with_reducible refine LeO.ite ?_ ?_)
   |(with_reducible refine LeO.bind ?_ (fun _=>?_))
   |exact ih0 _ _ _
   |exact ih1 _ _ _ _
   |exact ih2 _ _ _ _ _
   |exact ih3 _ _ _ _ _ _
   |exact ih4 _ _ _ _ _ _ _
   |exact LeO.none _
   |refine LeO.ite ?_ ?_
   |refine LeO.bind ?_ (fun _=>?_)
  ·
   intro y0 y1 y2 y3 y4 y5
   unfold impl_TakeSleb.j3
   repeat' first
   |(with_reducible exact ih0 _ _ _)
   |(with_reducible exact ih1 _ _ _ _)
   |(with_reducible exact ih2 _ _ _ _ _)
   |(with_reducible exact ih3 _ _ _ _ _ _)
   |(with_reducible exact ih4 _ _ _ _ _ _ _)
   |(with_reducible exact LeO.refl _)
   |(with_reducible exact LeO.none _)
   |(with_reducible refine LeO.ite ?_ ?_)
   |(with_reducible refine LeO.bind ?_ (fun _=>?_))
   |exact ih0 _ _ _
   |exact ih1 _ _ _ _
   |exact ih2 _ _ _ _ _
   |exact ih3 _ _ _ _ _ _
   |exact ih4 _ _ _ _ _ _ _
   |exact LeO.none _
   |refine LeO.ite ?_ ?_
   |refine LeO.bind ?_ (fun _=>?_)
  intro y0 y1 y2 y3 y4 y5 y6
  unfold impl_TakeSleb.j4
  repeat' first
  |(with_reducible exact ih0 _ _ _)
  |(with_reducible exact ih1 _ _ _ _)
  |(with_reducible exact ih2 _ _ _ _ _)
  |(with_reducible exact ih3 _ _ _ _ _ _)
  |(with_reducible exact ih4 _ _ _ _ _ _ _)
  |(with_reducible exact LeO.refl _)
  |(with_reducible exact LeO.none _)
  |(with_reducible refine LeO.ite ?_ ?_)
  |(with_reducible refine LeO.bind ?_ (fun _=>?_))
  |exact ih0 _ _ _
  |exact ih1 _ _ _ _
  |exact ih2 _ _ _ _ _
  |exact ih3 _ _ _ _ _ _
  |exact ih4 _ _ _ _ _ _ _
  |exact LeO.none _
  |refine LeO.ite ?_ ?_
  |refine LeO.bind ?_ (fun _=>?_)
theorem impl_TakeSleb.calls (k:Nat) (a0:ByteArray) (a1:Int) (r1:Int) (r2:Int) (w:World) (h:impl_TakeSleb.f k a0 a1=some (r1,r2)):
  Calls Try.prog 38 #[.string a0,.int .i64 a1] w fun e w'=>e=.returned (.tuple #[.int .i64 r1,.int .i64 r2])∧Drawn0 w w':=by
 have H:(if a1<1 then (impl_TakeSleb.j0 k a0 a1 true) else (impl_TakeSleb.j0 k a0 a1 (decide (a1 > 64))))=some (r1,r2):=h
 clear h
 have HC3:=A_ H
 clear H
 go_enter Try.func38,Try.ntmps38
 go_upto_region 1 with (fail)
 go_cut [16] (fun v16 wc=>∃ (kq:Nat) (x16_2:Bool),v16=.bool x16_2∧Aside0 (impl_TakeSleb.j0 kq a0 a1 x16_2=some (r1,r2))∧Aside0 (kq≤k)∧Drawn0 w wc)
 case first=>
  have H:=HC3.out
  clear HC3
  by_cases c4:a1<1
  ·
   rw[if_pos c4] at H
   have c4b0:=decide_eq_true c4
   clear c4
   (first|rw[c4b0]|(simp only[i64_w,i32_w];rw[c4b0])|skip)
   have H':=A_ H
   clear H
   go_wp2
   go_meet
   case rel=>exact⟨_,(true),rs_,H',⟨by first|omega|exact Nat.le_refl _⟩,dr_⟩
  rw[if_neg c4] at H
  have c4b0:=decide_eq_false c4
  clear c4
  (first|rw[c4b0]|(simp only[i64_w,i32_w];rw[c4b0])|skip)
  have H':=A_ H
  clear H
  go_wp2
  go_meet
  case rel=>exact⟨_,(decide (a1 > 64)),rs_,H',⟨by first|omega|exact Nat.le_refl _⟩,dr_⟩
 case rest=>
  clear HC3
  obtain⟨kq,x16_2,rfl,HA,HJ2,⟨mc2,rfl⟩⟩:=hcut
  cases kq with
  |zero=>exact absurd HA.out (by simp[impl_TakeSleb.j0])
  |succ kj2=>
   have H:=HA.out
   clear HA
   simp only[impl_TakeSleb.j0] at H
   by_cases c5:x16_2=true
   ·
    subst c5
    replace H:=iT_ H
    simp only[Option.some.injEq,Prod.mk.injEq] at H
    obtain⟨rfl,rfl⟩:=H
    go_wp2
    go_ret2
    exact⟨rs_,dr_⟩
   replace c5:=Bool.eq_false_iff.mpr c5
   subst c5
   replace H:=iF_ H
   have H':=A_ H
   clear H
   go_wp2
   (try simp only[Act.put,List.setIfInBounds_toArray,List.set_cons_zero,List.set_cons_succ])
   go_loopg [6,7] kj2 (fun kq v6 v7 w'=>∃ (x6_2:Int) (x7_2:Int),v6=.int .i64 x6_2∧v7=.int .i64 x7_2∧Aside0 (impl_TakeSleb.l0 kq a0 a1 x6_2 x7_2=some (r1,r2))∧Aside0 (kq≤kj2)∧Drawn0 w w')
   case atStart=>exact⟨(0),(0),rs_,rs_,H',⟨Nat.le_refl _⟩,dr_⟩
   case round=>
    clear H'
    try clear c5
    obtain⟨x6_2,x7_2,rfl,rfl,HA,HK2,⟨m2,rfl⟩⟩:=hrel
    cases gk with
    |zero=>exact absurd HA.out (by simp[impl_TakeSleb.l0])
    |succ k2=>
     have H:=HA.out
     clear HA
     simp only[impl_TakeSleb.l0] at H
     have HC6:=A_ H
     clear H
     go_upto_region 5 with (fail)
     go_cut [27] (fun v27 wc=>∃ (kq:Nat) (x27_5:Bool),v27=.bool x27_5∧Aside0 (impl_TakeSleb.j2 kq a0 a1 x6_2 x7_2 x27_5=some (r1,r2))∧Aside0 (kq≤k2)∧Drawn0 w wc)
     case first=>
      have H:=HC6.out
      clear HC6
      by_cases c7:x7_2<(a0.size:Int)
      ·
       rw[if_pos c7] at H
       have c7b0:=decide_eq_true c7
       clear c7
       (first|rw[c7b0]|(simp only[i64_w,i32_w];rw[c7b0])|skip)
       have H':=A_ H
       clear H
       go_wp2
       go_meet
       case rel=>exact⟨_,(decide (x7_2<(wrap64 (Int.tdiv (wrap64 (a1+6)) 7)))),rs_,H',⟨by have:=HJ2.out;have:=HK2.out;first|omega|exact Nat.le_refl _⟩,dr_⟩
      rw[if_neg c7] at H
      have c7b0:=decide_eq_false c7
      clear c7
      (first|rw[c7b0]|(simp only[i64_w,i32_w];rw[c7b0])|skip)
      have H':=A_ H
      clear H
      go_wp2
      go_meet
      case rel=>exact⟨_,(false),rs_,H',⟨by have:=HJ2.out;have:=HK2.out;first|omega|exact Nat.le_refl _⟩,dr_⟩
     case rest=>
      clear HC6
      try clear c5
      obtain⟨kq,x27_5,rfl,HA,HJ5,⟨mc5,rfl⟩⟩:=hcut
      cases kq with
      |zero=>exact absurd HA.out (by simp[impl_TakeSleb.j2])
      |succ kj5=>
       have H:=HA.out
       clear HA
       simp only[impl_TakeSleb.j2] at H
       by_cases c8:x27_5=true
       ·
        subst c8
        replace H:=iT_ H
        by_cases c9:0≤x7_2
        ·
         rw[if_pos c9] at H
         have c9b0:=decide_eq_true c9
         clear c9
         by_cases c10:x7_2<(a0.size:Int)
         ·
          rw[if_pos c10] at H
          have c10b0:=decide_eq_true c10
          clear c10
          have HC12:=A_ H
          clear H
          have p11:0≤(x7_2:Int):=od_
          have q11:x7_2<(a0.size:Int):=od_
          have hx11:=bt_at a0 x7_2
          replace p11:=eq_true p11
          replace q11:=eq_true q11
          go_upto_if 37 with (fail)
          go_cut [9] (fun v9 wc=>∃ (kq:Nat) (x9_11:Int),v9=.int .i64 x9_11∧Aside0 (impl_TakeSleb.j3 kq a0 a1 x6_2 x7_2 (wrap64 (Go.bits .and .u8 (bt a0 x7_2) 127)) x9_11=some (r1,r2))∧Aside0 (kq≤kj5)∧Drawn0 w wc)
          case first=>
           have H:=HC12.out
           clear HC12
           by_cases c13:(wrap64 (Go.bits .and .u8 (bt a0 x7_2) 127))≥64
           ·
            rw[if_pos c13] at H
            have c13b0:=decide_eq_true c13
            clear c13
            (first|rw[c13b0]|(simp only[i64_w,i32_w];rw[c13b0])|skip)
            have H':=A_ H
            clear H
            go_wp2
            go_meet
            case rel=>exact⟨_,(wrap64 ((wrap64 (Go.bits .and .u8 (bt a0 x7_2) 127)) - 128)),rs_,H',⟨by have:=HJ2.out;have:=HK2.out;have:=HJ5.out;first|omega|exact Nat.le_refl _⟩,dr_⟩
           rw[if_neg c13] at H
           have c13b0:=decide_eq_false c13
           clear c13
           (first|rw[c13b0]|(simp only[i64_w,i32_w];rw[c13b0])|skip)
           have H':=A_ H
           clear H
           go_wp2
           go_meet
           case rel=>exact⟨_,(wrap64 (Go.bits .and .u8 (bt a0 x7_2) 127)),rs_,H',⟨by have:=HJ2.out;have:=HK2.out;have:=HJ5.out;first|omega|exact Nat.le_refl _⟩,dr_⟩
          case rest=>
           clear HC12
           try clear c5 c8 c9 c9b0 c10 c10b0 p11 q11 hx11 p11 q11
           obtain⟨kq,x9_11,rfl,HA,HJ11,⟨mc11,rfl⟩⟩:=hcut
           cases kq with
           |zero=>exact absurd HA.out (by simp[impl_TakeSleb.j3])
           |succ kj11=>
            have H:=HA.out
            clear HA
            simp only[impl_TakeSleb.j3] at H
            have HC14:=A_ H
            clear H
            go_upto_region 12 with (fail)
            go_cut [59] (fun v59 wc=>∃ (kq:Nat) (x59_13:Bool),v59=.bool x59_13∧Aside0 (impl_TakeSleb.j4 kq a0 a1 x6_2 x7_2 (wrap64 (Go.bits .and .u8 (bt a0 x7_2) 127)) x9_11 x59_13=some (r1,r2))∧Aside0 (kq≤kj11)∧Drawn0 w wc)
            case first=>
             have H:=HC14.out
             clear HC14
             by_cases c15:(wrap64 (a1 - (wrap64 (7*x7_2))))<7
             ·
              rw[if_pos c15] at H
              have c15b0:=decide_eq_true c15
              clear c15
              (first|rw[c15b0]|(simp only[i64_w,i32_w];rw[c15b0])|skip)
              obtain⟨ji16,hji16⟩:∃ j_:Int,(wrap64 ((wrap64 (a1 - (wrap64 (7*x7_2)))) - 1))=j_:=⟨_,rfl⟩
              replace H:(if 0≤(ji16) then (if (shr .i64 x9_11 (ji16))=0 then (impl_TakeSleb.j4 kj11 a0 a1 x6_2 x7_2 (wrap64 (Go.bits .and .u8 (bt a0 x7_2) 127)) x9_11 false) else (impl_TakeSleb.j4 kj11 a0 a1 x6_2 x7_2 (wrap64 (Go.bits .and .u8 (bt a0 x7_2) 127)) x9_11 ((shr .i64 x9_11 (ji16)) !=(-1)))) else (none))=some (r1,r2):=by first|(rw[hji16] at H;exact H)|(simp only[hji16] at H ⊢;exact H)
              have hji16w:(IntKind.i64.wrap ((wrap64 (a1 - (wrap64 (7*x7_2)))) - 1))=ji16:=(i64_w _).trans hji16
              by_cases c17:0≤(ji16)
              ·
               rw[if_pos c17] at H
               have c17b0:=eq_true c17
               have c17b1:=decide_eq_true c17
               clear c17
               obtain⟨ji18,hji18⟩:∃ j_:Int,(shr .i64 x9_11 (ji16))=j_:=⟨_,rfl⟩
               replace H:(if (ji18)=0 then (impl_TakeSleb.j4 kj11 a0 a1 x6_2 x7_2 (wrap64 (Go.bits .and .u8 (bt a0 x7_2) 127)) x9_11 false) else (impl_TakeSleb.j4 kj11 a0 a1 x6_2 x7_2 (wrap64 (Go.bits .and .u8 (bt a0 x7_2) 127)) x9_11 ((ji18) !=(-1))))=some (r1,r2):=by first|(rw[hji18] at H;exact H)|(simp only[hji18] at H ⊢;exact H)
               have hji18_:(x9_11 / 2 ^ min (ji16).toNat 64)=ji18:=hji18
               have hji18z:(ji16)≤64→(x9_11 / 2 ^ (ji16).toNat)=ji18:=shr_small hji18
               by_cases c19:(ji18)=0
               ·
                rw[if_pos c19] at H
                obtain⟨c19b0,c19b1⟩:=eT_ c19
                clear c19
                have H':=A_ H
                clear H
                go_wp2
                first|go_meet|((simp only[←hji18]);go_meet)|((simp only[←hji16]);go_meet)|((simp only[←hji18,←hji16]);go_meet)
                case rel=>exact⟨_,(false),rs_,H',⟨by have:=HJ2.out;have:=HK2.out;have:=HJ5.out;have:=HJ11.out;first|omega|exact Nat.le_refl _⟩,dr_⟩
               rw[if_neg c19] at H
               obtain⟨c19b0,c19b1⟩:=eF_ c19
               have c20b0:=eq_true (od_:0≤(ji16))
               have H':=A_ H
               clear H
               go_wp2
               first|go_meet|((simp only[←hji18]);go_meet)|((simp only[←hji16]);go_meet)|((simp only[←hji18,←hji16]);go_meet)
               case rel=>exact⟨_,(((ji18) !=(-1))),(by first|rfl|(simp;done)|(simp only[←hji18]<;>(first|rfl|simp))|(simp[*];done)),H',⟨by have:=HJ2.out;have:=HK2.out;have:=HJ5.out;have:=HJ11.out;first|omega|exact Nat.le_refl _⟩,dr_⟩
              rw[if_neg c17] at H
              exact absurd H (by simp)
             rw[if_neg c15] at H
             have c15b0:=decide_eq_false c15
             clear c15
             (first|rw[c15b0]|(simp only[i64_w,i32_w];rw[c15b0])|skip)
             have H':=A_ H
             clear H
             go_wp2
             go_meet
             case rel=>exact⟨_,(false),rs_,H',⟨by have:=HJ2.out;have:=HK2.out;have:=HJ5.out;have:=HJ11.out;first|omega|exact Nat.le_refl _⟩,dr_⟩
            case rest=>
             clear HC14
             try clear c5 c8 c9 c9b0 c10 c10b0 p11 q11 hx11 p11 q11
             obtain⟨kq,x59_13,rfl,HA,HJ13,⟨mc13,rfl⟩⟩:=hcut
             cases kq with
             |zero=>exact absurd HA.out (by simp[impl_TakeSleb.j4])
             |succ kj13=>
              have H:=HA.out
              clear HA
              simp only[impl_TakeSleb.j4] at H
              by_cases c21:x59_13=true
              ·
               subst c21
               replace H:=iT_ H
               simp only[Option.some.injEq,Prod.mk.injEq] at H
               obtain⟨rfl,rfl⟩:=H
               go_wp2
               go_ret2
               exact⟨rs_,dr_⟩
              replace c21:=Bool.eq_false_iff.mpr c21
              subst c21
              replace H:=iF_ H
              by_cases c22:0≤x7_2
              ·
               rw[if_pos c22] at H
               have c22b0:=decide_eq_true c22
               clear c22
               by_cases c23:x7_2<(a0.size:Int)
               ·
                rw[if_pos c23] at H
                have c23b0:=decide_eq_true c23
                clear c23
                by_cases c25:(bt a0 x7_2)<128
                ·
                 rw[if_pos c25] at H
                 have c25b0:=decide_eq_true c25
                 clear c25
                 obtain⟨ji26,hji26⟩:∃ j_:Int,(wrap64 (7*x7_2))=j_:=⟨_,rfl⟩
                 replace H:(if 0≤(ji26) then (some (Go.bits .or .i64 x6_2 (shl .i64 x9_11 (ji26)),wrap64 (x7_2+1))) else (none))=some (r1,r2):=by first|(rw[hji26] at H;exact H)|(simp only[hji26] at H ⊢;exact H)
                 have hji26w:(IntKind.i64.wrap (7*x7_2))=ji26:=(i64_w _).trans hji26
                 by_cases c27:0≤(ji26)
                 ·
                  rw[if_pos c27] at H
                  have c27b0:=eq_true c27
                  have c27b1:=decide_eq_true c27
                  clear c27
                  obtain⟨ji28,hji28⟩:∃ j_:Int,(shl .i64 x9_11 (ji26))=j_:=⟨_,rfl⟩
                  replace H:(some (Go.bits .or .i64 x6_2 (ji28),wrap64 (x7_2+1)))=some (r1,r2):=by first|(rw[hji28] at H;exact H)|(simp only[hji28] at H ⊢;exact H)
                  have hji28_:(IntKind.i64.wrap (x9_11*2 ^ min (ji26).toNat 64))=ji28:=hji28
                  have hji28z:(ji26)≤64→(IntKind.i64.wrap (x9_11*2 ^ (ji26).toNat))=ji28:=shl_small hji28
                  have hji28y:(wrap64 (x9_11*2 ^ min (ji26).toNat 64))=ji28:=(i64_w _).symm.trans hji28_
                  have hji28x:(ji26)≤64→(wrap64 (x9_11*2 ^ (ji26).toNat))=ji28:=fun h_=>(i64_w _).symm.trans (hji28z h_)
                  simp only[Option.some.injEq,Prod.mk.injEq] at H
                  obtain⟨rfl,rfl⟩:=H
                  have p24:0≤(x7_2:Int):=od_
                  have q24:x7_2<(a0.size:Int):=od_
                  have hx24:=bt_at a0 x7_2
                  replace p24:=eq_true p24
                  replace q24:=eq_true q24
                  go_wp2
                  go_ret2
                  exact⟨by first|rfl|(simp;done)|(simp only[←hji26,←hji28]<;>(first|rfl|simp))|(simp[*];done),dr_⟩
                 rw[if_neg c27] at H
                 exact absurd H (by simp)
                rw[if_neg c25] at H
                have c25b0:=decide_eq_false c25
                clear c25
                obtain⟨ji29,hji29⟩:∃ j_:Int,(wrap64 (7*x7_2))=j_:=⟨_,rfl⟩
                replace H:(if 0≤(ji29) then (impl_TakeSleb.l0 kj13 a0 a1 (Go.bits .or .i64 x6_2 (shl .i64 (wrap64 (Go.bits .and .u8 (bt a0 x7_2) 127)) (ji29))) (wrap64 (x7_2+1))) else (none))=some (r1,r2):=by first|(rw[hji29] at H;exact H)|(simp only[hji29] at H ⊢;exact H)
                have hji29w:(IntKind.i64.wrap (7*x7_2))=ji29:=(i64_w _).trans hji29
                by_cases c30:0≤(ji29)
                ·
                 rw[if_pos c30] at H
                 have c30b0:=eq_true c30
                 have c30b1:=decide_eq_true c30
                 clear c30
                 obtain⟨ji31,hji31⟩:∃ j_:Int,(shl .i64 (wrap64 (Go.bits .and .u8 (bt a0 x7_2) 127)) (ji29))=j_:=⟨_,rfl⟩
                 replace H:(impl_TakeSleb.l0 kj13 a0 a1 (Go.bits .or .i64 x6_2 (ji31)) (wrap64 (x7_2+1)))=some (r1,r2):=by first|(rw[hji31] at H;exact H)|(simp only[hji31] at H ⊢;exact H)
                 have hji31_:(IntKind.i64.wrap ((wrap64 (Go.bits .and .u8 (bt a0 x7_2) 127))*2 ^ min (ji29).toNat 64))=ji31:=hji31
                 have hji31z:(ji29)≤64→(IntKind.i64.wrap ((wrap64 (Go.bits .and .u8 (bt a0 x7_2) 127))*2 ^ (ji29).toNat))=ji31:=shl_small hji31
                 have hji31y:(wrap64 ((wrap64 (Go.bits .and .u8 (bt a0 x7_2) 127))*2 ^ min (ji29).toNat 64))=ji31:=(i64_w _).symm.trans hji31_
                 have hji31x:(ji29)≤64→(wrap64 ((wrap64 (Go.bits .and .u8 (bt a0 x7_2) 127))*2 ^ (ji29).toNat))=ji31:=fun h_=>(i64_w _).symm.trans (hji31z h_)
                 have H':=A_ H
                 clear H
                 have p24:0≤(x7_2:Int):=od_
                 have q24:x7_2<(a0.size:Int):=od_
                 have hx24:=bt_at a0 x7_2
                 replace p24:=eq_true p24
                 replace q24:=eq_true q24
                 go_wp2
                 go_roundg kj13
                 case measure=>have:=HJ2.out;have:=HK2.out;have:=HJ5.out;have:=HJ11.out;have:=HJ13.out;omega
                 case rel=>exact⟨(Go.bits .or .i64 x6_2 (ji31)),(wrap64 (x7_2+1)),(by first|rfl|(simp;done)|(simp only[←hji31]<;>(first|rfl|simp))|(simp[*];done)),rs_,H',⟨by have:=HJ2.out;have:=HK2.out;have:=HJ5.out;have:=HJ11.out;have:=HJ13.out;omega⟩,dr_⟩
                rw[if_neg c30] at H
                exact absurd H (by simp)
               rw[if_neg c23] at H
               exact absurd H (by simp)
              rw[if_neg c22] at H
              exact absurd H (by simp)
         rw[if_neg c10] at H
         exact absurd H (by simp)
        rw[if_neg c9] at H
        exact absurd H (by simp)
       replace c8:=Bool.eq_false_iff.mpr c8
       subst c8
       replace H:=iF_ H
       simp only[Option.some.injEq,Prod.mk.injEq] at H
       obtain⟨rfl,rfl⟩:=H
       go_wp2
       go_ret2
       exact⟨rs_,dr_⟩

/-! ### impl_number: function 39 -/
def impl_number.l0:Nat→ByteArray→Int→Int→Option (Int)
 |0,_,_,_=>none
 |k+1,x0,x3,x4=>if x4≥0 then (if 0≤x4 then (if x4<(x0.size:Int) then (impl_number.l0 k x0 (Go.bits .or .u64 (IntKind.u64.wrap (x3*256)) (IntKind.u64.wrap (bt x0 x4))) (wrap64 (x4 - 1))) else (none)) else (none)) else (some x3)
def impl_number.f (k:Nat) (a0:ByteArray):Option (Int):=impl_number.l0 k a0 0 (wrap64 ((a0.size:Int) - 1))
theorem impl_number.calls (k:Nat) (a0:ByteArray) (r:Int) (w:World) (h:impl_number.f k a0=some r):
  Calls Try.prog 39 #[.string a0] w fun e w'=>e=.returned (.int .u64 r)∧Drawn0 w w':=by
 have H:(impl_number.l0 k a0 0 (wrap64 ((a0.size:Int) - 1)))=some r:=h
 clear h
 have H':=A_ H
 clear H
 go_enter Try.func39,Try.ntmps39
 go_wp2
 (try simp only[Act.put,List.setIfInBounds_toArray,List.set_cons_zero,List.set_cons_succ])
 go_loopg [3,4] k (fun kq v3 v4 w'=>∃ (x3_1:Int) (x4_1:Int),v3=.int .u64 x3_1∧v4=.int .i64 x4_1∧Aside0 (impl_number.l0 kq a0 x3_1 x4_1=some r)∧Aside0 (kq≤k)∧Drawn0 w w')
 case atStart=>exact⟨(0),(wrap64 ((a0.size:Int) - 1)),rs_,rs_,H',⟨Nat.le_refl _⟩,dr_⟩
 case round=>
  clear H'
  obtain⟨x3_1,x4_1,rfl,rfl,HA,HK1,⟨m1,rfl⟩⟩:=hrel
  cases gk with
  |zero=>exact absurd HA.out (by simp[impl_number.l0])
  |succ k1=>
   have H:=HA.out
   clear HA
   simp only[impl_number.l0] at H
   by_cases c2:x4_1≥0
   ·
    rw[if_pos c2] at H
    have c2b0:=decide_eq_true c2
    clear c2
    by_cases c3:0≤x4_1
    ·
     rw[if_pos c3] at H
     have c3b0:=decide_eq_true c3
     clear c3
     by_cases c4:x4_1<(a0.size:Int)
     ·
      rw[if_pos c4] at H
      have c4b0:=decide_eq_true c4
      clear c4
      have H':=A_ H
      clear H
      have p5:0≤(x4_1:Int):=od_
      have q5:x4_1<(a0.size:Int):=od_
      have hx5:=bt_at a0 x4_1
      replace p5:=eq_true p5
      replace q5:=eq_true q5
      go_wp2
      go_roundg k1
      case measure=>have:=HK1.out;omega
      case rel=>exact⟨(Go.bits .or .u64 (IntKind.u64.wrap (x3_1*256)) (IntKind.u64.wrap (bt a0 x4_1))),(wrap64 (x4_1 - 1)),rs_,rs_,H',⟨by have:=HK1.out;omega⟩,dr_⟩
     rw[if_neg c4] at H
     exact absurd H (by simp)
    rw[if_neg c3] at H
    exact absurd H (by simp)
   rw[if_neg c2] at H
   have c2b0:=decide_eq_false c2
   clear c2
   obtain rfl:=Option.some.inj H
   clear H
   go_wp2
   go_ret
   exact⟨rs_,dr_⟩

/-! ### impl_takeA: function 23 -/
def impl_takeA.j0:Nat→ByteArray→Int→Bool→Option (Int × Int × Bool)
 |0,_,_,_=>none
 |k+1,x0,x13,x23=>if x23=true then ((impl_TakeUleb.f k x0 32).bind fun bt709=>(some (wrap64 (bt709.1),bt709.2,decide (bt709.2 > 0)))) else (if x13=5 then ((impl_TakeSleb.f k x0 32).bind fun bt711=>(some (bt711.1,bt711.2,decide (bt711.2 > 0)))) else (if x13=6 then ((impl_TakeSleb.f k x0 64).bind fun bt713=>(some (bt713.1,bt713.2,decide (bt713.2 > 0)))) else (if x13=7 then (if (x0.size:Int)<4 then (some (0,0,false)) else (if 0≤4 then (if 4≤(x0.size:Int) then ((impl_number.f k (x0.extract 0 4)).bind fun t715=>(some (wrap64 (t715),4,true))) else (none)) else (none))) else (some (0,0,false)))))
def impl_takeA.f (k:Nat) (a0:ByteArray) (a1:Int):Option (Int × Int × Bool):=if a1=1 then (some (0,0,true)) else (if a1=2 then (if a0.toList=([]:List UInt8) then (some (0,0,false)) else (if 0<(a0.size:Int) then (some (wrap64 (bt a0 0),1,true)) else (none))) else (if a1=3 then (impl_takeA.j0 k a0 a1 (a1==3)) else (impl_takeA.j0 k a0 a1 (a1==4))))
theorem impl_takeA.calls (k:Nat) (a0:ByteArray) (a1:Int) (r1:Int) (r2:Int) (r3:Bool) (w:World) (h:impl_takeA.f k a0 a1=some (r1,r2,r3)):
  Calls Try.prog 23 #[.string a0,.int .i64 a1] w fun e w'=>e=.returned (.tuple #[.int .i64 r1,.int .i64 r2,.bool r3])∧Drawn0 w w':=by
 have H:(if a1=1 then (some (0,0,true)) else (if a1=2 then (if a0.toList=([]:List UInt8) then (some (0,0,false)) else (if 0<(a0.size:Int) then (some (wrap64 (bt a0 0),1,true)) else (none))) else (if a1=3 then (impl_takeA.j0 k a0 a1 (a1==3)) else (impl_takeA.j0 k a0 a1 (a1==4)))))=some (r1,r2,r3):=h
 clear h
 by_cases c3:a1=1
 ·
  rw[if_pos c3] at H
  obtain⟨c3b0,c3b1⟩:=eT_ c3
  clear c3
  simp only[Option.some.injEq,Prod.mk.injEq] at H
  obtain⟨rfl,rfl,rfl⟩:=H
  go_enter Try.func23,Try.ntmps23
  go_wp2
  go_ret3
  exact⟨rs_,dr_⟩
 rw[if_neg c3] at H
 obtain⟨c3b0,c3b1⟩:=eF_ c3
 by_cases c4:a1=2
 ·
  rw[if_pos c4] at H
  obtain⟨c4b0,c4b1⟩:=eT_ c4
  clear c4
  by_cases c5:a0.toList=([]:List UInt8)
  ·
   rw[if_pos c5] at H
   obtain⟨c5b0,c5b1⟩:=eT_ c5
   clear c5
   simp only[Option.some.injEq,Prod.mk.injEq] at H
   obtain⟨rfl,rfl,rfl⟩:=H
   go_enter Try.func23,Try.ntmps23
   go_wp2
   go_ret3
   exact⟨rs_,dr_⟩
  rw[if_neg c5] at H
  obtain⟨c5b0,c5b1⟩:=eF_ c5
  by_cases c6:0<(a0.size:Int)
  ·
   rw[if_pos c6] at H
   have c6b0:=decide_eq_true c6
   have c6b1:decide (0<a0.size)=true:=decide_eq_true (by omega)
   clear c6
   simp only[Option.some.injEq,Prod.mk.injEq] at H
   obtain⟨rfl,rfl,rfl⟩:=H
   have p7:0≤(0:Int):=(by omega)
   have q7:0<a0.size:=(by have:(0:Int)<(a0.size:Int):=od_;omega)
   have hx7:∀ h:0<a0.size,((a0[0]'h).toNat:Int)=bt a0 0:=bt_at a0 0
   clear p7
   have qi7:(0<(a0.size:Int))=True:=eq_true (od_)
   replace q7:=eq_true q7
   go_enter Try.func23,Try.ntmps23
   go_wp2
   go_ret3
   exact⟨rs_,dr_⟩
  rw[if_neg c6] at H
  exact absurd H (by simp)
 rw[if_neg c4] at H
 obtain⟨c4b0,c4b1⟩:=eF_ c4
 have HC8:=A_ H
 clear H
 go_enter Try.func23,Try.ntmps23
 go_upto_if 23 with (fail)
 go_cut [23] (fun v23 wc=>∃ (kq:Nat) (x23_7:Bool),v23=.bool x23_7∧Aside0 (impl_takeA.j0 kq a0 a1 x23_7=some (r1,r2,r3))∧Aside0 (kq≤k)∧Drawn0 w wc)
 case first=>
  have H:=HC8.out
  clear HC8
  by_cases c9:a1=3
  ·
   rw[if_pos c9] at H
   obtain⟨c9b0,c9b1⟩:=eT_ c9
   clear c9
   (first|rw[c9b0]|(simp only[i64_w,i32_w];rw[c9b0])|skip)
   have H':=A_ H
   clear H
   go_wp2
   go_meet
   case rel=>exact⟨_,((a1==3)),rs_,H',⟨by first|omega|exact Nat.le_refl _⟩,dr_⟩
  rw[if_neg c9] at H
  obtain⟨c9b0,c9b1⟩:=eF_ c9
  (first|rw[c9b0]|(simp only[i64_w,i32_w];rw[c9b0])|skip)
  have H':=A_ H
  clear H
  go_wp2
  go_meet
  case rel=>exact⟨_,((a1==4)),rs_,H',⟨by first|omega|exact Nat.le_refl _⟩,dr_⟩
 case rest=>
  clear HC8
  try clear c3 c3b0 c3b1 c4 c4b0 c4b1
  obtain⟨kq,x23_7,rfl,HA,HJ7,⟨mc7,rfl⟩⟩:=hcut
  cases kq with
  |zero=>exact absurd HA.out (by simp[impl_takeA.j0])
  |succ kj7=>
   have H:=HA.out
   clear HA
   simp only[impl_takeA.j0] at H
   by_cases c10:x23_7=true
   ·
    subst c10
    replace H:=iT_ H
    replace H:=Option.bind_eq_some_iff.mp H
    obtain⟨⟨t709,t710⟩,A110,H⟩:=H
    replace H:(some (wrap64 (t709),t710,decide (t710 > 0)))=some (r1,r2,r3):=H
    have A11:=A_ A110
    clear A110
    simp only[Option.some.injEq,Prod.mk.injEq] at H
    obtain⟨rfl,rfl,rfl⟩:=H
    go_wp2_with (first|((with_reducible refine gc_ 37 rfl ?_);refine gn_ (some 28) Try.func37 (impl_TakeUleb.calls kj7 a0 32 t709 t710 _ A11.out) ?_;intro nd))
    go_ret3
    exact⟨rs_,dr_⟩
   replace c10:=Bool.eq_false_iff.mpr c10
   subst c10
   replace H:=iF_ H
   by_cases c12:a1=5
   ·
    rw[if_pos c12] at H
    obtain⟨c12b0,c12b1⟩:=eT_ c12
    clear c12
    replace H:=Option.bind_eq_some_iff.mp H
    obtain⟨⟨t711,t712⟩,A130,H⟩:=H
    replace H:(some (t711,t712,decide (t712 > 0)))=some (r1,r2,r3):=H
    have A13:=A_ A130
    clear A130
    simp only[Option.some.injEq,Prod.mk.injEq] at H
    obtain⟨rfl,rfl,rfl⟩:=H
    go_wp2_with (first|((with_reducible refine gc_ 38 rfl ?_);refine gn_ (some 40) Try.func38 (impl_TakeSleb.calls kj7 a0 32 t711 t712 _ A13.out) ?_;intro nd))
    go_ret3
    exact⟨rs_,dr_⟩
   rw[if_neg c12] at H
   obtain⟨c12b0,c12b1⟩:=eF_ c12
   by_cases c14:a1=6
   ·
    rw[if_pos c14] at H
    obtain⟨c14b0,c14b1⟩:=eT_ c14
    clear c14
    replace H:=Option.bind_eq_some_iff.mp H
    obtain⟨⟨t713,t714⟩,A150,H⟩:=H
    replace H:(some (t713,t714,decide (t714 > 0)))=some (r1,r2,r3):=H
    have A15:=A_ A150
    clear A150
    simp only[Option.some.injEq,Prod.mk.injEq] at H
    obtain⟨rfl,rfl,rfl⟩:=H
    go_wp2_with (first|((with_reducible refine gc_ 38 rfl ?_);refine gn_ (some 51) Try.func38 (impl_TakeSleb.calls kj7 a0 64 t713 t714 _ A15.out) ?_;intro nd))
    go_ret3
    exact⟨rs_,dr_⟩
   rw[if_neg c14] at H
   obtain⟨c14b0,c14b1⟩:=eF_ c14
   by_cases c16:a1=7
   ·
    rw[if_pos c16] at H
    obtain⟨c16b0,c16b1⟩:=eT_ c16
    clear c16
    by_cases c17:(a0.size:Int)<4
    ·
     rw[if_pos c17] at H
     have c17b0:=decide_eq_true c17
     have c17b1:decide (a0.size<4)=true:=decide_eq_true (by omega)
     clear c17
     simp only[Option.some.injEq,Prod.mk.injEq] at H
     obtain⟨rfl,rfl,rfl⟩:=H
     go_wp2
     go_ret3
     exact⟨rs_,dr_⟩
    rw[if_neg c17] at H
    have c17b0:=decide_eq_false c17
    have c17b1:decide (a0.size<4)=false:=decide_eq_false (by omega)
    clear c17
    by_cases c18:0≤4
    ·
     rw[if_pos c18] at H
     have c18b0:=eq_true c18
     have c18b1:=decide_eq_true c18
     clear c18
     by_cases c19:4≤(a0.size:Int)
     ·
      rw[if_pos c19] at H
      have c19b0:=eq_true c19
      have c19b1:=decide_eq_true c19
      clear c19
      replace H:=bi_ H
      obtain⟨t715,A200,H⟩:=H
      have A20:=A_ A200
      clear A200
      simp only[Option.some.injEq,Prod.mk.injEq] at H
      obtain⟨rfl,rfl,rfl⟩:=H
      go_wp2_with (first|((with_reducible refine gc_ 39 rfl ?_);refine gn_ (some 65) Try.func39 (impl_number.calls kj7 (a0.extract 0 4) t715 _ A20.out) ?_;intro nd))
      go_ret3
      exact⟨rs_,dr_⟩
     rw[if_neg c19] at H
     exact absurd H (by simp)
    exact absurd c18 (by decide)
   rw[if_neg c16] at H
   obtain⟨c16b0,c16b1⟩:=eF_ c16
   simp only[Option.some.injEq,Prod.mk.injEq] at H
   obtain⟨rfl,rfl,rfl⟩:=H
   go_wp2
   go_ret3
   exact⟨rs_,dr_⟩

end Go.Proofs.Ytmajifnehjlncaa.Q

