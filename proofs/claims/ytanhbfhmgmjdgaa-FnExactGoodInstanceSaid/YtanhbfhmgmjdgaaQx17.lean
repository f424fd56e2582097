-- Written by a program of this session; it walks the functions that the law reaches.
import Derived.Test.YtanhbfhmgmjdgaaQx0
import Derived.Test.YtanhbfhmgmjdgaaQx16
import Derived.Test.YtanhbfhmgmjdgaaQx5
namespace Go.Proofs.Ytanhbfhmgmjdgaa.Q
open Go.RowKit Go.Proofs.YtanhbfhmgmjdgaaW.PrintWords Go.Proofs.YtanhbfhmgmjdgaaW.PrintLast Go.Proofs.YtanhbfhmgmjdgaaW.PrintMore
attribute [local go_sem] max2_int min2_int max_two min_two max_three min_three max_four min_four   -- for this text's walks alone
set_option linter.unusedVariables false
set_option linter.unusedSimpArgs false
set_option maxRecDepth 100000
set_option maxHeartbeats 8000000

/-! ### impl_GoodShape: function 29 -/
mutual
def impl_GoodShape.j0:Nat→Bool→List (S88)→List (S75)→Bool→Int→Int→Int→Option (Bool)
 |0,_,_,_,_,_,_,_=>none
 |k+1,x16,x358000,x358001,x358002,x358003,x358004,x358005=>if x16=true then (some false) else (impl_GoodShape.l0 k x358000 (x358000.length:Int) 0 x358000 x358001 x358002 x358003 x358004 x358005)
def impl_GoodShape.l0:Nat→List (S88)→Int→Int→List (S88)→List (S75)→Bool→Int→Int→Int→Option (Bool)
 |0,_,_,_,_,_,_,_,_,_=>none
 |k+1,x18,x19,x20,x358000,x358001,x358002,x358003,x358004,x358005=>if x20<x19 then (if 0≤x20 then (if x20<(x18.length:Int) then ((impl_goodFunc.f k ((rd_T88 x18 x20).f0) ((rd_T88 x18 x20).f1) ((rd_T88 x18 x20).f2) ((rd_T88 x18 x20).f3)).bind fun t360=>(if t360=true then (impl_GoodShape.l0 k x18 x19 (wrap64 (x20+1)) x358000 x358001 x358002 x358003 x358004 x358005) else (some false))) else (none)) else (none)) else (impl_GoodShape.l1 k x358001 (x358001.length:Int) 0 x358000 x358001 x358002 x358003 x358004 x358005)
def impl_GoodShape.l1:Nat→List (S75)→Int→Int→List (S88)→List (S75)→Bool→Int→Int→Int→Option (Bool)
 |0,_,_,_,_,_,_,_,_,_=>none
 |k+1,x29,x30,x31,x358000,x358001,x358002,x358003,x358004,x358005=>if x31<x30 then (if 0≤x31 then (if x31<(x29.length:Int) then ((impl_goodGlobal.f ((rd_T75 x29 x31).f0) ((rd_T75 x29 x31).f1) ((rd_T75 x29 x31).f2)).bind fun t363=>(if t363=true then (impl_GoodShape.l1 k x29 x30 (wrap64 (x31+1)) x358000 x358001 x358002 x358003 x358004 x358005) else (some false))) else (none)) else (none)) else (if x358002=true then (if x358003<0 then (impl_GoodShape.j3 k true x358000 x358001 x358002 x358003 x358004 x358005) else (if x358003 > x358004 then (impl_GoodShape.j3 k true x358000 x358001 x358002 x358003 x358004 x358005) else (impl_GoodShape.j3 k (decide (x358004 > 8)) x358000 x358001 x358002 x358003 x358004 x358005))) else (if x358003=0 then (impl_GoodShape.j4 k (x358004 !=0) x358000 x358001 x358002 x358003 x358004 x358005) else (impl_GoodShape.j4 k true x358000 x358001 x358002 x358003 x358004 x358005)))
def impl_GoodShape.j3:Nat→Bool→List (S88)→List (S75)→Bool→Int→Int→Int→Option (Bool)
 |0,_,_,_,_,_,_,_=>none
 |k+1,x55,x358000,x358001,x358002,x358003,x358004,x358005=>if x55=true then (some false) else (if x358005=(-1) then (some true) else (if x358005≥0 then (if x358005<(x358000.length:Int) then (if 0≤x358005 then (if (((rd_T88 x358000 x358005).f0).length:Int)=0 then (some (((rd_T88 x358000 x358005).f1)==64)) else (some false)) else (none)) else (some false)) else (some false)))
def impl_GoodShape.j4:Nat→Bool→List (S88)→List (S75)→Bool→Int→Int→Int→Option (Bool)
 |0,_,_,_,_,_,_,_=>none
 |k+1,x63,x358000,x358001,x358002,x358003,x358004,x358005=>if x63=true then (some false) else (if x358005=(-1) then (some true) else (if x358005≥0 then (if x358005<(x358000.length:Int) then (if 0≤x358005 then (if (((rd_T88 x358000 x358005).f0).length:Int)=0 then (some (((rd_T88 x358000 x358005).f1)==64)) else (some false)) else (none)) else (some false)) else (some false)))
end
def impl_GoodShape.f (k:Nat) (l0_0:List (S88)) (l0_1:List (S75)) (a0_2:Bool) (a0_3:Int) (a0_4:Int) (a0_5:Int):Option (Bool):=if (l0_0.length:Int) > 10 then (impl_GoodShape.j0 k true l0_0 l0_1 a0_2 a0_3 a0_4 a0_5) else (impl_GoodShape.j0 k (decide ((l0_1.length:Int) > 6)) l0_0 l0_1 a0_2 a0_3 a0_4 a0_5)
theorem impl_GoodShape.calls (k:Nat) (A0_0:Option Addr) (c0_0:Nat) (l0_0:List (S88)) (A0_1:Option Addr) (c0_1:Nat) (l0_1:List (S75)) (a0_2:Bool) (a0_3:Int) (a0_4:Int) (a0_5:Int) (r:Bool) (w:World) (hr0_0:Kd.C k88 w A0_0 l0_0.length l0_0) (hc0_0:l0_0.length≤c0_0) (hr0_1:Kd.C k75 w A0_1 l0_1.length l0_1) (hc0_1:l0_1.length≤c0_1) (h:impl_GoodShape.f k l0_0 l0_1 a0_2 a0_3 a0_4 a0_5=some r):
  Calls Try.prog 29 #[.agg #[.slice A0_0 l0_0.length c0_0,.slice A0_1 l0_1.length c0_1,.bool a0_2,.int .i64 a0_3,.int .i64 a0_4,.int .i64 a0_5]] w fun e w'=>e=.returned (.bool r)∧Below w.heap.size w w':=by
 have hu38:=Try.underlying38
 have hu88:=Try.underlying88
 have hu75:=Try.underlying75
 have HR0_0:=A_ hr0_0
 have HC0_0:=A_ hc0_0
 clear hr0_0 hc0_0
 have HR0_1:=A_ hr0_1
 have HC0_1:=A_ hc0_1
 clear hr0_1 hc0_1
 have HB:=A_ (Below.refl w.heap.size w)
 have H:(if (l0_0.length:Int) > 10 then (impl_GoodShape.j0 k true l0_0 l0_1 a0_2 a0_3 a0_4 a0_5) else (impl_GoodShape.j0 k (decide ((l0_1.length:Int) > 6)) l0_0 l0_1 a0_2 a0_3 a0_4 a0_5))=some r:=h
 clear h
 have HC2:=A_ H
 clear H
 go_enter Try.func29,Try.ntmps29
 go_upto_region 1 with (first|((with_reducible refine gd_ 1 rfl ?_);(try (refine gate_guard (by rfl) ?_;dsimp only));refine bx_ #[.slice A0_0 l0_0.length c0_0,.slice A0_1 l0_1.length c0_1,.bool a0_2,.int .i64 a0_3,.int .i64 a0_4,.int .i64 a0_5] 38 ?_;intro gb357 hg w3 hbox hb;have BK357:=A_ hbox;have GW357:=gw_ hg HB;have GE357:=GW357;replace HB:=bs_ HB hb;clear hb hbox hg))
 (try simp only[Act.put,List.setIfInBounds_toArray,List.set_cons_zero,List.set_cons_succ])
 go_cut [16] (fun v16 wc=>∃ (kq:Nat) (x16_1:Bool),v16=.bool x16_1∧Aside0 (impl_GoodShape.j0 kq x16_1 l0_0 l0_1 a0_2 a0_3 a0_4 a0_5=some r)∧Aside0 (kq≤k)∧Aside0 (wc.heap[gb357]? =some (.cells #[(.slice A0_0 l0_0.length c0_0),(.slice A0_1 l0_1.length c0_1),.bool a0_2,.int .i64 a0_3,.int .i64 a0_4,.int .i64 a0_5] 38 (0,0)))∧Aside0 (Below w.heap.size w wc))
 case first=>
  have H:=HC2.out
  clear HC2
  by_cases c4:(l0_0.length:Int) > 10
  ·
   rw[if_pos c4] at H
   have c4b0:=decide_eq_true c4
   have c4b1:decide (10<l0_0.length)=true:=decide_eq_true (by omega)
   clear c4
   (first|rw[c4b0]|(simp only[i64_w,i32_w];rw[c4b0])|skip)
   have H':=A_ H
   clear H
   obtain⟨hcz5_0,hcz5_1,hcz5_2,hcz5_3,hcz5_4,hcz5_5⟩:=cs6_ BK357.out
   obtain⟨hfz5_0,hfz5_1,hfz5_2,hfz5_3,hfz5_4,hfz5_5⟩:=fz6_ BK357.out
   go_wp2
   go_meet
   case rel=>exact⟨_,(true),rs_,H',⟨by first|omega|exact Nat.le_refl _⟩,⟨bk BK357.out⟩,⟨bw HB.out⟩⟩
  rw[if_neg c4] at H
  have c4b0:=decide_eq_false c4
  have c4b1:decide (10<l0_0.length)=false:=decide_eq_false (by omega)
  clear c4
  (first|rw[c4b0]|(simp only[i64_w,i32_w];rw[c4b0])|skip)
  have H':=A_ H
  clear H
  obtain⟨hcz6_0,hcz6_1,hcz6_2,hcz6_3,hcz6_4,hcz6_5⟩:=cs6_ BK357.out
  obtain⟨hfz6_0,hfz6_1,hfz6_2,hfz6_3,hfz6_4,hfz6_5⟩:=fz6_ BK357.out
  go_wp2
  go_meet
  case rel=>exact⟨_,(decide ((l0_1.length:Int) > 6)),rs_,H',⟨by first|omega|exact Nat.le_refl _⟩,⟨bk BK357.out⟩,⟨bw HB.out⟩⟩
 case rest=>
  clear HC2
  obtain⟨kq,x16_1,rfl,HA,HJ1,BK357,HB⟩:=hcut
  cases kq with
  |zero=>exact absurd HA.out (by simp[impl_GoodShape.j0])
  |succ kj1=>
   have H:=HA.out
   clear HA
   simp only[impl_GoodShape.j0] at H
   revert H
   refine iB_ (fun c7 H=>?_) (fun c7 H=>?_)<;>subst c7
   ·
    obtain rfl:=Option.some.inj H
    clear H
    go_wp2
    go_ret
    exact⟨rr_,bw HB.out⟩
   have H':=A_ H
   clear H
   obtain⟨hcz8_0,hcz8_1,hcz8_2,hcz8_3,hcz8_4,hcz8_5⟩:=cs6_ BK357.out
   obtain⟨hfz8_0,hfz8_1,hfz8_2,hfz8_3,hfz8_4,hfz8_5⟩:=fz6_ BK357.out
   go_wp2
   (try simp only[Act.put,List.setIfInBounds_toArray,List.set_cons_zero,List.set_cons_succ])
   go_loopg [20] kj1 (fun kq v20 w'=>∃ (x20_2:Int),v20=.int .i64 x20_2∧Aside0 (impl_GoodShape.l0 kq l0_0 (l0_0.length:Int) x20_2 l0_0 l0_1 a0_2 a0_3 a0_4 a0_5=some r)∧Aside0 (kq≤kj1)∧Aside0 (w'.heap[gb357]? =some (.cells #[(.slice A0_0 l0_0.length c0_0),(.slice A0_1 l0_1.length c0_1),.bool a0_2,.int .i64 a0_3,.int .i64 a0_4,.int .i64 a0_5] 38 (0,0)))∧Aside0 (Below w.heap.size w w'))
   case atStart=>exact⟨(0),rs_,H',⟨Nat.le_refl _⟩,⟨bk BK357.out⟩,⟨bw HB.out⟩⟩
   case round=>
    clear H'
    try clear c7 hcz8_0 hcz8_1 hcz8_2 hcz8_3 hcz8_4 hcz8_5 hfz8_0 hfz8_1 hfz8_2 hfz8_3 hfz8_4 hfz8_5
    obtain⟨x20_2,rfl,HA,HK2,BK357,HB⟩:=hrel
    cases gk with
    |zero=>exact absurd HA.out (by simp[impl_GoodShape.l0])
    |succ k2=>
     have H:=HA.out
     clear HA
     simp only[impl_GoodShape.l0] at H
     revert H
     refine iL_ (fun c9b0 H=>?_) (fun c9b0 H=>?_)
     ·
      replace H:=id_ H
      obtain⟨c10b0,H⟩:=H
      replace H:=id_ H
      obtain⟨c11b0,H⟩:=H
      replace H:=bA_ H
      obtain⟨t360,A12,H⟩:=H
      revert H
      refine iB_ (fun c13 H=>?_) (fun c13 H=>?_)<;>subst c13
      ·
       have H':=A_ H
       clear H
       have p358:0≤(x20_2:Int):=od_
       have q358:x20_2<(l0_0.length:Int):=od_
       obtain⟨ad358,A358_0,c358_0,A358_2,c358_2,A358_3,c358_3,e358,hx358_0,hx358_1,hx358_2,hx358_3,hl358_0,hi358_0,hl358_2,hi358_2,hl358_3,hi358_3⟩:=at_T88 HR0_0.out x20_2 p358 q358
       cases e358
       replace hx358_0:=cl_ HB.out hx358_0
       replace hx358_1:=cl_ HB.out hx358_1
       replace hx358_2:=cl_ HB.out hx358_2
       replace hx358_3:=cl_ HB.out hx358_3
       have HR358_0:=A_ hi358_0
       have HC358_0:=A_ hl358_0
       clear hi358_0 hl358_0
       have HR358_2:=A_ hi358_2
       have HC358_2:=A_ hl358_2
       clear hi358_2 hl358_2
       have HR358_3:=A_ hi358_3
       have HC358_3:=A_ hl358_3
       clear hi358_3 hl358_3
       replace p358:=eq_true p358
       replace q358:=eq_true q358
       go_wp2_with (first|((with_reducible refine gd_ 4 rfl ?_);(try (refine gate_guard (by rfl) ?_;dsimp only));refine bx_ #[.slice none 0 0,.int .i64 0,.slice none 0 0,.slice none 0 0] 88 ?_;intro gb359 hg w14 hbox hb;have BK359:=A_ hbox;have GW359:=gw_ hg HB;have GE359:=GW359;obtain⟨NB357_359,NB359_357⟩:=nb_ BK357 hg;replace BK357:=kb_ BK357 hb;replace HB:=bs_ HB hb;clear hb hbox hg;have hnb15:=NB359_357.out;have hnc15:=NB357_359.out;obtain⟨hcz16_0,hcz16_1,hcz16_2,hcz16_3⟩:=cs4_ BK359.out;obtain⟨hfz16_0,hfz16_1,hfz16_2,hfz16_3⟩:=fz4_ BK359.out)|((with_reducible refine gc_ 45 rfl ?_);refine goesL_ (some 25) rfl rfl Try.func45 (by kernel_rfl) rfl #[.agg #[.slice A358_0 ((rd_T88 l0_0 x20_2).f0).length c358_0,.int .i64 ((rd_T88 l0_0 x20_2).f1),.slice A358_2 ((rd_T88 l0_0 x20_2).f2).length c358_2,.slice A358_3 ((rd_T88 l0_0 x20_2).f3).length c358_3]] rfl ar ?_;(with_reducible refine(impl_goodFunc.calls k2 _ _ ((rd_T88 l0_0 x20_2).f0) ((rd_T88 l0_0 x20_2).f1) _ _ ((rd_T88 l0_0 x20_2).f2) _ _ ((rd_T88 l0_0 x20_2).f3) true _ ?side1 ?side2 ?side3 ?side4 ?side5 ?side6 A12.out).mono ?_);(case side1=>exact Kd.C_below HR358_0.out (bw HB.out));(case side2=>exact HC358_0.out);(case side3=>exact Kd.C_below HR358_2.out (bw HB.out));(case side4=>exact HC358_2.out);(case side5=>exact Kd.C_below HR358_3.out (bw HB.out));(case side6=>exact HC358_3.out);rintro e w17 ⟨rfl,hb⟩;refine⟨_,rfl,?_⟩;replace BK357:=A_ (blk_below (g:=gb357) (o:=.cells #[.slice (some ad358) l0_0.length c0_0,.slice A0_1 l0_1.length c0_1,.bool a0_2,.int .i64 a0_3,.int .i64 a0_4,.int .i64 a0_5] 38 (0,0)) (by refine blk_far ?_ NB357_359.out _;refine blk_far ?_ NB357_359.out _;refine blk_far ?_ NB357_359.out _;refine blk_far ?_ NB357_359.out _;(with_reducible repeat (first|refine blk_drewN ?_ _|refine blk_drew ?_|refine blk_alloc ?_ _));exact BK357.out) hb);replace BK359:=A_ (blk_below (g:=gb359) (o:=.cells #[.slice A358_0 ((rd_T88 l0_0 x20_2).f0).length c358_0,.int .i64 ((rd_T88 l0_0 x20_2).f1),.slice A358_2 ((rd_T88 l0_0 x20_2).f2).length c358_2,.slice A358_3 ((rd_T88 l0_0 x20_2).f3).length c358_3] 88 (0,0)) (by refine blk_put (cs:=#[.slice A358_0 ((rd_T88 l0_0 x20_2).f0).length c358_0,.int .i64 ((rd_T88 l0_0 x20_2).f1),.slice A358_2 ((rd_T88 l0_0 x20_2).f2).length c358_2,.slice none 0 0]) ?_ 3 _ rfl;refine blk_put (cs:=#[.slice A358_0 ((rd_T88 l0_0 x20_2).f0).length c358_0,.int .i64 ((rd_T88 l0_0 x20_2).f1),.slice none 0 0,.slice none 0 0]) ?_ 2 _ rfl;refine blk_put (cs:=#[.slice A358_0 ((rd_T88 l0_0 x20_2).f0).length c358_0,.int .i64 0,.slice none 0 0,.slice none 0 0]) ?_ 1 _ rfl;refine blk_put (cs:=#[.slice none 0 0,.int .i64 0,.slice none 0 0,.slice none 0 0]) ?_ 0 _ rfl;(with_reducible repeat (first|refine blk_drewN ?_ _|refine blk_drew ?_|refine blk_alloc ?_ _));exact BK359.out) hb);replace HB:=bs_ HB hb;(try clear hb)))
       go_roundg k2
       case measure=>have:=HJ1.out;have:=HK2.out;omega
       case rel=>exact⟨(wrap64 (x20_2+1)),rs_,H',⟨by have:=HJ1.out;have:=HK2.out;omega⟩,⟨bk BK357.out⟩,⟨bw HB.out⟩⟩
      obtain rfl:=Option.some.inj H
      clear H
      have p358:0≤(x20_2:Int):=od_
      have q358:x20_2<(l0_0.length:Int):=od_
      obtain⟨ad358,A358_0,c358_0,A358_2,c358_2,A358_3,c358_3,e358,hx358_0,hx358_1,hx358_2,hx358_3,hl358_0,hi358_0,hl358_2,hi358_2,hl358_3,hi358_3⟩:=at_T88 HR0_0.out x20_2 p358 q358
      cases e358
      replace hx358_0:=cl_ HB.out hx358_0
      replace hx358_1:=cl_ HB.out hx358_1
      replace hx358_2:=cl_ HB.out hx358_2
      replace hx358_3:=cl_ HB.out hx358_3
      have HR358_0:=A_ hi358_0
      have HC358_0:=A_ hl358_0
      clear hi358_0 hl358_0
      have HR358_2:=A_ hi358_2
      have HC358_2:=A_ hl358_2
      clear hi358_2 hl358_2
      have HR358_3:=A_ hi358_3
      have HC358_3:=A_ hl358_3
      clear hi358_3 hl358_3
      replace p358:=eq_true p358
      replace q358:=eq_true q358
      go_wp2_with (first|((with_reducible refine gd_ 4 rfl ?_);(try (refine gate_guard (by rfl) ?_;dsimp only));refine bx_ #[.slice none 0 0,.int .i64 0,.slice none 0 0,.slice none 0 0] 88 ?_;intro gb359 hg w18 hbox hb;have BK359:=A_ hbox;have GW359:=gw_ hg HB;have GE359:=GW359;obtain⟨NB357_359,NB359_357⟩:=nb_ BK357 hg;replace BK357:=kb_ BK357 hb;replace HB:=bs_ HB hb;clear hb hbox hg;have hnb19:=NB359_357.out;have hnc19:=NB357_359.out;obtain⟨hcz20_0,hcz20_1,hcz20_2,hcz20_3⟩:=cs4_ BK359.out;obtain⟨hfz20_0,hfz20_1,hfz20_2,hfz20_3⟩:=fz4_ BK359.out)|((with_reducible refine gc_ 45 rfl ?_);refine goesL_ (some 25) rfl rfl Try.func45 (by kernel_rfl) rfl #[.agg #[.slice A358_0 ((rd_T88 l0_0 x20_2).f0).length c358_0,.int .i64 ((rd_T88 l0_0 x20_2).f1),.slice A358_2 ((rd_T88 l0_0 x20_2).f2).length c358_2,.slice A358_3 ((rd_T88 l0_0 x20_2).f3).length c358_3]] rfl ar ?_;(with_reducible refine(impl_goodFunc.calls k2 _ _ ((rd_T88 l0_0 x20_2).f0) ((rd_T88 l0_0 x20_2).f1) _ _ ((rd_T88 l0_0 x20_2).f2) _ _ ((rd_T88 l0_0 x20_2).f3) false _ ?side1 ?side2 ?side3 ?side4 ?side5 ?side6 A12.out).mono ?_);(case side1=>exact Kd.C_below HR358_0.out (bw HB.out));(case side2=>exact HC358_0.out);(case side3=>exact Kd.C_below HR358_2.out (bw HB.out));(case side4=>exact HC358_2.out);(case side5=>exact Kd.C_below HR358_3.out (bw HB.out));(case side6=>exact HC358_3.out);rintro e w21 ⟨rfl,hb⟩;refine⟨_,rfl,?_⟩;replace BK357:=A_ (blk_below (g:=gb357) (o:=.cells #[.slice (some ad358) l0_0.length c0_0,.slice A0_1 l0_1.length c0_1,.bool a0_2,.int .i64 a0_3,.int .i64 a0_4,.int .i64 a0_5] 38 (0,0)) (by refine blk_far ?_ NB357_359.out _;refine blk_far ?_ NB357_359.out _;refine blk_far ?_ NB357_359.out _;refine blk_far ?_ NB357_359.out _;(with_reducible repeat (first|refine blk_drewN ?_ _|refine blk_drew ?_|refine blk_alloc ?_ _));exact BK357.out) hb);replace BK359:=A_ (blk_below (g:=gb359) (o:=.cells #[.slice A358_0 ((rd_T88 l0_0 x20_2).f0).length c358_0,.int .i64 ((rd_T88 l0_0 x20_2).f1),.slice A358_2 ((rd_T88 l0_0 x20_2).f2).length c358_2,.slice A358_3 ((rd_T88 l0_0 x20_2).f3).length c358_3] 88 (0,0)) (by refine blk_put (cs:=#[.slice A358_0 ((rd_T88 l0_0 x20_2).f0).length c358_0,.int .i64 ((rd_T88 l0_0 x20_2).f1),.slice A358_2 ((rd_T88 l0_0 x20_2).f2).length c358_2,.slice none 0 0]) ?_ 3 _ rfl;refine blk_put (cs:=#[.slice A358_0 ((rd_T88 l0_0 x20_2).f0).length c358_0,.int .i64 ((rd_T88 l0_0 x20_2).f1),.slice none 0 0,.slice none 0 0]) ?_ 2 _ rfl;refine blk_put (cs:=#[.slice A358_0 ((rd_T88 l0_0 x20_2).f0).length c358_0,.int .i64 0,.slice none 0 0,.slice none 0 0]) ?_ 1 _ rfl;refine blk_put (cs:=#[.slice none 0 0,.int .i64 0,.slice none 0 0,.slice none 0 0]) ?_ 0 _ rfl;(with_reducible repeat (first|refine blk_drewN ?_ _|refine blk_drew ?_|refine blk_alloc ?_ _));exact BK359.out) hb);replace HB:=bs_ HB hb;(try clear hb)))
      go_ret
      exact⟨rr_,bw HB.out⟩
     have H':=A_ H
     clear H
     obtain⟨hcz22_0,hcz22_1,hcz22_2,hcz22_3,hcz22_4,hcz22_5⟩:=cs6_ BK357.out
     obtain⟨hfz22_0,hfz22_1,hfz22_2,hfz22_3,hfz22_4,hfz22_5⟩:=fz6_ BK357.out
     go_wp2
     (try simp only[Act.put,List.setIfInBounds_toArray,List.set_cons_zero,List.set_cons_succ])
     go_loopg [31] k2 (fun kq v31 w'=>∃ (x31_3:Int),v31=.int .i64 x31_3∧Aside0 (impl_GoodShape.l1 kq l0_1 (l0_1.length:Int) x31_3 l0_0 l0_1 a0_2 a0_3 a0_4 a0_5=some r)∧Aside0 (kq≤k2)∧Aside0 (w'.heap[gb357]? =some (.cells #[(.slice A0_0 l0_0.length c0_0),(.slice A0_1 l0_1.length c0_1),.bool a0_2,.int .i64 a0_3,.int .i64 a0_4,.int .i64 a0_5] 38 (0,0)))∧Aside0 (Below w.heap.size w w'))
     case atStart=>exact⟨(0),rs_,H',⟨Nat.le_refl _⟩,⟨bk BK357.out⟩,⟨bw HB.out⟩⟩
     case round=>
      clear H'
      try clear c7 c9 c9b0 hcz22_0 hcz22_1 hcz22_2 hcz22_3 hcz22_4 hcz22_5 hcz8_0 hcz8_1 hcz8_2 hcz8_3 hcz8_4 hcz8_5 hfz22_0 hfz22_1 hfz22_2 hfz22_3 hfz22_4 hfz22_5 hfz8_0 hfz8_1 hfz8_2 hfz8_3 hfz8_4 hfz8_5
      obtain⟨x31_3,rfl,HA,HK3,BK357,HB⟩:=hrel
      cases gk with
      |zero=>exact absurd HA.out (by simp[impl_GoodShape.l1])
      |succ k3=>
       have H:=HA.out
       clear HA
       simp only[impl_GoodShape.l1] at H
       revert H
       refine iL_ (fun c23b0 H=>?_) (fun c23b0 H=>?_)
       ·
        replace H:=id_ H
        obtain⟨c24b0,H⟩:=H
        replace H:=id_ H
        obtain⟨c25b0,H⟩:=H
        replace H:=bA_ H
        obtain⟨t363,A26,H⟩:=H
        revert H
        refine iB_ (fun c27 H=>?_) (fun c27 H=>?_)<;>subst c27
        ·
         have H':=A_ H
         clear H
         have p361:0≤(x31_3:Int):=od_
         have q361:x31_3<(l0_1.length:Int):=od_
         obtain⟨ad361,e361,hx361_0,hx361_1,hx361_2⟩:=at_T75 HR0_1.out x31_3 p361 q361
         cases e361
         replace hx361_0:=cl_ HB.out hx361_0
         replace hx361_1:=cl_ HB.out hx361_1
         replace hx361_2:=cl_ HB.out hx361_2
         replace p361:=eq_true p361
         replace q361:=eq_true q361
         go_wp2_with (first|((with_reducible refine gd_ 6 rfl ?_);(try (refine gate_guard (by rfl) ?_;dsimp only));refine bx_ #[.int .i64 0,.bool false,.int .u64 0] 75 ?_;intro gb362 hg w28 hbox hb;have BK362:=A_ hbox;have GW362:=gw_ hg HB;have GE362:=GW362;obtain⟨NB357_362,NB362_357⟩:=nb_ BK357 hg;replace BK357:=kb_ BK357 hb;replace HB:=bs_ HB hb;clear hb hbox hg;have hnb29:=NB362_357.out;have hnc29:=NB357_362.out;obtain⟨hcz30_0,hcz30_1,hcz30_2⟩:=cs3_ BK362.out;obtain⟨hfz30_0,hfz30_1,hfz30_2⟩:=fz3_ BK362.out)|((with_reducible refine gc_ 46 rfl ?_);refine gm_ (some 36) Try.func46 (impl_goodGlobal.calls ((rd_T75 l0_1 x31_3).f0) ((rd_T75 l0_1 x31_3).f1) ((rd_T75 l0_1 x31_3).f2) true _ A26.out) ?_;intro w31 hb;replace BK357:=A_ (blk_below (g:=gb357) (o:=.cells #[.slice A0_0 l0_0.length c0_0,.slice (some ad361) l0_1.length c0_1,.bool a0_2,.int .i64 a0_3,.int .i64 a0_4,.int .i64 a0_5] 38 (0,0)) (by refine blk_far ?_ NB357_362.out _;refine blk_far ?_ NB357_362.out _;refine blk_far ?_ NB357_362.out _;(with_reducible repeat (first|refine blk_drewN ?_ _|refine blk_drew ?_|refine blk_alloc ?_ _));exact BK357.out) hb);replace BK362:=A_ (blk_below (g:=gb362) (o:=.cells #[.int .i64 ((rd_T75 l0_1 x31_3).f0),.bool ((rd_T75 l0_1 x31_3).f1),.int .u64 ((rd_T75 l0_1 x31_3).f2)] 75 (0,0)) (by refine blk_put (cs:=#[.int .i64 ((rd_T75 l0_1 x31_3).f0),.bool ((rd_T75 l0_1 x31_3).f1),.int .u64 0]) ?_ 2 _ rfl;refine blk_put (cs:=#[.int .i64 ((rd_T75 l0_1 x31_3).f0),.bool false,.int .u64 0]) ?_ 1 _ rfl;refine blk_put (cs:=#[.int .i64 0,.bool false,.int .u64 0]) ?_ 0 _ rfl;(with_reducible repeat (first|refine blk_drewN ?_ _|refine blk_drew ?_|refine blk_alloc ?_ _));exact BK362.out) hb);replace HB:=bs_ HB hb;(try clear hb)))
         go_roundg k3
         case measure=>have:=HJ1.out;have:=HK2.out;have:=HK3.out;omega
         case rel=>exact⟨(wrap64 (x31_3+1)),rs_,H',⟨by have:=HJ1.out;have:=HK2.out;have:=HK3.out;omega⟩,⟨bk BK357.out⟩,⟨bw HB.out⟩⟩
        obtain rfl:=Option.some.inj H
        clear H
        have p361:0≤(x31_3:Int):=od_
        have q361:x31_3<(l0_1.length:Int):=od_
        obtain⟨ad361,e361,hx361_0,hx361_1,hx361_2⟩:=at_T75 HR0_1.out x31_3 p361 q361
        cases e361
        replace hx361_0:=cl_ HB.out hx361_0
        replace hx361_1:=cl_ HB.out hx361_1
        replace hx361_2:=cl_ HB.out hx361_2
        replace p361:=eq_true p361
        replace q361:=eq_true q361
        go_wp2_with (first|((with_reducible refine gd_ 6 rfl ?_);(try (refine gate_guard (by rfl) ?_;dsimp only));refine bx_ #[.int .i64 0,.bool false,.int .u64 0] 75 ?_;intro gb362 hg w32 hbox hb;have BK362:=A_ hbox;have GW362:=gw_ hg HB;have GE362:=GW362;obtain⟨NB357_362,NB362_357⟩:=nb_ BK357 hg;replace BK357:=kb_ BK357 hb;replace HB:=bs_ HB hb;clear hb hbox hg;have hnb33:=NB362_357.out;have hnc33:=NB357_362.out;obtain⟨hcz34_0,hcz34_1,hcz34_2⟩:=cs3_ BK362.out;obtain⟨hfz34_0,hfz34_1,hfz34_2⟩:=fz3_ BK362.out)|((with_reducible refine gc_ 46 rfl ?_);refine gm_ (some 36) Try.func46 (impl_goodGlobal.calls ((rd_T75 l0_1 x31_3).f0) ((rd_T75 l0_1 x31_3).f1) ((rd_T75 l0_1 x31_3).f2) false _ A26.out) ?_;intro w35 hb;replace BK357:=A_ (blk_below (g:=gb357) (o:=.cells #[.slice A0_0 l0_0.length c0_0,.slice (some ad361) l0_1.length c0_1,.bool a0_2,.int .i64 a0_3,.int .i64 a0_4,.int .i64 a0_5] 38 (0,0)) (by refine blk_far ?_ NB357_362.out _;refine blk_far ?_ NB357_362.out _;refine blk_far ?_ NB357_362.out _;(with_reducible repeat (first|refine blk_drewN ?_ _|refine blk_drew ?_|refine blk_alloc ?_ _));exact BK357.out) hb);replace BK362:=A_ (blk_below (g:=gb362) (o:=.cells #[.int .i64 ((rd_T75 l0_1 x31_3).f0),.bool ((rd_T75 l0_1 x31_3).f1),.int .u64 ((rd_T75 l0_1 x31_3).f2)] 75 (0,0)) (by refine blk_put (cs:=#[.int .i64 ((rd_T75 l0_1 x31_3).f0),.bool ((rd_T75 l0_1 x31_3).f1),.int .u64 0]) ?_ 2 _ rfl;refine blk_put (cs:=#[.int .i64 ((rd_T75 l0_1 x31_3).f0),.bool false,.int .u64 0]) ?_ 1 _ rfl;refine blk_put (cs:=#[.int .i64 0,.bool false,.int .u64 0]) ?_ 0 _ rfl;(with_reducible repeat (first|refine blk_drewN ?_ _|refine blk_drew ?_|refine blk_alloc ?_ _));exact BK362.out) hb);replace HB:=bs_ HB hb;(try clear hb)))
        go_ret
        exact⟨rr_,bw HB.out⟩
       revert H
       refine iB_ (fun c36 H=>?_) (fun c36 H=>?_)<;>subst c36
       ·
        have HC37:=A_ H
        clear H
        obtain⟨hcz38_0,hcz38_1,hcz38_2,hcz38_3,hcz38_4,hcz38_5⟩:=cs6_ BK357.out
        obtain⟨hfz38_0,hfz38_1,hfz38_2,hfz38_3,hfz38_4,hfz38_5⟩:=fz6_ BK357.out
        go_upto_region 16 with (fail)
        go_cut [55] (fun v55 wc=>∃ (kq:Nat) (x55_36:Bool),v55=.bool x55_36∧Aside0 (impl_GoodShape.j3 kq x55_36 l0_0 l0_1 true a0_3 a0_4 a0_5=some r)∧Aside0 (kq≤k3)∧Aside0 (wc.heap[gb357]? =some (.cells #[(.slice A0_0 l0_0.length c0_0),(.slice A0_1 l0_1.length c0_1),.bool true,.int .i64 a0_3,.int .i64 a0_4,.int .i64 a0_5] 38 (0,0)))∧Aside0 (Below w.heap.size w wc))
        case first=>
         have H:=HC37.out
         clear HC37
         revert H
         refine iL_ (fun c39b0 H=>?pc39) (fun c39b0 H=>?nc39)
         case' pc39=>
          (first|rw[c39b0]|(simp only[i64_w,i32_w];rw[c39b0])|skip)
          have H':=A_ H
          clear H
          obtain⟨hcz40_0,hcz40_1,hcz40_2,hcz40_3,hcz40_4,hcz40_5⟩:=cs6_ BK357.out
          obtain⟨hfz40_0,hfz40_1,hfz40_2,hfz40_3,hfz40_4,hfz40_5⟩:=fz6_ BK357.out
         case' nc39=>
          (first|rw[c39b0]|(simp only[i64_w,i32_w];rw[c39b0])|skip)
          revert H
          refine iL_ (fun c41b0 H=>?pc41) (fun c41b0 H=>?nc41)
          case' pc41=>
           have H':=A_ H
           clear H
           obtain⟨hcz42_0,hcz42_1,hcz42_2,hcz42_3,hcz42_4,hcz42_5⟩:=cs6_ BK357.out
           obtain⟨hfz42_0,hfz42_1,hfz42_2,hfz42_3,hfz42_4,hfz42_5⟩:=fz6_ BK357.out
          case' nc41=>
           have H':=A_ H
           clear H
           obtain⟨hcz43_0,hcz43_1,hcz43_2,hcz43_3,hcz43_4,hcz43_5⟩:=cs6_ BK357.out
           obtain⟨hfz43_0,hfz43_1,hfz43_2,hfz43_3,hfz43_4,hfz43_5⟩:=fz6_ BK357.out
         all_goals
          go_wp2
          go_meet
          case rel=>exact⟨_,_,rs_,H',⟨by have:=HJ1.out;have:=HK2.out;have:=HK3.out;first|omega|exact Nat.le_refl _⟩,⟨bk BK357.out⟩,⟨bw HB.out⟩⟩
        case rest=>
         clear HC37
         try clear c7 c9 c9b0 c23 c23b0 c36 hcz22_0 hcz22_1 hcz22_2 hcz22_3 hcz22_4 hcz22_5 hcz38_0 hcz38_1 hcz38_2 hcz38_3 hcz38_4 hcz38_5 hcz8_0 hcz8_1 hcz8_2 hcz8_3 hcz8_4 hcz8_5 hfz22_0 hfz22_1 hfz22_2 hfz22_3 hfz22_4 hfz22_5 hfz38_0 hfz38_1 hfz38_2 hfz38_3 hfz38_4 hfz38_5 hfz8_0 hfz8_1 hfz8_2 hfz8_3 hfz8_4 hfz8_5
         obtain⟨kq,x55_36,rfl,HA,HJ36,BK357,HB⟩:=hcut
         cases kq with
         |zero=>exact absurd HA.out (by simp[impl_GoodShape.j3])
         |succ kj36=>
          have H:=HA.out
          clear HA
          simp only[impl_GoodShape.j3] at H
          revert H
          refine iB_ (fun c44 H=>?_) (fun c44 H=>?_)<;>subst c44
          ·
           obtain rfl:=Option.some.inj H
           clear H
           go_wp2
           go_ret
           exact⟨rr_,bw HB.out⟩
          revert H
          refine iE_ (fun c45b0 c45b1 H=>?_) (fun c45 c45b0 c45b1 H=>?_)
          ·
           obtain rfl:=Option.some.inj H
           clear H
           obtain⟨hcz46_0,hcz46_1,hcz46_2,hcz46_3,hcz46_4,hcz46_5⟩:=cs6_ BK357.out
           obtain⟨hfz46_0,hfz46_1,hfz46_2,hfz46_3,hfz46_4,hfz46_5⟩:=fz6_ BK357.out
           go_wp2
           go_ret
           exact⟨rr_,bw HB.out⟩
          revert H
          refine iL_ (fun c47b0 H=>?_) (fun c47b0 H=>?_)
          ·
           revert H
           refine iL_ (fun c48b0 H=>?_) (fun c48b0 H=>?_)
           ·
            replace H:=id_ H
            obtain⟨c49b0,H⟩:=H
            revert H
            refine iE_ (fun c50b0 c50b1 H=>?_) (fun c50 c50b0 c50b1 H=>?_)
            ·
             obtain rfl:=Option.some.inj H
             clear H
             obtain⟨hcz51_0,hcz51_1,hcz51_2,hcz51_3,hcz51_4,hcz51_5⟩:=cs6_ BK357.out
             obtain⟨hfz51_0,hfz51_1,hfz51_2,hfz51_3,hfz51_4,hfz51_5⟩:=fz6_ BK357.out
             have p364:0≤(a0_5:Int):=od_
             have q364:a0_5<(l0_0.length:Int):=od_
             obtain⟨ad364,A364_0,c364_0,A364_2,c364_2,A364_3,c364_3,e364,hx364_0,hx364_1,hx364_2,hx364_3,hl364_0,hi364_0,hl364_2,hi364_2,hl364_3,hi364_3⟩:=at_T88 HR0_0.out a0_5 p364 q364
             cases e364
             replace hx364_0:=cl_ HB.out hx364_0
             replace hx364_1:=cl_ HB.out hx364_1
             replace hx364_2:=cl_ HB.out hx364_2
             replace hx364_3:=cl_ HB.out hx364_3
             have HR364_0:=A_ hi364_0
             have HC364_0:=A_ hl364_0
             clear hi364_0 hl364_0
             have HR364_2:=A_ hi364_2
             have HC364_2:=A_ hl364_2
             clear hi364_2 hl364_2
             have HR364_3:=A_ hi364_3
             have HC364_3:=A_ hl364_3
             clear hi364_3 hl364_3
             replace p364:=eq_true p364
             replace q364:=eq_true q364
             have p365:0≤(a0_5:Int):=od_
             have q365:a0_5<(l0_0.length:Int):=od_
             obtain⟨ad365,A365_0,c365_0,A365_2,c365_2,A365_3,c365_3,e365,hx365_0,hx365_1,hx365_2,hx365_3,hl365_0,hi365_0,hl365_2,hi365_2,hl365_3,hi365_3⟩:=at_T88 HR0_0.out a0_5 p365 q365
             obtain rfl:ad364=ad365:=(by injection e365)
             replace hx365_0:=cl_ HB.out hx365_0
             replace hx365_1:=cl_ HB.out hx365_1
             replace hx365_2:=cl_ HB.out hx365_2
             replace hx365_3:=cl_ HB.out hx365_3
             have HR365_0:=A_ hi365_0
             have HC365_0:=A_ hl365_0
             clear hi365_0 hl365_0
             have HR365_2:=A_ hi365_2
             have HC365_2:=A_ hl365_2
             clear hi365_2 hl365_2
             have HR365_3:=A_ hi365_3
             have HC365_3:=A_ hl365_3
             clear hi365_3 hl365_3
             replace p365:=eq_true p365
             replace q365:=eq_true q365
             have ea_:=Option.some.inj (hx364_0.symm.trans hx365_0)
             injection ea_ with ea_ en_ ec_
             subst ea_
             subst ec_
             clear en_
             have ea_:=Option.some.inj (hx364_2.symm.trans hx365_2)
             injection ea_ with ea_ en_ ec_
             subst ea_
             subst ec_
             clear en_
             have ea_:=Option.some.inj (hx364_3.symm.trans hx365_3)
             injection ea_ with ea_ en_ ec_
             subst ea_
             subst ec_
             clear en_
             go_wp2
             go_ret
             exact⟨rr_,bw HB.out⟩
            have c50b2:¬(((rd_T88 l0_0 a0_5).f0)=[]):=fun h_=>c50 (by rw[h_];rfl)
            obtain rfl:=Option.some.inj H
            clear H
            obtain⟨hcz52_0,hcz52_1,hcz52_2,hcz52_3,hcz52_4,hcz52_5⟩:=cs6_ BK357.out
            obtain⟨hfz52_0,hfz52_1,hfz52_2,hfz52_3,hfz52_4,hfz52_5⟩:=fz6_ BK357.out
            have p364:0≤(a0_5:Int):=od_
            have q364:a0_5<(l0_0.length:Int):=od_
            obtain⟨ad364,A364_0,c364_0,A364_2,c364_2,A364_3,c364_3,e364,hx364_0,hx364_1,hx364_2,hx364_3,hl364_0,hi364_0,hl364_2,hi364_2,hl364_3,hi364_3⟩:=at_T88 HR0_0.out a0_5 p364 q364
            cases e364
            replace hx364_0:=cl_ HB.out hx364_0
            replace hx364_1:=cl_ HB.out hx364_1
            replace hx364_2:=cl_ HB.out hx364_2
            replace hx364_3:=cl_ HB.out hx364_3
            have HR364_0:=A_ hi364_0
            have HC364_0:=A_ hl364_0
            clear hi364_0 hl364_0
            have HR364_2:=A_ hi364_2
            have HC364_2:=A_ hl364_2
            clear hi364_2 hl364_2
            have HR364_3:=A_ hi364_3
            have HC364_3:=A_ hl364_3
            clear hi364_3 hl364_3
            replace p364:=eq_true p364
            replace q364:=eq_true q364
            go_wp2
            go_ret
            exact⟨rr_,bw HB.out⟩
           obtain rfl:=Option.some.inj H
           clear H
           obtain⟨hcz53_0,hcz53_1,hcz53_2,hcz53_3,hcz53_4,hcz53_5⟩:=cs6_ BK357.out
           obtain⟨hfz53_0,hfz53_1,hfz53_2,hfz53_3,hfz53_4,hfz53_5⟩:=fz6_ BK357.out
           go_wp2
           go_ret
           exact⟨rr_,bw HB.out⟩
          obtain rfl:=Option.some.inj H
          clear H
          obtain⟨hcz54_0,hcz54_1,hcz54_2,hcz54_3,hcz54_4,hcz54_5⟩:=cs6_ BK357.out
          obtain⟨hfz54_0,hfz54_1,hfz54_2,hfz54_3,hfz54_4,hfz54_5⟩:=fz6_ BK357.out
          go_wp2
          go_ret
          exact⟨rr_,bw HB.out⟩
       have HC55:=A_ H
       clear H
       obtain⟨hcz56_0,hcz56_1,hcz56_2,hcz56_3,hcz56_4,hcz56_5⟩:=cs6_ BK357.out
       obtain⟨hfz56_0,hfz56_1,hfz56_2,hfz56_3,hfz56_4,hfz56_5⟩:=fz6_ BK357.out
       go_upto_region 18 with (fail)
       go_cut [63] (fun v63 wc=>∃ (kq:Nat) (x63_54:Bool),v63=.bool x63_54∧Aside0 (impl_GoodShape.j4 kq x63_54 l0_0 l0_1 false a0_3 a0_4 a0_5=some r)∧Aside0 (kq≤k3)∧Aside0 (wc.heap[gb357]? =some (.cells #[(.slice A0_0 l0_0.length c0_0),(.slice A0_1 l0_1.length c0_1),.bool false,.int .i64 a0_3,.int .i64 a0_4,.int .i64 a0_5] 38 (0,0)))∧Aside0 (Below w.heap.size w wc))
       case first=>
        have H:=HC55.out
        clear HC55
        revert H
        refine iE_ (fun c57b0 c57b1 H=>?_) (fun c57 c57b0 c57b1 H=>?_)
        ·
         (first|rw[c57b0]|(simp only[i64_w,i32_w];rw[c57b0])|skip)
         have H':=A_ H
         clear H
         obtain⟨hcz58_0,hcz58_1,hcz58_2,hcz58_3,hcz58_4,hcz58_5⟩:=cs6_ BK357.out
         obtain⟨hfz58_0,hfz58_1,hfz58_2,hfz58_3,hfz58_4,hfz58_5⟩:=fz6_ BK357.out
         go_wp2
         go_meet
         case rel=>exact⟨_,((a0_4 !=0)),rs_,H',⟨by have:=HJ1.out;have:=HK2.out;have:=HK3.out;first|omega|exact Nat.le_refl _⟩,⟨bk BK357.out⟩,⟨bw HB.out⟩⟩
        (first|rw[c57b0]|(simp only[i64_w,i32_w];rw[c57b0])|skip)
        have H':=A_ H
        clear H
        obtain⟨hcz59_0,hcz59_1,hcz59_2,hcz59_3,hcz59_4,hcz59_5⟩:=cs6_ BK357.out
        obtain⟨hfz59_0,hfz59_1,hfz59_2,hfz59_3,hfz59_4,hfz59_5⟩:=fz6_ BK357.out
        go_wp2
        go_meet
        case rel=>exact⟨_,(true),rs_,H',⟨by have:=HJ1.out;have:=HK2.out;have:=HK3.out;first|omega|exact Nat.le_refl _⟩,⟨bk BK357.out⟩,⟨bw HB.out⟩⟩
       case rest=>
        clear HC55
        try clear c7 c9 c9b0 c23 c23b0 c36 hcz22_0 hcz22_1 hcz22_2 hcz22_3 hcz22_4 hcz22_5 hcz56_0 hcz56_1 hcz56_2 hcz56_3 hcz56_4 hcz56_5 hcz8_0 hcz8_1 hcz8_2 hcz8_3 hcz8_4 hcz8_5 hfz22_0 hfz22_1 hfz22_2 hfz22_3 hfz22_4 hfz22_5 hfz56_0 hfz56_1 hfz56_2 hfz56_3 hfz56_4 hfz56_5 hfz8_0 hfz8_1 hfz8_2 hfz8_3 hfz8_4 hfz8_5
        obtain⟨kq,x63_54,rfl,HA,HJ54,BK357,HB⟩:=hcut
        cases kq with
        |zero=>exact absurd HA.out (by simp[impl_GoodShape.j4])
        |succ kj54=>
         have H:=HA.out
         clear HA
         simp only[impl_GoodShape.j4] at H
         revert H
         refine iB_ (fun c60 H=>?_) (fun c60 H=>?_)<;>subst c60
         ·
          obtain rfl:=Option.some.inj H
          clear H
          go_wp2
          go_ret
          exact⟨rr_,bw HB.out⟩
         revert H
         refine iE_ (fun c61b0 c61b1 H=>?_) (fun c61 c61b0 c61b1 H=>?_)
         ·
          obtain rfl:=Option.some.inj H
          clear H
          obtain⟨hcz62_0,hcz62_1,hcz62_2,hcz62_3,hcz62_4,hcz62_5⟩:=cs6_ BK357.out
          obtain⟨hfz62_0,hfz62_1,hfz62_2,hfz62_3,hfz62_4,hfz62_5⟩:=fz6_ BK357.out
          go_wp2
          go_ret
          exact⟨rr_,bw HB.out⟩
         revert H
         refine iL_ (fun c63b0 H=>?_) (fun c63b0 H=>?_)
         ·
          revert H
          refine iL_ (fun c64b0 H=>?_) (fun c64b0 H=>?_)
          ·
           replace H:=id_ H
           obtain⟨c65b0,H⟩:=H
           revert H
           refine iE_ (fun c66b0 c66b1 H=>?_) (fun c66 c66b0 c66b1 H=>?_)
           ·
            obtain rfl:=Option.some.inj H
            clear H
            obtain⟨hcz67_0,hcz67_1,hcz67_2,hcz67_3,hcz67_4,hcz67_5⟩:=cs6_ BK357.out
            obtain⟨hfz67_0,hfz67_1,hfz67_2,hfz67_3,hfz67_4,hfz67_5⟩:=fz6_ BK357.out
            have p366:0≤(a0_5:Int):=od_
            have q366:a0_5<(l0_0.length:Int):=od_
            obtain⟨ad366,A366_0,c366_0,A366_2,c366_2,A366_3,c366_3,e366,hx366_0,hx366_1,hx366_2,hx366_3,hl366_0,hi366_0,hl366_2,hi366_2,hl366_3,hi366_3⟩:=at_T88 HR0_0.out a0_5 p366 q366
            cases e366
            replace hx366_0:=cl_ HB.out hx366_0
            replace hx366_1:=cl_ HB.out hx366_1
            replace hx366_2:=cl_ HB.out hx366_2
            replace hx366_3:=cl_ HB.out hx366_3
            have HR366_0:=A_ hi366_0
            have HC366_0:=A_ hl366_0
            clear hi366_0 hl366_0
            have HR366_2:=A_ hi366_2
            have HC366_2:=A_ hl366_2
            clear hi366_2 hl366_2
            have HR366_3:=A_ hi366_3
            have HC366_3:=A_ hl366_3
            clear hi366_3 hl366_3
            replace p366:=eq_true p366
            replace q366:=eq_true q366
            have p367:0≤(a0_5:Int):=od_
            have q367:a0_5<(l0_0.length:Int):=od_
            obtain⟨ad367,A367_0,c367_0,A367_2,c367_2,A367_3,c367_3,e367,hx367_0,hx367_1,hx367_2,hx367_3,hl367_0,hi367_0,hl367_2,hi367_2,hl367_3,hi367_3⟩:=at_T88 HR0_0.out a0_5 p367 q367
            obtain rfl:ad366=ad367:=(by injection e367)
            replace hx367_0:=cl_ HB.out hx367_0
            replace hx367_1:=cl_ HB.out hx367_1
            replace hx367_2:=cl_ HB.out hx367_2
            replace hx367_3:=cl_ HB.out hx367_3
            have HR367_0:=A_ hi367_0
            have HC367_0:=A_ hl367_0
            clear hi367_0 hl367_0
            have HR367_2:=A_ hi367_2
            have HC367_2:=A_ hl367_2
            clear hi367_2 hl367_2
            have HR367_3:=A_ hi367_3
            have HC367_3:=A_ hl367_3
            clear hi367_3 hl367_3
            replace p367:=eq_true p367
            replace q367:=eq_true q367
            have ea_:=Option.some.inj (hx366_0.symm.trans hx367_0)
            injection ea_ with ea_ en_ ec_
            subst ea_
            subst ec_
            clear en_
            have ea_:=Option.some.inj (hx366_2.symm.trans hx367_2)
            injection ea_ with ea_ en_ ec_
            subst ea_
            subst ec_
            clear en_
            have ea_:=Option.some.inj (hx366_3.symm.trans hx367_3)
            injection ea_ with ea_ en_ ec_
            subst ea_
            subst ec_
            clear en_
            go_wp2
            go_ret
            exact⟨rr_,bw HB.out⟩
           have c66b2:¬(((rd_T88 l0_0 a0_5).f0)=[]):=fun h_=>c66 (by rw[h_];rfl)
           obtain rfl:=Option.some.inj H
           clear H
           obtain⟨hcz68_0,hcz68_1,hcz68_2,hcz68_3,hcz68_4,hcz68_5⟩:=cs6_ BK357.out
           obtain⟨hfz68_0,hfz68_1,hfz68_2,hfz68_3,hfz68_4,hfz68_5⟩:=fz6_ BK357.out
           have p366:0≤(a0_5:Int):=od_
           have q366:a0_5<(l0_0.length:Int):=od_
           obtain⟨ad366,A366_0,c366_0,A366_2,c366_2,A366_3,c366_3,e366,hx366_0,hx366_1,hx366_2,hx366_3,hl366_0,hi366_0,hl366_2,hi366_2,hl366_3,hi366_3⟩:=at_T88 HR0_0.out a0_5 p366 q366
           cases e366
           replace hx366_0:=cl_ HB.out hx366_0
           replace hx366_1:=cl_ HB.out hx366_1
           replace hx366_2:=cl_ HB.out hx366_2
           replace hx366_3:=cl_ HB.out hx366_3
           have HR366_0:=A_ hi366_0
           have HC366_0:=A_ hl366_0
           clear hi366_0 hl366_0
           have HR366_2:=A_ hi366_2
           have HC366_2:=A_ hl366_2
           clear hi366_2 hl366_2
           have HR366_3:=A_ hi366_3
           have HC366_3:=A_ hl366_3
           clear hi366_3 hl366_3
           replace p366:=eq_true p366
           replace q366:=eq_true q366
           go_wp2
           go_ret
           exact⟨rr_,bw HB.out⟩
          obtain rfl:=Option.some.inj H
          clear H
          obtain⟨hcz69_0,hcz69_1,hcz69_2,hcz69_3,hcz69_4,hcz69_5⟩:=cs6_ BK357.out
          obtain⟨hfz69_0,hfz69_1,hfz69_2,hfz69_3,hfz69_4,hfz69_5⟩:=fz6_ BK357.out
          go_wp2
          go_ret
          exact⟨rr_,bw HB.out⟩
         obtain rfl:=Option.some.inj H
         clear H
         obtain⟨hcz70_0,hcz70_1,hcz70_2,hcz70_3,hcz70_4,hcz70_5⟩:=cs6_ BK357.out
         obtain⟨hfz70_0,hfz70_1,hfz70_2,hfz70_3,hfz70_4,hfz70_5⟩:=fz6_ BK357.out
         go_wp2
         go_ret
         exact⟨rr_,bw HB.out⟩


/-! ### impl_checker_fail: function 67 (walked by hand) -/
set_option maxHeartbeats 4000000 in
theorem top_any (w0 w:World) (g:Nat) (q:Nat→Value) (c:CS S101) (A:Option Addr) (n1 gB n2:Nat) (hp:0<c.sp.length) (h:Ck w0 w g q c A n1 (some ⟨gB,0,none⟩) n2):
  Calls Try.prog 84 #[.pointer (some ⟨g,0,none⟩)] w fun e w'=>e=.returned (.pointer (some ⟨gB,(c.sp.length - 1)*5,none⟩))∧∃ nd,w'=w.drewN nd:=by
 have c3:=h.cell3
 have hm:=h.lenP.1
 have hP:=A_ hp
 clear h
 obtain⟨n,hn⟩:∃ n,c.sp.length=n:=⟨_,rfl⟩
 rw[hn] at c3 hm hP ⊢
 have e1:IntKind.i64.wrap ((n:Int) - 1)=((n - 1:Nat):Int):=by have:=hP.out;rw[show ((n:Int) - 1)=((n - 1:Nat):Int) by omega];exact IntWalk.i64_in _ (by omega)
 have q1:(0:Int)≤((n - 1:Nat):Int):=by omega
 have q2:((n - 1:Nat):Int)<(n:Int):=by have:=hP.out;omega
 go_enter Try.func84,Try.ntmps84
 go_wp2
 go_quiet (fail)
 go_wp2
 go_ret
 exact⟨rfl,_,rfl⟩
set_option maxHeartbeats 4000000 in
theorem fail_any (w0 w:World) (g:Nat) (q:Nat→Value) (c:CS S101) (k:Int) (A:Option Addr) (n1:Nat) (B:Option Addr) (n2:Nat) (h:Ck w0 w g q c A n1 B n2):
  Calls Try.prog 67 #[.pointer (some ⟨g,0,none⟩),.int .i64 k] w fun e w'=>e=.returned (.tuple #[])∧Ck w0 w' g q (c.fail k) A n1 B n2∧KeepBut w w' g none:=by
 have HO:=A_ h
 have c5:=h.cell5
 have f5:=h.frozen 5
 clear h
 by_cases cf:c.fa=0
 ·
  have cb:(c.fa==0)=true:=beq_iff_eq.2 cf
  have e:c.fail k={c with fa:=k}:=by rw[CS.fail,if_pos cf]
  rw[e]
  clear cf e
  go_enter Try.func67,Try.ntmps67
  go_wp2
  go_end0
  exact⟨rfl,HO.out.setF k,(KeepBut.refl w g none).set_ 5 _⟩
 have cb:(c.fa==0)=false:=beq_eq_false_iff_ne.2 cf
 have e:c.fail k=c:=by rw[CS.fail,if_neg cf]
 rw[e]
 clear cf e
 go_enter Try.func67,Try.ntmps67
 go_wp2
 go_end0
 exact⟨rfl,HO.out,KeepBut.refl w g none⟩


/-! ### impl_checker_take: function 64 (walked by hand) -/
def takeC (c:CS S101) (want:Int):Option (CS S101 × Int):=
 (c.sp[c.sp.length - 1]?).bind fun b=>
  if (c.st.length:Int)≤b.f2 then some (if b.f3=true then c else c.fail 2,0)
  else (c.st[c.st.length - 1]?).bind fun t=>
   if want≠0∧t≠0∧want≠t then some (({c with st:=c.st.take (c.st.length - 1)}:CS S101).fail 3,t) else some ({c with st:=c.st.take (c.st.length - 1)},t)
theorem take_any (w0 w:World) (g:Nat) (q:Nat→Value) (c c':CS S101) (want t:Int) (A:Option Addr) (n1:Nat) (B:Option Addr) (n2:Nat) (h:Ck w0 w g q c A n1 B n2) (hr:takeC c want=some (c',t)):
  Calls Try.prog 64 #[.pointer (some ⟨g,0,none⟩),.int .i64 want] w fun e w'=>e=.returned (.int .i64 t)∧Ck w0 w' g q c' A n1 B n2∧KeepBut w w' g none:=by
 obtain⟨b,hb,hr⟩:=Option.bind_eq_some_iff.1 hr
 have hp:0<c.sp.length:=by have:=(List.getElem?_eq_some_iff.1 hb).1;omega
 obtain⟨gB,rfl,ggB,s0,s1,s2,s3,s4,sf⟩:=h.span _ b hb
 have HO:=A_ h
 have HP:=A_ hp
 have c2:=h.cell2
 have f2:=h.frozen 2
 have hm:=h.lenS
 have HBB:=A_ hb
 clear s0 s1 s4 sf hb hp
 by_cases c1:(c.st.length:Int)≤b.f2
 ·
  rw[if_pos c1] at hr
  simp only[Option.some.injEq,Prod.mk.injEq] at hr
  obtain⟨rfl,rfl⟩:=hr
  have c1b:=decide_eq_true c1
  clear h c1
  by_cases cd:b.f3=true
  ·
   rw[if_pos cd]
   rw[cd] at s3
   clear cd
   go_enter Try.func64,Try.ntmps64
   go_wp2
   go_quiet ((go_at_call 84;exact Calls.quiet_of (top_any w0 _ g q c A n1 gB n2 HP.out (HO.out.drewN _))))
   go_wp2_with (first|(go_at_call 84;refine(top_any w0 _ g q c A n1 gB n2 HP.out (HO.out.drewN _)).mono ?_;rintro e w' ⟨rfl,nd,rfl⟩))
   go_ret
   exact⟨rfl,HO.out.drewN _,KeepBut.refl _ _ _⟩
  rw[if_neg cd]
  rw[show b.f3=false by simpa using cd] at s3
  clear cd
  go_enter Try.func64,Try.ntmps64
  go_wp2
  go_quiet ((go_at_call 84;exact Calls.quiet_of (top_any w0 _ g q c A n1 gB n2 HP.out (HO.out.drewN _))))
  go_wp2_with (first|(go_at_call 84;refine(top_any w0 _ g q c A n1 gB n2 HP.out (HO.out.drewN _)).mono ?_;rintro e w' ⟨rfl,nd,rfl⟩)|(go_at_call 67;refine(fail_any w0 _ g q c 2 A n1 _ n2 (HO.out.drewN _)).mono ?_;rintro e w2 ⟨rfl,hO,hK⟩;have HO2:=A_ hO;have HK:=A_ hK;clear hO hK))
  go_ret
  exact⟨rfl,HO2.out,HK.out⟩
 rw[if_neg c1] at hr
 obtain⟨x,hx,hr2⟩:=Option.bind_eq_some_iff.1 hr
 clear hr
 have c1b:=decide_eq_false c1
 have hlt:c.st.length - 1<c.st.length:=(List.getElem?_eq_some_iff.1 hx).1
 obtain⟨gA,rfl,sx⟩:=h.stk _ x hx
 have HX:=A_ hx
 have HK:=A_ (KeepBut.refl w g none)
 clear hx c1 s3
 have e1:IntKind.i64.wrap ((c.st.length:Int) - 1)=((c.st.length - 1:Nat):Int):=by rw[show ((c.st.length:Int) - 1)=((c.st.length - 1:Nat):Int) by omega];exact IntWalk.i64_in _ (by omega)
 have q1:(0:Int)≤((c.st.length - 1:Nat):Int):=by omega
 have q2:((c.st.length - 1:Nat):Int)<(c.st.length:Int):=by omega
 have q3:((c.st.length - 1:Nat):Int)≤(n1:Int):=by omega
 have HL:=A_ (show c.st.length - 1≤c.st.length by omega)
 clear h hlt hm
 go_enter Try.func64,Try.ntmps64
 go_wp2
 go_quiet (((go_at_call 84;exact Calls.quiet_of (top_any w0 _ g q c (some ⟨gA,0,none⟩) n1 gB n2 HP.out (HO.out.drewN _)))))
 replace HO:=A_ (HO.out.drewN nq);replace HK:=A_ (keep_drewN HK.out nq);clear c2 f2 sx s2;generalize w.drewN nq=w1 at*
 have c2:=HO.out.cell2;have f2:=HO.out.frozen 2
 obtain⟨_,e_,sx⟩:=HO.out.stk _ x HX.out;cases e_
 go_wp2
 go_quiet (fail)
 replace HO:=A_ (HO.out.drewN nq);replace HK:=A_ (keep_drewN HK.out nq);clear c2 f2 sx;generalize w1.drewN nq=w2 at*
 have c2:=HO.out.cell2;have f2:=HO.out.frozen 2
 go_wp2
 go_still_tail 14,(by kernel_rfl)
 change wpList _ _ _ _ _ w2.drew
 replace HO:=A_ (HO.out.drew);replace HK:=A_ (keep_drew HK.out);clear c2 f2;generalize w2.drew=w3 at*
 have c2:=HO.out.cell2;have f2:=HO.out.frozen 2
 go_upto_region 7 with (fail)
 replace HO:=A_ (HO.out.cutS (c.st.length - 1) HL.out);replace HK:=A_ (HK.out.set_ 2 (.slice (some ⟨gA,0,none⟩) (c.st.length - 1) n1));clear c2 f2;generalize w3.setCell ⟨g,2,none⟩ (.slice (some ⟨gA,0,none⟩) (c.st.length - 1) n1)=w4 at*
 by_cases w1:want=0
 ·
  have b1:(want !=0)=false:=bne_eq_false_iff_eq.mpr w1
  rw[if_neg (by simp[w1])] at hr2
  simp only[Option.some.injEq,Prod.mk.injEq] at hr2
  obtain⟨rfl,rfl⟩:=hr2
  go_wp2
  go_ret
  exact⟨rfl,HO.out,HK.out⟩
 have b1:(want !=0)=true:=bne_iff_ne.mpr w1
 by_cases w2:x=0
 ·
  have b2:(x !=0)=false:=bne_eq_false_iff_eq.mpr w2
  rw[if_neg (by simp[w2])] at hr2
  simp only[Option.some.injEq,Prod.mk.injEq] at hr2
  obtain⟨rfl,rfl⟩:=hr2
  go_wp2
  go_ret
  exact⟨rfl,HO.out,HK.out⟩
 have b2:(x !=0)=true:=bne_iff_ne.mpr w2
 by_cases w3:want=x
 ·
  have b3:(want !=x)=false:=bne_eq_false_iff_eq.mpr w3
  rw[if_neg (by simp[w3])] at hr2
  simp only[Option.some.injEq,Prod.mk.injEq] at hr2
  obtain⟨rfl,rfl⟩:=hr2
  go_wp2
  go_ret
  exact⟨rfl,HO.out,HK.out⟩
 have b3:(want !=x)=true:=bne_iff_ne.mpr w3
 rw[if_pos ⟨w1,w2,w3⟩] at hr2
 simp only[Option.some.injEq,Prod.mk.injEq] at hr2
 obtain⟨rfl,rfl⟩:=hr2
 go_wp2_with (first|(go_at_call 67;refine(fail_any w0 _ g q _ 3 _ n1 _ n2 HO.out).mono ?_;rintro e w5 ⟨rfl,hO,hK⟩;replace HO:=A_ hO;replace HK:=A_ (HK.out.trans hK (.inl rfl));clear hO hK))
 go_ret
 exact⟨rfl,HO.out,HK.out⟩


/-! ### impl_checker_put: function 65 (walked by hand) -/
theorem put_any (k:Int) (w0 w:World) (g:Nat) (q:Nat→Value) (c c':CS S101) (A:Option Addr) (n1:Nat) (B:Option Addr) (n2:Nat) (h:Ck w0 w g q c A n1 B n2) (hr:c.put k=some c'):
  Calls Try.prog 65 #[.pointer (some ⟨g,0,none⟩),.int .i64 k] w fun e w'=>e=.returned (.tuple #[])∧CkE w0 w' g q c':=by
 have HO:=A_ h
 have HK:=A_ (KeepBut.refl w g none)
 have hm:=h.lenS
 clear h
 unfold CS.put at hr
 by_cases ck:k=64
 ·
  rw[if_pos ck] at hr
  obtain rfl:=Option.some.inj hr
  have cb:(k !=64)=false:=bne_eq_false_iff_eq.mpr ck
  clear ck
  go_enter Try.func65,Try.ntmps65
  go_wp2
  go_end0
  exact⟨rfl,_,_,_,_,HO.out⟩
 rw[if_neg ck] at hr
 by_cases cl:c.st.length<17592186044416
 ·
  rw[if_pos cl] at hr
  obtain rfl:=Option.some.inj hr
  have cb:(k !=64)=true:=bne_iff_ne.mpr ck
  have HL:=A_ cl
  clear ck cl hr
  obtain⟨hx,hh⟩:∃ x,(if c.hi<(c.st.length:Int)+1 then (c.st.length:Int)+1 else c.hi)=x:=⟨_,rfl⟩
  rw[hh]
  have HH:=A_ hh
  clear hh
  have c2:=HO.out.cell2
  have f2:=HO.out.frozen 2
  go_enter Try.func65,Try.ntmps65
  go_wp2_with (first|((with_reducible refine gate_builtin (b:=.append) (xs:=#[.tmp 10,.tmp 12]) rfl ?_);at_builtin;refine Kd.R_append (Kd.int .i64) w0.heap.size rfl (.tmp 10) (.tmp 12) 81 3 (.int .i64 0) 8 rfl Try.underlying81 info3 rfl (by decide) (by omega) (.slice A c.st.length n1) c.st k [.int .i64 k] (fun _=>True) (fun _=>False) rfl rfl ?aP (fun _ hk=>hk.elim) (fun _ _=>trivial) ?aO HO.out.2.1 HO.out.2.1.size ?aL ?_;(case aP=>exact rfl);(case aO=>exact HO.out.2.2.2.1);(case aL=>have:=HL.out;omega);intro v1 wa hv hb hg hat;obtain⟨hblk,A',n',e_,hN⟩:=HO.out.appS hv hb hg;subst e_;have HB:=A_ hblk;have HN:=A_ hN;clear c2 f2 hv hb hg hat hblk hN;have c2:=blk_cell HB.out 2;have f2:=blk_frozen HB.out 2))
  replace HO:=A_ (HN.out);replace HK:=A_ trivial;clear HB c2 f2;generalize wa.setCell ⟨g,2,none⟩ (.slice A' (c.st.length+1) n')=wb at*;clear HN
  have c2:wb.cell? ⟨g,2,none⟩=some (.slice A' (c.st.length+1) n'):=by have h9:=HO.out.cell2;rwa [List.length_append,List.length_singleton] at h9
  have c4:=HO.out.cell4;have f4:=HO.out.frozen 4
  by_cases cm:c.hi<(c.st.length:Int)+1
  ·
   have ee:=HH.out.symm.trans (if_pos cm)
   have cm1:(c.hi<(c.st.length:Int)+1)=True:=eq_true cm
   have EE:=A_ ee
   clear cm ee
   go_still_tail 13,(by kernel_rfl)
   change wpList _ _ _ _ _ wb.drew
   replace HO:=A_ (HO.out.drew);replace HK:=A_ (trivial);clear c2 c4 f4;generalize wb.drew=wc at*
   have c4:=HO.out.cell4;have f4:=HO.out.frozen 4
   go_wp2
   go_end0
   exact⟨rfl,_,_,_,_,by rw[EE.out];exact HO.out.setH _⟩
  have ee:=HH.out.symm.trans (if_neg cm)
  have cm1:(c.hi<(c.st.length:Int)+1)=False:=eq_false cm
  have EE:=A_ ee
  clear cm ee
  go_still_tail 13,(by kernel_rfl)
  change wpList _ _ _ _ _ wb.drew
  replace HO:=A_ (HO.out.drew);replace HK:=A_ (trivial);clear c2 c4 f4;generalize wb.drew=wc at*
  have c4:=HO.out.cell4;have f4:=HO.out.frozen 4
  go_wp2
  go_end0
  exact⟨rfl,_,_,_,_,by rw[EE.out];exact HO.out.setH _⟩
 rw[if_neg cl] at hr;cases hr


/-! ### impl_checker_takeKind: function 85 (walked by hand) -/
def takeKC (c:CS S101) (k:Int):Option (CS S101):=if k=64 then some c else (takeC c k).bind fun r=>some r.1
theorem takeC_sp {c c1:CS S101} {k t:Int} (h:takeC c k=some (c1,t)):c1.sp=c.sp:=by
 have hf:∀ (c:CS S101) (k:Int),(c.fail k).sp=c.sp:=fun c k=>by unfold CS.fail;split<;>rfl
 unfold takeC at h
 obtain⟨b,_,h⟩:=Option.bind_eq_some_iff.1 h
 split at h
 ·
  simp only[Option.some.injEq,Prod.mk.injEq] at h
  rw[←h.1];split
  ·
   rfl
  exact hf _ _
 obtain⟨x,_,h⟩:=Option.bind_eq_some_iff.1 h
 split at h<;>simp only[Option.some.injEq,Prod.mk.injEq] at h<;>rw[←h.1]
 exact hf _ _
theorem takeKC_sp {c c1:CS S101} {k:Int} (h:takeKC c k=some c1):c1.sp=c.sp:=by
 unfold takeKC at h
 split at h
 ·
  rw[←Option.some.inj h]
 obtain⟨⟨c2,t⟩,h1,h⟩:=Option.bind_eq_some_iff.1 h
 rw[←Option.some.inj h];exact takeC_sp h1
theorem takeK_any (k:Int) (w0 w:World) (g:Nat) (q:Nat→Value) (c c':CS S101) (A:Option Addr) (n1:Nat) (B:Option Addr) (n2:Nat) (h:Ck w0 w g q c A n1 B n2) (hr:takeKC c k=some c'):
  Calls Try.prog 85 #[.pointer (some ⟨g,0,none⟩),.int .i64 k] w fun e w'=>e=.returned (.tuple #[])∧Ck w0 w' g q c' A n1 B n2∧KeepBut w w' g none:=by
 have HO:=A_ h
 have HK:=A_ (KeepBut.refl w g none)
 clear h
 unfold takeKC at hr
 by_cases ck:k=64
 ·
  rw[if_pos ck] at hr
  obtain rfl:=Option.some.inj hr
  have cb:(k !=64)=false:=bne_eq_false_iff_eq.mpr ck
  clear ck
  go_enter Try.func85,Try.ntmps85
  go_wp2
  go_end0
  exact⟨rfl,HO.out,HK.out⟩
 rw[if_neg ck] at hr
 obtain⟨⟨c1,t⟩,h1,h2⟩:=Option.bind_eq_some_iff.1 hr
 obtain rfl:=Option.some.inj h2
 have cb:(k !=64)=true:=bne_iff_ne.mpr ck
 have HT:=A_ h1
 clear ck hr h1 h2
 go_enter Try.func85,Try.ntmps85
 go_wp2_with (first|(go_at_call 64;refine(take_any w0 _ g q c c1 k t A n1 B n2 HO.out HT.out).mono ?_;rintro e w5 ⟨rfl,hO,hK⟩;replace HO:=A_ hO;replace HK:=A_ (HK.out.trans hK (.inl rfl));clear hO hK))
 go_end0
 exact⟨rfl,HO.out,HK.out⟩
end Go.Proofs.Ytanhbfhmgmjdgaa.Q

