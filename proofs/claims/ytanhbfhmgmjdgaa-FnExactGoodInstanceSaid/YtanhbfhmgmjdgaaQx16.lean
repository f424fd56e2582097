-- Written by a program of this session; it walks the functions that the law reaches.
import Derived.Test.YtanhbfhmgmjdgaaQx0
import Derived.Test.YtanhbfhmgmjdgaaQx15
namespace Go.Proofs.Ytanhbfhmgmjdgaa.Q
open Go.RowKit Go.Proofs.YtanhbfhmgmjdgaaW.PrintWords Go.Proofs.YtanhbfhmgmjdgaaW.PrintLast Go.Proofs.YtanhbfhmgmjdgaaW.PrintMore
attribute [local go_sem] max2_int min2_int max_two min_two max_three min_three max_four min_four   -- for this text's walks alone
set_option linter.unusedVariables false
set_option linter.unusedSimpArgs false
set_option maxRecDepth 100000
set_option maxHeartbeats 8000000

/-! ### impl_GoodIns: function 97 -/
def impl_GoodIns.f (k:Nat) (a0_0:Int) (a0_1:Int):Option (Bool):=(impl_formOf.f k a0_0).bind fun t329=>(if t329=1 then (some (a0_1==0)) else (if t329=2 then ((impl_goodType.f a0_1).bind fun t330=>(if t330=true then (some true) else (some (a0_1==64)))) else (if t329=3 then (if a0_1≥0 then (some (decide (a0_1≤1000))) else (some false)) else (if t329=4 then (if a0_1≥0 then (some (decide (a0_1≤10000))) else (some false)) else (if t329=5 then (if a0_1≥(-2147483648) then (some (decide (a0_1<2147483648))) else (some false)) else (if t329=6 then (some true) else (if t329=7 then (if a0_1≥0 then (some (decide (a0_1<4294967296))) else (some false)) else (some false))))))))
theorem impl_GoodIns.calls (k:Nat) (a0_0:Int) (a0_1:Int) (r:Bool) (w:World) (h:impl_GoodIns.f k a0_0 a0_1=some r):
  Calls Try.prog 97 #[.agg #[.int .i64 a0_0,.int .i64 a0_1]] w fun e w'=>e=.returned (.bool r)∧Below w.heap.size w w':=by
 have hu103:=Try.underlying103
 have HB:=A_ (Below.refl w.heap.size w)
 have H:((impl_formOf.f k a0_0).bind fun t329=>(if t329=1 then (some (a0_1==0)) else (if t329=2 then ((impl_goodType.f a0_1).bind fun t330=>(if t330=true then (some true) else (some (a0_1==64)))) else (if t329=3 then (if a0_1≥0 then (some (decide (a0_1≤1000))) else (some false)) else (if t329=4 then (if a0_1≥0 then (some (decide (a0_1≤10000))) else (some false)) else (if t329=5 then (if a0_1≥(-2147483648) then (some (decide (a0_1<2147483648))) else (some false)) else (if t329=6 then (some true) else (if t329=7 then (if a0_1≥0 then (some (decide (a0_1<4294967296))) else (some false)) else (some false)))))))))=some r:=h
 clear h
 replace H:=bA_ H
 obtain⟨t329,A2,H⟩:=H
 revert H
 refine iE_ (fun c3b0 c3b1 H=>?_) (fun c3 c3b0 c3b1 H=>?_)
 rotate_left
 revert H
 refine iE_ (fun c6b0 c6b1 H=>?pc6) (fun c6 c6b0 c6b1 H=>?nc6)
 case' pc6=>
  replace H:=bA_ H
  obtain⟨t330,A7,H⟩:=H
  revert H
  refine iB_ (fun c8 H=>?_) (fun c8 H=>?_)<;>subst c8
 case' nc6=>
  revert H
  refine iE_ (fun c13b0 c13b1 H=>?pc13) (fun c13 c13b0 c13b1 H=>?nc13)
  case' pc13=>
   revert H
   refine iL_ (fun c14b0 H=>?_) (fun c14b0 H=>?_)
  case' nc13=>
   revert H
   refine iE_ (fun c19b0 c19b1 H=>?pc19) (fun c19 c19b0 c19b1 H=>?nc19)
   case' pc19=>
    revert H
    refine iL_ (fun c20b0 H=>?_) (fun c20b0 H=>?_)
   case' nc19=>
    revert H
    refine iE_ (fun c25b0 c25b1 H=>?pc25) (fun c25 c25b0 c25b1 H=>?nc25)
    case' pc25=>
     revert H
     refine iL_ (fun c26b0 H=>?_) (fun c26b0 H=>?_)
    case' nc25=>
     revert H
     refine iE_ (fun c31b0 c31b1 H=>?_) (fun c31 c31b0 c31b1 H=>?_)
     rotate_left
     revert H
     refine iE_ (fun c34b0 c34b1 H=>?_) (fun c34 c34b0 c34b1 H=>?_)
     revert H
     refine iL_ (fun c35b0 H=>?_) (fun c35b0 H=>?_)
 all_goals
  obtain rfl:=Option.some.inj H
  clear H
  go_enter Try.func97,Try.ntmps97
  go_wp2_with (first|((with_reducible refine gd_ 1 rfl ?_);refine bx_ #[.int .i64 a0_0,.int .i64 a0_1] 103 ?_;intro gb328 hg w4 hbox hb;have BK328:=A_ hbox;have GW328:=gw_ hg HB;have GE328:=GW328;replace HB:=bs_ HB hb;clear hb hbox hg;obtain⟨hcz5_0,hcz5_1⟩:=cs2_ BK328.out;obtain⟨hfz5_0,hfz5_1⟩:=fz2_ BK328.out)|((with_reducible refine gc_ 89 rfl ?_);refine gn_ (some 5) Try.func89 (impl_formOf.calls k a0_0 t329 _ A2.out) ?_;intro nd)|((with_reducible refine gc_ 48 rfl ?_);refine gn_ (some 15) Try.func48 (impl_goodType.calls a0_1 true _ A7.out) ?_;intro nd)|((with_reducible refine gc_ 48 rfl ?_);refine gn_ (some 15) Try.func48 (impl_goodType.calls a0_1 false _ A7.out) ?_;intro nd))
  go_ret
  exact⟨rr_,bw HB.out⟩

/-! ### impl_goodCode: function 81 -/
def impl_goodCode.l0:Nat→List (S103)→Int→Int→Option (Bool)
 |0,_,_,_=>none
 |k+1,x8,x9,x10=>if x10<x9 then (if 0≤x10 then (if x10<(x8.length:Int) then ((impl_GoodIns.f k ((rd_T103 x8 x10).f0) ((rd_T103 x8 x10).f1)).bind fun t333=>(if t333=true then (impl_goodCode.l0 k x8 x9 (wrap64 (x10+1))) else (some false))) else (none)) else (none)) else (some true)
def impl_goodCode.f (k:Nat) (l0:List (S103)):Option (Bool):=if (l0.length:Int) > 200 then (some false) else (impl_goodCode.l0 k l0 (l0.length:Int) 0)
theorem impl_goodCode.calls (k:Nat) (A0:Option Addr) (c0:Nat) (l0:List (S103)) (r:Bool) (w:World) (hr0:Kd.C k103 w A0 l0.length l0) (hc0:l0.length≤c0) (h:impl_goodCode.f k l0=some r):
  Calls Try.prog 81 #[.slice A0 l0.length c0] w fun e w'=>e=.returned (.bool r)∧Below w.heap.size w w':=by
 have hu103:=Try.underlying103
 have HR0:=A_ hr0
 have HC0:=A_ hc0
 clear hr0 hc0
 have HB:=A_ (Below.refl w.heap.size w)
 have H:(if (l0.length:Int) > 200 then (some false) else (impl_goodCode.l0 k l0 (l0.length:Int) 0))=some r:=h
 clear h
 by_cases c2:(l0.length:Int) > 200
 ·
  rw[if_pos c2] at H
  have c2b0:=decide_eq_true c2
  have c2b1:decide (200<l0.length)=true:=decide_eq_true (by omega)
  clear c2
  obtain rfl:=Option.some.inj H
  clear H
  go_enter Try.func81,Try.ntmps81
  go_wp2
  go_ret
  exact⟨rr_,bw HB.out⟩
 rw[if_neg c2] at H
 have c2b0:=decide_eq_false c2
 have c2b1:decide (200<l0.length)=false:=decide_eq_false (by omega)
 clear c2
 have H':=A_ H
 clear H
 go_enter Try.func81,Try.ntmps81
 go_wp2
 (try simp only[Act.put,List.setIfInBounds_toArray,List.set_cons_zero,List.set_cons_succ])
 go_loopg [10] k (fun kq v10 w'=>∃ (x10_1:Int),v10=.int .i64 x10_1∧Aside0 (impl_goodCode.l0 kq l0 (l0.length:Int) x10_1=some r)∧Aside0 (kq≤k)∧Aside0 (Below w.heap.size w w'))
 case atStart=>exact⟨(0),rs_,H',⟨Nat.le_refl _⟩,⟨bw HB.out⟩⟩
 case round=>
  clear H'
  try clear c2 c2b0 c2b1
  obtain⟨x10_1,rfl,HA,HK1,HB⟩:=hrel
  cases gk with
  |zero=>exact absurd HA.out (by simp[impl_goodCode.l0])
  |succ k1=>
   have H:=HA.out
   clear HA
   simp only[impl_goodCode.l0] at H
   revert H
   refine iL_ (fun c3b0 H=>?_) (fun c3b0 H=>?_)
   ·
    replace H:=id_ H
    obtain⟨c4b0,H⟩:=H
    replace H:=id_ H
    obtain⟨c5b0,H⟩:=H
    replace H:=bA_ H
    obtain⟨t333,A6,H⟩:=H
    revert H
    refine iB_ (fun c7 H=>?_) (fun c7 H=>?_)<;>subst c7
    ·
     have H':=A_ H
     clear H
     have p331:0≤(x10_1:Int):=od_
     have q331:x10_1<(l0.length:Int):=od_
     obtain⟨ad331,e331,hx331_0,hx331_1⟩:=at_T103 HR0.out x10_1 p331 q331
     cases e331
     replace hx331_0:=cl_ HB.out hx331_0
     replace hx331_1:=cl_ HB.out hx331_1
     replace p331:=eq_true p331
     replace q331:=eq_true q331
     go_wp2_with (first|((with_reducible refine gd_ 4 rfl ?_);refine bx_ #[.int .i64 0,.int .i64 0] 103 ?_;intro gb332 hg w8 hbox hb;have BK332:=A_ hbox;have GW332:=gw_ hg HB;have GE332:=GW332;replace HB:=bs_ HB hb;clear hb hbox hg;obtain⟨hcz9_0,hcz9_1⟩:=cs2_ BK332.out;obtain⟨hfz9_0,hfz9_1⟩:=fz2_ BK332.out)|((with_reducible refine gc_ 97 rfl ?_);refine gm_ (some 15) Try.func97 (impl_GoodIns.calls k1 ((rd_T103 l0 x10_1).f0) ((rd_T103 l0 x10_1).f1) true _ A6.out) ?_;intro w10 hb;replace BK332:=A_ (blk_below (g:=gb332) (o:=.cells #[.int .i64 ((rd_T103 l0 x10_1).f0),.int .i64 ((rd_T103 l0 x10_1).f1)] 103 (0,0)) (by refine blk_put (cs:=#[.int .i64 ((rd_T103 l0 x10_1).f0),.int .i64 0]) ?_ 1 _ rfl;refine blk_put (cs:=#[.int .i64 0,.int .i64 0]) ?_ 0 _ rfl;(with_reducible repeat (first|refine blk_drewN ?_ _|refine blk_drew ?_|refine blk_alloc ?_ _));exact BK332.out) hb);replace HB:=bs_ HB hb;(try clear hb)))
     go_roundg k1
     case measure=>have:=HK1.out;omega
     case rel=>exact⟨(wrap64 (x10_1+1)),rs_,H',⟨by have:=HK1.out;omega⟩,⟨bw HB.out⟩⟩
    obtain rfl:=Option.some.inj H
    clear H
    have p331:0≤(x10_1:Int):=od_
    have q331:x10_1<(l0.length:Int):=od_
    obtain⟨ad331,e331,hx331_0,hx331_1⟩:=at_T103 HR0.out x10_1 p331 q331
    cases e331
    replace hx331_0:=cl_ HB.out hx331_0
    replace hx331_1:=cl_ HB.out hx331_1
    replace p331:=eq_true p331
    replace q331:=eq_true q331
    go_wp2_with (first|((with_reducible refine gd_ 4 rfl ?_);refine bx_ #[.int .i64 0,.int .i64 0] 103 ?_;intro gb332 hg w11 hbox hb;have BK332:=A_ hbox;have GW332:=gw_ hg HB;have GE332:=GW332;replace HB:=bs_ HB hb;clear hb hbox hg;obtain⟨hcz12_0,hcz12_1⟩:=cs2_ BK332.out;obtain⟨hfz12_0,hfz12_1⟩:=fz2_ BK332.out)|((with_reducible refine gc_ 97 rfl ?_);refine gm_ (some 15) Try.func97 (impl_GoodIns.calls k1 ((rd_T103 l0 x10_1).f0) ((rd_T103 l0 x10_1).f1) false _ A6.out) ?_;intro w13 hb;replace BK332:=A_ (blk_below (g:=gb332) (o:=.cells #[.int .i64 ((rd_T103 l0 x10_1).f0),.int .i64 ((rd_T103 l0 x10_1).f1)] 103 (0,0)) (by refine blk_put (cs:=#[.int .i64 ((rd_T103 l0 x10_1).f0),.int .i64 0]) ?_ 1 _ rfl;refine blk_put (cs:=#[.int .i64 0,.int .i64 0]) ?_ 0 _ rfl;(with_reducible repeat (first|refine blk_drewN ?_ _|refine blk_drew ?_|refine blk_alloc ?_ _));exact BK332.out) hb);replace HB:=bs_ HB hb;(try clear hb)))
    go_ret
    exact⟨rr_,bw HB.out⟩
   obtain rfl:=Option.some.inj H
   clear H
   go_wp2
   go_ret
   exact⟨rr_,bw HB.out⟩

/-! ### impl_opens: function 82 -/
def impl_opens.f (a0:Int):Option (Bool):=if a0=2 then (some true) else (if a0=3 then (some true) else (some (a0==4)))
theorem impl_opens.calls (a0:Int) (r:Bool) (w:World) (h:impl_opens.f a0=some r):
  Calls Try.prog 82 #[.int .i64 a0] w fun e w'=>e=.returned (.bool r)∧Drawn0 w w':=by
 have H:(if a0=2 then (some true) else (if a0=3 then (some true) else (some (a0==4))))=some r:=h
 clear h
 revert H
 refine iE_ (fun c2b0 c2b1 H=>?_) (fun c2 c2b0 c2b1 H=>?_)
 ·
  obtain rfl:=Option.some.inj H
  clear H
  go_enter Try.func82,Try.ntmps82
  go_wp2
  go_ret
  exact⟨rs_,dr_⟩
 revert H
 refine iE_ (fun c3b0 c3b1 H=>?_) (fun c3 c3b0 c3b1 H=>?_)
 ·
  obtain rfl:=Option.some.inj H
  clear H
  go_enter Try.func82,Try.ntmps82
  go_wp2
  go_ret
  exact⟨rs_,dr_⟩
 obtain rfl:=Option.some.inj H
 clear H
 go_enter Try.func82,Try.ntmps82
 go_wp2
 go_ret
 exact⟨rs_,dr_⟩

/-! ### impl_deepest: function 61 -/
def impl_deepest.l0:Nat→List Int→Int→List (S103)→Int→Int→Option (Int)
 |0,_,_,_,_,_=>none
 |k+1,x3,x4,x12,x13,x14=>if x14<x13 then (if 0≤x14 then (if x14<(x12.length:Int) then (if (x3.length:Int)=0 then (some 0) else ((impl_opens.f ((rd_T103 x12 x14).f0)).bind fun t340=>(if t340=true then (if x3.length<17592186044416 then ((some (x3++[(rd_T103 x12 x14).f0]:List Int)).bind fun y341=>(impl_deepest.l0 k y341 (mx x4 (y341.length:Int)) x12 x13 (wrap64 (x14+1)))) else (none)) else (if ((rd_T103 x12 x14).f0)=5 then (if 0≤(wrap64 ((x3.length:Int) - 1)) then (if (wrap64 ((x3.length:Int) - 1))<(x3.length:Int) then (if (rd x3 (wrap64 ((x3.length:Int) - 1)))=4 then (impl_deepest.l0 k (x3.set ((wrap64 ((x3.length:Int) - 1)):Int).toNat 5) x4 x12 x13 (wrap64 (x14+1))) else (some 0)) else (none)) else (none)) else (if ((rd_T103 x12 x14).f0)=11 then (if 0≤(wrap64 ((x3.length:Int) - 1)) then (if (wrap64 ((x3.length:Int) - 1))≤(x3.length:Int) then (impl_deepest.l0 k (x3.take ((wrap64 ((x3.length:Int) - 1)):Int).toNat) x4 x12 x13 (wrap64 (x14+1))) else (none)) else (none)) else (impl_deepest.l0 k x3 x4 x12 x13 (wrap64 (x14+1)))))))) else (none)) else (none)) else (if (x3.length:Int) > 0 then (some 0) else (some x4))
def impl_deepest.f (k:Nat) (l0:List (S103)):Option (Int):=(impl_goodCode.f k l0).bind fun t334=>(if t334=true then (impl_deepest.l0 k (([2]:List Int)) 1 l0 (l0.length:Int) 0) else (some 0))
theorem impl_deepest.calls (k:Nat) (A0:Option Addr) (c0:Nat) (l0:List (S103)) (r:Int) (w:World) (hr0:Kd.C k103 w A0 l0.length l0) (hc0:l0.length≤c0) (h:impl_deepest.f k l0=some r):
  Calls Try.prog 61 #[.slice A0 l0.length c0] w fun e w'=>e=.returned (.int .i64 r)∧Below w.heap.size w w':=by
 have hu103:=Try.underlying103
 have HR0:=A_ hr0
 have HC0:=A_ hc0
 clear hr0 hc0
 have HB:=A_ (Below.refl w.heap.size w)
 have H:((impl_goodCode.f k l0).bind fun t334=>(if t334=true then (impl_deepest.l0 k (([2]:List Int)) 1 l0 (l0.length:Int) 0) else (some 0)))=some r:=h
 clear h
 replace H:=bA_ H
 obtain⟨t334,A2,H⟩:=H
 revert H
 refine iB_ (fun c3 H=>?_) (fun c3 H=>?_)<;>subst c3
 ·
  obtain⟨y335,hy335⟩:∃ y_:List Int,y_=(([2]:List Int)):=⟨_,rfl⟩
  rw[←hy335] at H
  have Ny335:=A_ hy335
  clear hy335
  have H':=A_ H
  clear H
  go_enter Try.func61,Try.ntmps61
  go_wp2_with (first|((with_reducible refine gc_ 81 rfl ?_);refine goesL_ (some 9) rfl rfl Try.func81 (by kernel_rfl) rfl #[.slice A0 l0.length c0] rfl ar ?_;(with_reducible refine(impl_goodCode.calls k _ _ l0 true _ ?side1 ?side2 A2.out).mono ?_);(case side1=>repeat (first|exact HR0.out|(with_reducible refine Kd.C_alloc ?_ _)|(with_reducible refine Kd.C_drewN ?_ _)|(with_reducible refine Kd.C_drew ?_)));(case side2=>exact HC0.out);rintro e w4 ⟨rfl,hb⟩;refine⟨_,rfl,?_⟩;replace HB:=bs_ HB hb;(try clear hb))|((with_reducible refine gd_ 11 rfl ?_);refine Kd.R_lit (Kd.int .i64) _ 3 ?hg (N:=11) ?hd (xs:=([2]:List Int)) (inner:=[.int .i64 2]) (ok:=fun _=>True) (okp:=fun _=>True) ?hr ?hp (fun _ hk=>hk) trivial (Below.refl _ _) (Nat.le_refl _) (by simp) ?_;(case hd=>rfl);(case hg=>rfl);(case hr=>first|(go_simp;done)|(go_simp;rfl));(case hp=>exact(Reps.one (show Kd.M (Kd.int .i64) _ _ _ 2 [.int .i64 2] from rfl) (Reps.none _ _)));intro v336 w5 ho6 hb hg_ hnew_;clear hg_ hnew_;(first|rw[←Ny335.out] at ho6|(simp only[Int.reduceToNat] at ho6;rw[←Ny335.out] at ho6));have HO337:=A_ (Kd.R_lower ho6 (below_size (bw HB.out)));replace HB:=bs_ HB hb;clear hb ho6))
  (try simp only[Act.put,List.setIfInBounds_toArray,List.set_cons_zero,List.set_cons_succ])
  go_loopg [3,4,14] k (fun kq v3 v4 v14 w'=>∃ (x3_1:List Int) (x4_1:Int) (x14_1:Int),v4=.int .i64 x4_1∧v14=.int .i64 x14_1∧Aside0 (impl_deepest.l0 kq x3_1 x4_1 l0 (l0.length:Int) x14_1=some r)∧Aside0 (kq≤k)∧Aside0 (Kd.R (Kd.int .i64) 3 w' w.heap.size (fun _=>True) v3 x3_1)∧Aside0 (Below w.heap.size w w'))
  case atStart=>exact⟨(y335),(1),(0),rs_,rs_,H',⟨Nat.le_refl _⟩,⟨kr_ HO337.out⟩,⟨bw HB.out⟩⟩
  case round=>
   clear H'
   try clear c3
   obtain⟨x3_1,x4_1,x14_1,rfl,rfl,HA,HK1,HO_3,HB⟩:=hrel
   cases gk with
   |zero=>exact absurd HA.out (by simp[impl_deepest.l0])
   |succ k1=>
    have H:=HA.out
    clear HA
    simp only[impl_deepest.l0] at H
    revert H
    refine iL_ (fun c7b0 H=>?_) (fun c7b0 H=>?_)
    ·
     replace H:=id_ H
     obtain⟨c8b0,H⟩:=H
     replace H:=id_ H
     obtain⟨c9b0,H⟩:=H
     revert H
     refine iE_ (fun c10b0 c10b1 H=>?_) (fun c10 c10b0 c10b1 H=>?_)
     ·
      obtain rfl:=Option.some.inj H
      clear H
      have p338:0≤(x14_1:Int):=od_
      have q338:x14_1<(l0.length:Int):=od_
      obtain⟨ad338,e338,hx338_0,hx338_1⟩:=at_T103 HR0.out x14_1 p338 q338
      cases e338
      replace hx338_0:=cl_ HB.out hx338_0
      replace hx338_1:=cl_ HB.out hx338_1
      replace p338:=eq_true p338
      replace q338:=eq_true q338
      go_wp2_with (first|((with_reducible refine gd_ 6 rfl ?_);refine bx_ #[.int .i64 0,.int .i64 0] 103 ?_;intro gb339 hg w11 hbox hb;have BK339:=A_ hbox;have GW339:=gw_ hg HB;have GE339:=GW339;replace HO_3:=A_ (Kd.R_below (kr_ HO_3.out) hb);replace HB:=bs_ HB hb;clear hb hbox hg;obtain⟨hcz12_0,hcz12_1⟩:=cs2_ BK339.out;obtain⟨hfz12_0,hfz12_1⟩:=fz2_ BK339.out;obtain⟨Ao13,co13,eo13⟩:=Kd.R_slice HO_3.out;subst eo13))
      go_ret
      exact⟨rr_,bw HB.out⟩
     have c10b2:¬(x3_1=[]):=fun h_=>c10 (by rw[h_];rfl)
     replace H:=bA_ H
     obtain⟨t340,A14,H⟩:=H
     revert H
     refine iB_ (fun c15 H=>?_) (fun c15 H=>?_)<;>subst c15
     ·
      replace H:=im_ H
      obtain⟨LMc16,H⟩:=H
      replace H:=nm_ H
      obtain⟨y341,Ny341,H⟩:=H
      try dsimp only at H
      obtain⟨ji17,hji17⟩:∃ j_:Int,(mx x4_1 (y341.length:Int))=j_:=⟨_,rfl⟩
      first|rw[hji17] at H|simp only[hji17] at H
      (try rw[hji17] at A14)
      have hji17_:(if x4_1<(y341.length:Int) then (y341.length:Int) else x4_1)=ji17:=hji17
      have H':=A_ H
      clear H
      have p338:0≤(x14_1:Int):=od_
      have q338:x14_1<(l0.length:Int):=od_
      obtain⟨ad338,e338,hx338_0,hx338_1⟩:=at_T103 HR0.out x14_1 p338 q338
      cases e338
      replace hx338_0:=cl_ HB.out hx338_0
      replace hx338_1:=cl_ HB.out hx338_1
      replace p338:=eq_true p338
      replace q338:=eq_true q338
      go_wp2_with (first|((with_reducible refine gd_ 6 rfl ?_);refine bx_ #[.int .i64 0,.int .i64 0] 103 ?_;intro gb339 hg w18 hbox hb;have BK339:=A_ hbox;have GW339:=gw_ hg HB;have GE339:=GW339;replace HO_3:=A_ (Kd.R_below (kr_ HO_3.out) hb);replace HB:=bs_ HB hb;clear hb hbox hg;obtain⟨hcz19_0,hcz19_1⟩:=cs2_ BK339.out;obtain⟨hfz19_0,hfz19_1⟩:=fz2_ BK339.out;obtain⟨Ao20,co20,eo20⟩:=Kd.R_slice HO_3.out;subst eo20)|((with_reducible refine gc_ 82 rfl ?_);refine gn_ (some 27) Try.func82 (impl_opens.calls ((rd_T103 l0 x14_1).f0) true _ A14.out) ?_;intro nd)|((with_reducible refine gate_builtin (b:=.append) (xs:=#[.tmp 28,.tmp 31]) rfl ?_);at_builtin;refine Kd.R_append (Kd.int .i64) (w0:=w) w.heap.size rfl (.tmp 28) (.tmp 31) 81 3 (.int .i64 0) 8 rfl Try.underlying81 info3 rfl (by decide) (by omega) (.slice Ao20 x3_1.length co20) x3_1 ((rd_T103 l0 x14_1).f0) [.int .i64 ((rd_T103 l0 x14_1).f0)] (fun _=>True) (fun _=>False) rfl (by first|(go_simp;done)|(go_simp;rfl)) ?aP (fun _ hk=>hk.elim) ?aF ?aO ?aB ?aS ?aL ?_;(case aP=>exact rfl);(case aB=>exact(bw HB.out));(case aF=>exact(fun _ _=>trivial));(case aO=>exact(by(with_reducible repeat (first|apply Kd.R_alloc|apply Kd.R_drewN|apply Kd.R_drew));exact Kd.R_mono (Kd.R_far (p:=⟨gb339,1,none⟩) (Kd.R_far (p:=⟨gb339,0,none⟩) (Kd.R_types HO_3.out BK339.out (by decide)) (fun _ hk=>hk.2) (.int .i64 ((rd_T103 l0 x14_1).f0))) (fun _ hk=>hk.2) (.int .i64 ((rd_T103 l0 x14_1).f1))) (fun _ hk=>trivial)));(case aS=>exact(below_size (bw HB.out)));(case aL=>have:=LMc16.out;omega);intro v342 w21 ho hb hg hat;rw[←Ny341.out] at ho;have HO343:=A_ (ho);replace BK339:=A_ (blk_grown (g:=gb339) (o:=.cells #[.int .i64 ((rd_T103 l0 x14_1).f0),.int .i64 ((rd_T103 l0 x14_1).f1)] 103 (0,0)) (by refine blk_put (cs:=#[.int .i64 ((rd_T103 l0 x14_1).f0),.int .i64 0]) ?_ 1 _ rfl;refine blk_put (cs:=#[.int .i64 0,.int .i64 0]) ?_ 0 _ rfl;(with_reducible repeat (first|refine blk_drewN ?_ _|refine blk_drew ?_|refine blk_alloc ?_ _));exact BK339.out) hg (Kd.R_ne HO_3.out BK339.out (by decide)));replace HB:=A_ (hb);clear HO_3;clear ho hb hg hat;obtain⟨Ao22,co22,eo22⟩:=Kd.R_slice HO343.out;subst eo22))
      go_roundg k1
      case measure=>have:=HK1.out;omega
      case rel=>exact⟨(y341),(ji17),(wrap64 (x14_1+1)),(by first|rfl|(simp;done)|(simp only[←hji17]<;>(first|rfl|simp))|(simp[*];done)),rs_,H',⟨by have:=HK1.out;omega⟩,⟨kr_ HO343.out⟩,⟨bw HB.out⟩⟩
     revert H
     refine iE_ (fun c23b0 c23b1 H=>?_) (fun c23 c23b0 c23b1 H=>?_)
     ·
      obtain⟨ji24,hji24⟩:∃ j_:Int,(wrap64 ((x3_1.length:Int) - 1))=j_:=⟨_,rfl⟩
      first|rw[hji24] at H|simp only[hji24] at H
      (try rw[hji24] at A14)
      have hji24w:(IntKind.i64.wrap ((x3_1.length:Int) - 1))=ji24:=(i64_w _).trans hji24
      replace H:=id_ H
      obtain⟨c25b0,H⟩:=H
      replace H:=id_ H
      obtain⟨c26b0,H⟩:=H
      revert H
      refine iE_ (fun c27b0 c27b1 H=>?_) (fun c27 c27b0 c27b1 H=>?_)
      ·
       obtain⟨y345,hy345⟩:∃ y_:List Int,y_=(x3_1.set ((ji24):Int).toNat 5):=⟨_,rfl⟩
       rw[←hy345] at H
       have Ny345:=A_ hy345
       clear hy345
       have H':=A_ H
       clear H
       have p338:0≤(x14_1:Int):=od_
       have q338:x14_1<(l0.length:Int):=od_
       obtain⟨ad338,e338,hx338_0,hx338_1⟩:=at_T103 HR0.out x14_1 p338 q338
       cases e338
       replace hx338_0:=cl_ HB.out hx338_0
       replace hx338_1:=cl_ HB.out hx338_1
       replace p338:=eq_true p338
       replace q338:=eq_true q338
       go_wp2_with (first|((with_reducible refine gd_ 6 rfl ?_);refine bx_ #[.int .i64 0,.int .i64 0] 103 ?_;intro gb339 hg w29 hbox hb;have BK339:=A_ hbox;have GW339:=gw_ hg HB;have GE339:=GW339;replace HO_3:=A_ (Kd.R_below (kr_ HO_3.out) hb);replace HB:=bs_ HB hb;clear hb hbox hg;obtain⟨hcz30_0,hcz30_1⟩:=cs2_ BK339.out;obtain⟨hfz30_0,hfz30_1⟩:=fz2_ BK339.out)|((with_reducible refine gate_store (t:=103) (p:=6) rfl ?_);refine store_event (t:=103) (p:=6) (v:=?vo_w31) (w1:=((w29.setCell ⟨gb339,0,none⟩ (.int .i64 ((rd_T103 l0 x14_1).f0))).setCell ⟨gb339,1,none⟩ (.int .i64 ((rd_T103 l0 x14_1).f1)))) ?hg ?ho ?hn ?hr ?_;(case ho=>rfl);(case hg=>rfl);(case hn=>rfl);(case hr=>first|(go_simp;done)|(go_simp;rfl));intro w31 hw;replace HO_3:Aside0 (Kd.R (Kd.int .i64) 3 w31 w.heap.size (fun _=>True) u3 x3_1):=⟨(by rw[hw];exact(by(with_reducible repeat (first|apply Kd.R_alloc|apply Kd.R_drewN|apply Kd.R_drew));exact Kd.R_mono (Kd.R_far (p:=⟨gb339,1,none⟩) (Kd.R_far (p:=⟨gb339,0,none⟩) (Kd.R_types HO_3.out BK339.out (by decide)) (fun _ hk=>hk.2) (.int .i64 ((rd_T103 l0 x14_1).f0))) (fun _ hk=>hk.2) (.int .i64 ((rd_T103 l0 x14_1).f1))) (fun _ hk=>trivial)))⟩;replace BK339:Aside0 (w31.heap[gb339]? =some (.cells #[.int .i64 ((rd_T103 l0 x14_1).f0),.int .i64 ((rd_T103 l0 x14_1).f1)] 103 (0,0))):=⟨(by rw[hw];exact(by refine blk_put (cs:=#[.int .i64 ((rd_T103 l0 x14_1).f0),.int .i64 0]) ?_ 1 _ rfl;refine blk_put (cs:=#[.int .i64 0,.int .i64 0]) ?_ 0 _ rfl;(with_reducible repeat (first|refine blk_drewN ?_ _|refine blk_drew ?_|refine blk_alloc ?_ _));exact BK339.out))⟩;replace HB:Aside0 (Below w.heap.size w w31):=⟨(by rw[hw];exact(bw HB.out))⟩;clear hw;obtain⟨Ao32,co32,eo32⟩:=Kd.R_slice HO_3.out;subst eo32;obtain⟨hcz33_0,hcz33_1⟩:=cs2_ BK339.out;obtain⟨hfz33_0,hfz33_1⟩:=fz2_ BK339.out)|((with_reducible refine gc_ 82 rfl ?_);refine gn_ (some 27) Try.func82 (impl_opens.calls ((rd_T103 l0 x14_1).f0) false _ A14.out) ?_;intro nd;(try (rw[drewN_self w31];generalize hq_:World.drewN w31 _=w31;have n0_:Aside0 (Kd.R (Kd.int .i64) 3 w31 w.heap.size (fun _=>True) (.slice Ao32 x3_1.length co32) x3_1):=⟨by rw[←hq_];exact(kr_ HO_3.out)⟩;have n1_:Aside0 (w31.heap[gb339]? =some (.cells #[.int .i64 ((rd_T103 l0 x14_1).f0),.int .i64 ((rd_T103 l0 x14_1).f1)] 103 (0,0))):=⟨by rw[←hq_];exact(bk BK339.out)⟩;have n2_:Aside0 (Below w.heap.size w w31):=⟨by rw[←hq_];exact(bw HB.out)⟩;clear HO_3 BK339 HB hq_;have HO_3:=n0_;have BK339:=n1_;have HB:=n2_;clear n0_ n1_ n2_));obtain⟨hcz34_0,hcz34_1⟩:=cs2_ BK339.out;obtain⟨hfz34_0,hfz34_1⟩:=fz2_ BK339.out;have p344:0≤((ji24):Int):=od_;have q344:(ji24)<(x3_1.length:Int):=od_;obtain⟨ad344,e344,hx344_0⟩:=Kd.at_int (Kd.R_reads' HO_3.out).2.2 (ji24) p344 q344;cases e344;replace p344:=eq_true p344;replace q344:=eq_true q344;have p28:0≤((ji24):Int):=od_;have q28:((ji24):Int)<((x3_1.length:Int):Int):=od_;obtain⟨go28,co28,eo28,gb28,gl28,cl28,HG28⟩:=Kd.R_form HO_3.out (by omega);(first|cases eo28|(injection eo28 with ea_ en_ ec_;(first|subst ea_|(injection ea_ with ea_;subst ea_));subst ec_;clear en_));have GB28:=A_ gb28;have GG28:=A_ HG28;clear gb28 gl28 HG28;(first|simp only[add_plain] at hx344_0|skip);obtain⟨hx28_0,hf28_0⟩:=Kd.R_celln 0 HO_3.out ((ji24):Int) p28 q28;replace p28:=eq_true p28;replace q28:=eq_true q28;obtain⟨hy35_,hz35_⟩:=Kd.R_celln 0 HO_3.out ((ji24):Int) (od_) (od_);have HP35:=Kd.R_putg HO_3.out ((ji24):Int) 5)|((with_reducible refine gate_store (t:=3) (p:=48) rfl ?_);refine store_event (t:=3) (p:=48) (v:=?vo_w36) (w1:=(w31.setCell ⟨go28,((ji24):Int).toNat,none⟩ (.int .i64 5))) ?hg ?ho ?hn ?hr ?_;(case ho=>rfl);(case hg=>rfl);(case hn=>rfl);(case hr=>first|(go_simp;done)|(go_simp;rfl));intro w36 hw;have hg:w31.grownBy w36 (some go28):=(by rw[hw];exact HP35.2);have hp_:Kd.R (Kd.int .i64) 3 w36 w.heap.size (fun _=>True) (.slice (some ⟨go28,0,none⟩) x3_1.length co32) y345:=(by rw[hw,Ny345.out];exact HP35.1);clear HP35;replace BK339:=A_ (blk_grown (g:=gb339) (o:=.cells #[.int .i64 ((rd_T103 l0 x14_1).f0),.int .i64 ((rd_T103 l0 x14_1).f1)] 103 (0,0)) (bk BK339.out) hg (Kd.R_ne HO_3.out BK339.out (by decide)));replace HO_3:=A_ (hp_);replace HB:=A_ ((by rw[hw];exact below_set (HB.out) GB28.out:Below w.heap.size w w36));clear hg hw hp_))
       go_roundg k1
       case measure=>have:=HK1.out;omega
       case rel=>exact⟨(y345),(x4_1),(wrap64 (x14_1+1)),rs_,rs_,H',⟨by have:=HK1.out;omega⟩,⟨kr_ HO_3.out⟩,⟨bw HB.out⟩⟩
      obtain rfl:=Option.some.inj H
      clear H
      have p338:0≤(x14_1:Int):=od_
      have q338:x14_1<(l0.length:Int):=od_
      obtain⟨ad338,e338,hx338_0,hx338_1⟩:=at_T103 HR0.out x14_1 p338 q338
      cases e338
      replace hx338_0:=cl_ HB.out hx338_0
      replace hx338_1:=cl_ HB.out hx338_1
      replace p338:=eq_true p338
      replace q338:=eq_true q338
      go_wp2_with (first|((with_reducible refine gd_ 6 rfl ?_);refine bx_ #[.int .i64 0,.int .i64 0] 103 ?_;intro gb339 hg w37 hbox hb;have BK339:=A_ hbox;have GW339:=gw_ hg HB;have GE339:=GW339;replace HO_3:=A_ (Kd.R_below (kr_ HO_3.out) hb);replace HB:=bs_ HB hb;clear hb hbox hg;obtain⟨hcz38_0,hcz38_1⟩:=cs2_ BK339.out;obtain⟨hfz38_0,hfz38_1⟩:=fz2_ BK339.out;obtain⟨Ao39,co39,eo39⟩:=Kd.R_slice HO_3.out;subst eo39)|((with_reducible refine gc_ 82 rfl ?_);refine gn_ (some 27) Try.func82 (impl_opens.calls ((rd_T103 l0 x14_1).f0) false _ A14.out) ?_;intro nd;have p344:0≤((ji24):Int):=od_;have q344:(ji24)<(x3_1.length:Int):=od_;obtain⟨ad344,e344,hx344_0⟩:=Kd.at_int (Kd.R_reads' HO_3.out).2.2 (ji24) p344 q344;cases e344;have hn344_0:ad344.block≠gb339:=Kd.own_blk (Kd.R_ne HO_3.out BK339.out (by decide));have hn344_1:ad344.block≠gb339:=Kd.own_blk (Kd.R_ne HO_3.out BK339.out (by decide));replace hx344_0:=(cell_far (p:=⟨gb339,0,none⟩) (by first|(rw[add_block];exact hn344_0)|(show(Addr.add _ _).block≠_;rw[add_block];exact hn344_0)|exact hn344_0) (.int .i64 ((rd_T103 l0 x14_1).f0))).trans hx344_0;replace hx344_0:=(cell_far (p:=⟨gb339,1,none⟩) (by first|(rw[add_block];exact hn344_1)|(show(Addr.add _ _).block≠_;rw[add_block];exact hn344_1)|exact hn344_1) (.int .i64 ((rd_T103 l0 x14_1).f1))).trans hx344_0;clear hn344_0;clear hn344_1;replace p344:=eq_true p344;replace q344:=eq_true q344))
      go_ret
      exact⟨by first|rfl|(simp[errW_none,errW_some]<;>rfl)|(simp only[←hji24];first|rfl|(simp[errW_none,errW_some]<;>rfl))|(simp[*,errW_none,errW_some]<;>rfl),bw HB.out⟩
     revert H
     refine iE_ (fun c40b0 c40b1 H=>?_) (fun c40 c40b0 c40b1 H=>?_)
     ·
      obtain⟨ji41,hji41⟩:∃ j_:Int,(wrap64 ((x3_1.length:Int) - 1))=j_:=⟨_,rfl⟩
      first|rw[hji41] at H|simp only[hji41] at H
      (try rw[hji41] at A14)
      have hji41w:(IntKind.i64.wrap ((x3_1.length:Int) - 1))=ji41:=(i64_w _).trans hji41
      replace H:=iq_ H
      obtain⟨c42b0,c42b1,H⟩:=H
      replace H:=iq_ H
      obtain⟨c43b0,c43b1,H⟩:=H
      obtain⟨y346,hy346⟩:∃ y_:List Int,y_=(x3_1.take ((ji41):Int).toNat):=⟨_,rfl⟩
      rw[←hy346] at H
      have Ny346:=A_ hy346
      clear hy346
      have H':=A_ H
      clear H
      have p338:0≤(x14_1:Int):=od_
      have q338:x14_1<(l0.length:Int):=od_
      obtain⟨ad338,e338,hx338_0,hx338_1⟩:=at_T103 HR0.out x14_1 p338 q338
      cases e338
      replace hx338_0:=cl_ HB.out hx338_0
      replace hx338_1:=cl_ HB.out hx338_1
      replace p338:=eq_true p338
      replace q338:=eq_true q338
      go_wp2_with (first|((with_reducible refine gd_ 6 rfl ?_);refine bx_ #[.int .i64 0,.int .i64 0] 103 ?_;intro gb339 hg w44 hbox hb;have BK339:=A_ hbox;have GW339:=gw_ hg HB;have GE339:=GW339;replace HO_3:=A_ (Kd.R_below (kr_ HO_3.out) hb);replace HB:=bs_ HB hb;clear hb hbox hg;obtain⟨hcz45_0,hcz45_1⟩:=cs2_ BK339.out;obtain⟨hfz45_0,hfz45_1⟩:=fz2_ BK339.out)|((with_reducible refine gate_store (t:=103) (p:=6) rfl ?_);refine store_event (t:=103) (p:=6) (v:=?vo_w46) (w1:=((w44.setCell ⟨gb339,0,none⟩ (.int .i64 ((rd_T103 l0 x14_1).f0))).setCell ⟨gb339,1,none⟩ (.int .i64 ((rd_T103 l0 x14_1).f1)))) ?hg ?ho ?hn ?hr ?_;(case ho=>rfl);(case hg=>rfl);(case hn=>rfl);(case hr=>first|(go_simp;done)|(go_simp;rfl));intro w46 hw;replace HO_3:Aside0 (Kd.R (Kd.int .i64) 3 w46 w.heap.size (fun _=>True) u3 x3_1):=⟨(by rw[hw];exact(by(with_reducible repeat (first|apply Kd.R_alloc|apply Kd.R_drewN|apply Kd.R_drew));exact Kd.R_mono (Kd.R_far (p:=⟨gb339,1,none⟩) (Kd.R_far (p:=⟨gb339,0,none⟩) (Kd.R_types HO_3.out BK339.out (by decide)) (fun _ hk=>hk.2) (.int .i64 ((rd_T103 l0 x14_1).f0))) (fun _ hk=>hk.2) (.int .i64 ((rd_T103 l0 x14_1).f1))) (fun _ hk=>trivial)))⟩;replace BK339:Aside0 (w46.heap[gb339]? =some (.cells #[.int .i64 ((rd_T103 l0 x14_1).f0),.int .i64 ((rd_T103 l0 x14_1).f1)] 103 (0,0))):=⟨(by rw[hw];exact(by refine blk_put (cs:=#[.int .i64 ((rd_T103 l0 x14_1).f0),.int .i64 0]) ?_ 1 _ rfl;refine blk_put (cs:=#[.int .i64 0,.int .i64 0]) ?_ 0 _ rfl;(with_reducible repeat (first|refine blk_drewN ?_ _|refine blk_drew ?_|refine blk_alloc ?_ _));exact BK339.out))⟩;replace HB:Aside0 (Below w.heap.size w w46):=⟨(by rw[hw];exact(bw HB.out))⟩;clear hw;obtain⟨Ao47,co47,eo47⟩:=Kd.R_slice HO_3.out;subst eo47;obtain⟨hcz48_0,hcz48_1⟩:=cs2_ BK339.out;obtain⟨hfz48_0,hfz48_1⟩:=fz2_ BK339.out)|((with_reducible refine gc_ 82 rfl ?_);refine gn_ (some 27) Try.func82 (impl_opens.calls ((rd_T103 l0 x14_1).f0) false _ A14.out) ?_;intro nd;have q49:((ji41):Int)≤((x3_1.length:Int):Int):=od_;obtain⟨i049,hi049,_,hsz49,_⟩:=info_parts info3;have hcut49:=cut_to (P:=Try.prog) 81 3 .i64 Try.underlying81 hi049 Ao47 x3_1.length co47 (ji41) (od_) q49 (Kd.R_reads' HO_3.out).2.1;have hr49:=Kd.R_take (m:=((ji41):Int).toNat) HO_3.out (by omega);have hy49:y346.length=((ji41):Int).toNat:=(by rw[Ny346.out,List.length_take];omega);rw[←Ny346.out] at hr49;rw[←hy49] at hr49 hcut49;clear hy49 hi049 hsz49 HO_3;have HO348:=A_ hr49;clear hr49;replace q49:=eq_true q49))
      go_roundg k1
      case measure=>have:=HK1.out;omega
      case rel=>exact⟨(y346),(x4_1),(wrap64 (x14_1+1)),rs_,rs_,H',⟨by have:=HK1.out;omega⟩,⟨kr_ HO348.out⟩,⟨bw HB.out⟩⟩
     have H':=A_ H
     clear H
     have p338:0≤(x14_1:Int):=od_
     have q338:x14_1<(l0.length:Int):=od_
     obtain⟨ad338,e338,hx338_0,hx338_1⟩:=at_T103 HR0.out x14_1 p338 q338
     cases e338
     replace hx338_0:=cl_ HB.out hx338_0
     replace hx338_1:=cl_ HB.out hx338_1
     replace p338:=eq_true p338
     replace q338:=eq_true q338
     go_wp2_with (first|((with_reducible refine gd_ 6 rfl ?_);refine bx_ #[.int .i64 0,.int .i64 0] 103 ?_;intro gb339 hg w50 hbox hb;have BK339:=A_ hbox;have GW339:=gw_ hg HB;have GE339:=GW339;replace HO_3:=A_ (Kd.R_below (kr_ HO_3.out) hb);replace HB:=bs_ HB hb;clear hb hbox hg;obtain⟨hcz51_0,hcz51_1⟩:=cs2_ BK339.out;obtain⟨hfz51_0,hfz51_1⟩:=fz2_ BK339.out;obtain⟨Ao52,co52,eo52⟩:=Kd.R_slice HO_3.out;subst eo52)|((with_reducible refine gc_ 82 rfl ?_);refine gn_ (some 27) Try.func82 (impl_opens.calls ((rd_T103 l0 x14_1).f0) false _ A14.out) ?_;intro nd))
     go_roundg k1
     case measure=>have:=HK1.out;omega
     case rel=>exact⟨(x3_1),(x4_1),(wrap64 (x14_1+1)),rs_,rs_,H',⟨by have:=HK1.out;omega⟩,⟨by (with_reducible repeat (first|apply Kd.R_alloc|apply Kd.R_drewN|apply Kd.R_drew));exact Kd.R_mono (Kd.R_far (p:=⟨gb339,1,none⟩) (Kd.R_far (p:=⟨gb339,0,none⟩) (Kd.R_types HO_3.out BK339.out (by decide)) (fun _ hk=>hk.2) (.int .i64 ((rd_T103 l0 x14_1).f0))) (fun _ hk=>hk.2) (.int .i64 ((rd_T103 l0 x14_1).f1))) (fun _ hk=>trivial)⟩,⟨bw HB.out⟩⟩
    by_cases c53:(x3_1.length:Int) > 0
    ·
     rw[if_pos c53] at H
     have c53b0:=decide_eq_true c53
     have c53b1:decide (0<x3_1.length)=true:=decide_eq_true (by omega)
     clear c53
     obtain rfl:=Option.some.inj H
     clear H
     obtain⟨Ao54,co54,eo54⟩:=Kd.R_slice HO_3.out
     subst eo54
     go_wp2
     go_ret
     exact⟨rr_,bw HB.out⟩
    rw[if_neg c53] at H
    have c53b0:=decide_eq_false c53
    have c53b1:decide (0<x3_1.length)=false:=decide_eq_false (by omega)
    clear c53
    obtain rfl:=Option.some.inj H
    clear H
    obtain⟨Ao55,co55,eo55⟩:=Kd.R_slice HO_3.out
    subst eo55
    go_wp2
    go_ret
    exact⟨rr_,bw HB.out⟩
 obtain rfl:=Option.some.inj H
 clear H
 go_enter Try.func61,Try.ntmps61
 go_wp2_with (first|((with_reducible refine gc_ 81 rfl ?_);refine goesL_ (some 9) rfl rfl Try.func81 (by kernel_rfl) rfl #[.slice A0 l0.length c0] rfl ar ?_;(with_reducible refine(impl_goodCode.calls k _ _ l0 false _ ?side1 ?side2 A2.out).mono ?_);(case side1=>repeat (first|exact HR0.out|(with_reducible refine Kd.C_alloc ?_ _)|(with_reducible refine Kd.C_drewN ?_ _)|(with_reducible refine Kd.C_drew ?_)));(case side2=>exact HC0.out);rintro e w56 ⟨rfl,hb⟩;refine⟨_,rfl,?_⟩;replace HB:=bs_ HB hb;(try clear hb)))
 go_ret
 exact⟨rr_,bw HB.out⟩

/-! ### impl_goodFunc: function 45 -/
def impl_goodFunc.f (k:Nat) (l0_0:List Int) (a0_1:Int) (l0_2:List Int) (l0_3:List (S103)):Option (Bool):=(impl_goodTypes.f k l0_0 6).bind fun t350=>(if t350=true then ((impl_goodTypes.f k l0_2 20).bind fun t351=>(if t351=true then ((impl_goodType.f a0_1).bind fun t352=>(if t352=true then ((impl_deepest.f k l0_3).bind fun t353=>(some (decide (t353 > 0)))) else (if a0_1=64 then ((impl_deepest.f k l0_3).bind fun t354=>(some (decide (t354 > 0)))) else (some false)))) else (some false))) else (some false))
theorem impl_goodFunc.calls (k:Nat) (A0_0:Option Addr) (c0_0:Nat) (l0_0:List Int) (a0_1:Int) (A0_2:Option Addr) (c0_2:Nat) (l0_2:List Int) (A0_3:Option Addr) (c0_3:Nat) (l0_3:List (S103)) (r:Bool) (w:World) (hr0_0:Kd.C (Kd.int .i64) w A0_0 l0_0.length l0_0) (hc0_0:l0_0.length≤c0_0) (hr0_2:Kd.C (Kd.int .i64) w A0_2 l0_2.length l0_2) (hc0_2:l0_2.length≤c0_2) (hr0_3:Kd.C k103 w A0_3 l0_3.length l0_3) (hc0_3:l0_3.length≤c0_3) (h:impl_goodFunc.f k l0_0 a0_1 l0_2 l0_3=some r):
  Calls Try.prog 45 #[.agg #[.slice A0_0 l0_0.length c0_0,.int .i64 a0_1,.slice A0_2 l0_2.length c0_2,.slice A0_3 l0_3.length c0_3]] w fun e w'=>e=.returned (.bool r)∧Below w.heap.size w w':=by
 have hu88:=Try.underlying88
 have HR0_0:=A_ hr0_0
 have HC0_0:=A_ hc0_0
 clear hr0_0 hc0_0
 have HR0_2:=A_ hr0_2
 have HC0_2:=A_ hc0_2
 clear hr0_2 hc0_2
 have HR0_3:=A_ hr0_3
 have HC0_3:=A_ hc0_3
 clear hr0_3 hc0_3
 have HB:=A_ (Below.refl w.heap.size w)
 have H:((impl_goodTypes.f k l0_0 6).bind fun t350=>(if t350=true then ((impl_goodTypes.f k l0_2 20).bind fun t351=>(if t351=true then ((impl_goodType.f a0_1).bind fun t352=>(if t352=true then ((impl_deepest.f k l0_3).bind fun t353=>(some (decide (t353 > 0)))) else (if a0_1=64 then ((impl_deepest.f k l0_3).bind fun t354=>(some (decide (t354 > 0)))) else (some false)))) else (some false))) else (some false)))=some r:=h
 clear h
 replace H:=bA_ H
 obtain⟨t350,A2,H⟩:=H
 revert H
 refine iB_ (fun c3 H=>?_) (fun c3 H=>?_)<;>subst c3
 replace H:=bA_ H
 obtain⟨t351,A4,H⟩:=H
 by_cases c5:t351=true
 case neg=>
  replace c5:=Bool.eq_false_iff.mpr c5
  subst c5
  replace H:=iF_ H
  obtain rfl:=Option.some.inj H
  clear H
  go_enter Try.func45,Try.ntmps45
  go_wp2_with (first|((with_reducible refine gd_ 1 rfl ?_);refine bx_ #[.slice A0_0 l0_0.length c0_0,.int .i64 a0_1,.slice A0_2 l0_2.length c0_2,.slice A0_3 l0_3.length c0_3] 88 ?_;intro gb349 hg w19 hbox hb;have BK349:=A_ hbox;have GW349:=gw_ hg HB;have GE349:=GW349;replace HB:=bs_ HB hb;clear hb hbox hg;obtain⟨hcz20_0,hcz20_1,hcz20_2,hcz20_3⟩:=cs4_ BK349.out;obtain⟨hfz20_0,hfz20_1,hfz20_2,hfz20_3⟩:=fz4_ BK349.out)|((with_reducible refine gc_ 60 rfl ?_);refine gn_ (some 5) Try.func60 (impl_goodTypes.calls k _ _ l0_0 6 true _ (cb_ HR0_0 HB) HC0_0.out A2.out) ?_;intro nd)|(go_at_call 60;(with_reducible refine(impl_goodTypes.calls k _ _ l0_2 20 false _ ?side1 ?side2 A4.out).mono ?_);(case side1=>exact cb_ HR0_2 HB);(case side2=>exact HC0_2.out);rintro e w' ⟨rfl,⟨nd,rfl⟩⟩))
  go_ret
  exact⟨rr_,bw HB.out⟩
 subst c5
 replace H:=iT_ H
 replace H:=bA_ H
 obtain⟨t352,A6,H⟩:=H
 by_cases c7:t352=true
 case neg=>
  replace c7:=Bool.eq_false_iff.mpr c7
  subst c7
  replace H:=iF_ H
  revert H
  refine iE_ (fun c12b0 c12b1 H=>?_) (fun c12 c12b0 c12b1 H=>?_)
  ·
   replace H:=bA_ H
   obtain⟨t354,A13,H⟩:=H
   obtain rfl:=Option.some.inj H
   clear H
   go_enter Try.func45,Try.ntmps45
   go_wp2_with (first|((with_reducible refine gd_ 1 rfl ?_);refine bx_ #[.slice A0_0 l0_0.length c0_0,.int .i64 a0_1,.slice A0_2 l0_2.length c0_2,.slice A0_3 l0_3.length c0_3] 88 ?_;intro gb349 hg w14 hbox hb;have BK349:=A_ hbox;have GW349:=gw_ hg HB;have GE349:=GW349;replace HB:=bs_ HB hb;clear hb hbox hg;obtain⟨hcz15_0,hcz15_1,hcz15_2,hcz15_3⟩:=cs4_ BK349.out;obtain⟨hfz15_0,hfz15_1,hfz15_2,hfz15_3⟩:=fz4_ BK349.out)|((with_reducible refine gc_ 60 rfl ?_);refine gn_ (some 5) Try.func60 (impl_goodTypes.calls k _ _ l0_0 6 true _ (cb_ HR0_0 HB) HC0_0.out A2.out) ?_;intro nd)|(go_at_call 60;(with_reducible refine(impl_goodTypes.calls k _ _ l0_2 20 true _ ?side1 ?side2 A4.out).mono ?_);(case side1=>exact cb_ HR0_2 HB);(case side2=>exact HC0_2.out);rintro e w' ⟨rfl,⟨nd,rfl⟩⟩)|(go_at_call 48;(with_reducible refine(impl_goodType.calls a0_1 false _ A6.out).mono ?_);rintro e w' ⟨rfl,⟨nd,rfl⟩⟩)|(go_at_call 61;(with_reducible refine(impl_deepest.calls k _ _ l0_3 t354 _ ?side1 ?side2 A13.out).mono ?_);(case side1=>exact cb_ HR0_3 HB);(case side2=>exact HC0_3.out);rintro e w16 ⟨rfl,hb⟩;replace BK349:=kb_ BK349 hb;replace HB:=bs_ HB hb;(try clear hb);(try clear hb2);(try clear hk);(try clear hi)))
   go_ret
   exact⟨rr_,bw HB.out⟩
  obtain rfl:=Option.some.inj H
  clear H
  go_enter Try.func45,Try.ntmps45
  go_wp2_with (first|((with_reducible refine gd_ 1 rfl ?_);refine bx_ #[.slice A0_0 l0_0.length c0_0,.int .i64 a0_1,.slice A0_2 l0_2.length c0_2,.slice A0_3 l0_3.length c0_3] 88 ?_;intro gb349 hg w17 hbox hb;have BK349:=A_ hbox;have GW349:=gw_ hg HB;have GE349:=GW349;replace HB:=bs_ HB hb;clear hb hbox hg;obtain⟨hcz18_0,hcz18_1,hcz18_2,hcz18_3⟩:=cs4_ BK349.out;obtain⟨hfz18_0,hfz18_1,hfz18_2,hfz18_3⟩:=fz4_ BK349.out)|((with_reducible refine gc_ 60 rfl ?_);refine gn_ (some 5) Try.func60 (impl_goodTypes.calls k _ _ l0_0 6 true _ (cb_ HR0_0 HB) HC0_0.out A2.out) ?_;intro nd)|(go_at_call 60;(with_reducible refine(impl_goodTypes.calls k _ _ l0_2 20 true _ ?side1 ?side2 A4.out).mono ?_);(case side1=>exact cb_ HR0_2 HB);(case side2=>exact HC0_2.out);rintro e w' ⟨rfl,⟨nd,rfl⟩⟩)|(go_at_call 48;(with_reducible refine(impl_goodType.calls a0_1 false _ A6.out).mono ?_);rintro e w' ⟨rfl,⟨nd,rfl⟩⟩))
  go_ret
  exact⟨rr_,bw HB.out⟩
 subst c7
 replace H:=iT_ H
 replace H:=bA_ H
 obtain⟨t353,A8,H⟩:=H
 all_goals
  obtain rfl:=Option.some.inj H
  clear H
  go_enter Try.func45,Try.ntmps45
  go_wp2_with (first|((with_reducible refine gd_ 1 rfl ?_);refine bx_ #[.slice A0_0 l0_0.length c0_0,.int .i64 a0_1,.slice A0_2 l0_2.length c0_2,.slice A0_3 l0_3.length c0_3] 88 ?_;intro gb349 hg w9 hbox hb;have BK349:=A_ hbox;have GW349:=gw_ hg HB;have GE349:=GW349;replace HB:=bs_ HB hb;clear hb hbox hg;obtain⟨hcz10_0,hcz10_1,hcz10_2,hcz10_3⟩:=cs4_ BK349.out;obtain⟨hfz10_0,hfz10_1,hfz10_2,hfz10_3⟩:=fz4_ BK349.out)|((with_reducible refine gc_ 60 rfl ?_);refine gn_ (some 5) Try.func60 (impl_goodTypes.calls k _ _ l0_0 6 true _ (cb_ HR0_0 HB) HC0_0.out A2.out) ?_;intro nd)|(go_at_call 60;(with_reducible refine(impl_goodTypes.calls k _ _ l0_2 20 true _ ?side1 ?side2 A4.out).mono ?_);(case side1=>exact cb_ HR0_2 HB);(case side2=>exact HC0_2.out);rintro e w' ⟨rfl,⟨nd,rfl⟩⟩)|(go_at_call 48;(with_reducible refine(impl_goodType.calls a0_1 true _ A6.out).mono ?_);rintro e w' ⟨rfl,⟨nd,rfl⟩⟩)|(go_at_call 61;(with_reducible refine(impl_deepest.calls k _ _ l0_3 t353 _ ?side1 ?side2 A8.out).mono ?_);(case side1=>exact cb_ HR0_3 HB);(case side2=>exact HC0_3.out);rintro e w11 ⟨rfl,hb⟩;replace BK349:=kb_ BK349 hb;replace HB:=bs_ HB hb;(try clear hb);(try clear hb2);(try clear hk);(try clear hi))|((with_reducible refine gc_ 60 rfl ?_);refine gn_ (some 5) Try.func60 (impl_goodTypes.calls k _ _ l0_0 6 false _ (cb_ HR0_0 HB) HC0_0.out A2.out) ?_;intro nd))
  go_ret
  exact⟨rr_,bw HB.out⟩

/-! ### impl_goodGlobal: function 46 -/
def impl_goodGlobal.f (a0_0:Int) (a0_1:Bool) (a0_2:Int):Option (Bool):=(impl_goodType.f a0_0).bind fun t356=>(if t356=true then (if a0_0=126 then (some true) else (some (decide (a0_2<4294967296)))) else (some false))
theorem impl_goodGlobal.calls (a0_0:Int) (a0_1:Bool) (a0_2:Int) (r:Bool) (w:World) (h:impl_goodGlobal.f a0_0 a0_1 a0_2=some r):
  Calls Try.prog 46 #[.agg #[.int .i64 a0_0,.bool a0_1,.int .u64 a0_2]] w fun e w'=>e=.returned (.bool r)∧Below w.heap.size w w':=by
 have hu75:=Try.underlying75
 have HB:=A_ (Below.refl w.heap.size w)
 have H:((impl_goodType.f a0_0).bind fun t356=>(if t356=true then (if a0_0=126 then (some true) else (some (decide (a0_2<4294967296)))) else (some false)))=some r:=h
 clear h
 replace H:=bA_ H
 obtain⟨t356,A2,H⟩:=H
 revert H
 refine iB_ (fun c3 H=>?_) (fun c3 H=>?_)<;>subst c3
 revert H
 refine iE_ (fun c4b0 c4b1 H=>?_) (fun c4 c4b0 c4b1 H=>?_)
 all_goals
  obtain rfl:=Option.some.inj H
  clear H
  go_enter Try.func46,Try.ntmps46
  go_wp2_with (first|((with_reducible refine gd_ 1 rfl ?_);refine bx_ #[.int .i64 a0_0,.bool a0_1,.int .u64 a0_2] 75 ?_;intro gb355 hg w5 hbox hb;have BK355:=A_ hbox;have GW355:=gw_ hg HB;have GE355:=GW355;replace HB:=bs_ HB hb;clear hb hbox hg;obtain⟨hcz6_0,hcz6_1,hcz6_2⟩:=cs3_ BK355.out;obtain⟨hfz6_0,hfz6_1,hfz6_2⟩:=fz3_ BK355.out)|((with_reducible refine gc_ 48 rfl ?_);refine gn_ (some 5) Try.func48 (impl_goodType.calls a0_0 true _ A2.out) ?_;intro nd)|((with_reducible refine gc_ 48 rfl ?_);refine gn_ (some 5) Try.func48 (impl_goodType.calls a0_0 false _ A2.out) ?_;intro nd))
  go_ret
  exact⟨rr_,bw HB.out⟩
end Go.Proofs.Ytanhbfhmgmjdgaa.Q

