-- Written by a program of this session; it walks the functions that the law reaches.
import Derived.Test.YtanhbfhmgmjdgaaQx0
import Derived.Test.YtanhbfhmgmjdgaaQx1
import Derived.Test.YtanhbfhmgmjdgaaQx3
namespace Go.Proofs.Ytanhbfhmgmjdgaa.Q
open Go.RowKit Go.Proofs.YtanhbfhmgmjdgaaW.PrintWords Go.Proofs.YtanhbfhmgmjdgaaW.PrintLast Go.Proofs.YtanhbfhmgmjdgaaW.PrintMore
attribute [local go_sem] max2_int min2_int max_two min_two max_three min_three max_four min_four   -- for this text's walks alone
set_option linter.unusedVariables false
set_option linter.unusedSimpArgs false
set_option maxRecDepth 100000
set_option maxHeartbeats 8000000

/-! ### spec_l7Types: function 72 -/
def spec_l7Types.l0:Nat→List Int→Int→List Int→Int→Int→Option (Bool)
 |0,_,_,_,_,_=>none
 |k+1,x0,x1,x7,x8,x9=>if x9<x8 then (if 0≤x9 then (if x9<(x7.length:Int) then ((spec_l6Type.f (rd x7 x9)).bind fun t178=>(if t178=true then (spec_l7Types.l0 k x0 x1 x7 x8 (wrap64 (x9+1))) else (some false))) else (none)) else (none)) else (some (decide ((x0.length:Int)≤x1)))
def spec_l7Types.f (k:Nat) (l0:List Int) (a1:Int):Option (Bool):=spec_l7Types.l0 k l0 a1 l0 (l0.length:Int) 0
theorem spec_l7Types.calls (k:Nat) (A0:Option Addr) (c0:Nat) (l0:List Int) (a1:Int) (r:Bool) (w:World) (hr0:Kd.C (Kd.int .i64) w A0 l0.length l0) (hc0:l0.length≤c0) (h:spec_l7Types.f k l0 a1=some r):
  Calls Try.prog 72 #[.slice A0 l0.length c0,.int .i64 a1] w fun e w'=>e=.returned (.bool r)∧Drawn0 w w':=by
 have HR0:=A_ hr0
 have HC0:=A_ hc0
 clear hr0 hc0
 have H:(spec_l7Types.l0 k l0 a1 l0 (l0.length:Int) 0)=some r:=h
 clear h
 have H':=A_ H
 clear H
 go_enter Try.func72,Try.ntmps72
 go_wp2
 (try simp only[Act.put,List.setIfInBounds_toArray,List.set_cons_zero,List.set_cons_succ])
 go_loopg [9] k (fun kq v9 w'=>∃ (x9_1:Int),v9=.int .i64 x9_1∧Aside0 (spec_l7Types.l0 kq l0 a1 l0 (l0.length:Int) x9_1=some r)∧Aside0 (kq≤k)∧Drawn0 w w')
 case atStart=>exact⟨(0),rs_,H',⟨Nat.le_refl _⟩,dr_⟩
 case round=>
  clear H'
  obtain⟨x9_1,rfl,HA,HK1,⟨m1,rfl⟩⟩:=hrel
  cases gk with
  |zero=>exact absurd HA.out (by simp[spec_l7Types.l0])
  |succ k1=>
   have H:=HA.out
   clear HA
   simp only[spec_l7Types.l0] at H
   revert H
   refine iL_ (fun c3b0 H=>?_) (fun c3b0 H=>?_)
   ·
    replace H:=id_ H
    obtain⟨c4b0,H⟩:=H
    replace H:=id_ H
    obtain⟨c5b0,H⟩:=H
    replace H:=bA_ H
    obtain⟨t178,A6,H⟩:=H
    revert H
    refine iB_ (fun c7 H=>?_) (fun c7 H=>?_)<;>subst c7
    ·
     have H':=A_ H
     clear H
     have p177:0≤(x9_1:Int):=od_
     have q177:x9_1<(l0.length:Int):=od_
     obtain⟨ad177,e177,hx177_0⟩:=Kd.at_int HR0.out x9_1 p177 q177
     cases e177
     replace p177:=eq_true p177
     replace q177:=eq_true q177
     go_wp2_with (first|((with_reducible refine gc_ 55 rfl ?_);refine gn_ (some 14) Try.func55 (spec_l6Type.calls (rd l0 x9_1) true _ A6.out) ?_;intro nd))
     go_roundg k1
     case measure=>have:=HK1.out;omega
     case rel=>exact⟨(wrap64 (x9_1+1)),rs_,H',⟨by have:=HK1.out;omega⟩,dr_⟩
    obtain rfl:=Option.some.inj H
    clear H
    have p177:0≤(x9_1:Int):=od_
    have q177:x9_1<(l0.length:Int):=od_
    obtain⟨ad177,e177,hx177_0⟩:=Kd.at_int HR0.out x9_1 p177 q177
    cases e177
    replace p177:=eq_true p177
    replace q177:=eq_true q177
    go_wp2_with (first|((with_reducible refine gc_ 55 rfl ?_);refine gn_ (some 14) Try.func55 (spec_l6Type.calls (rd l0 x9_1) false _ A6.out) ?_;intro nd))
    go_ret
    exact⟨rs_,dr_⟩
   obtain rfl:=Option.some.inj H
   clear H
   go_wp2
   go_ret
   exact⟨rs_,dr_⟩

/-! ### spec_l7Func: function 54 -/
def spec_l7Func.f (k:Nat) (l0_0:List Int) (a0_1:Int) (l0_2:List Int) (l0_3:List (S103)):Option (Bool):=(spec_l6Ends.f k l0_3).bind fun bt180=>(if bt180.2.2=true then ((spec_l7Types.f k l0_0 6).bind fun t185=>(if t185=true then ((spec_l7Types.f k l0_2 20).bind fun t186=>(if t186=true then ((spec_l6Type.f a0_1).bind fun t187=>(if t187=true then (some true) else (some (a0_1==64)))) else (some false))) else (some false))) else (some false))
theorem spec_l7Func.calls (k:Nat) (A0_0:Option Addr) (c0_0:Nat) (l0_0:List Int) (a0_1:Int) (A0_2:Option Addr) (c0_2:Nat) (l0_2:List Int) (A0_3:Option Addr) (c0_3:Nat) (l0_3:List (S103)) (r:Bool) (w:World) (hr0_0:Kd.C (Kd.int .i64) w A0_0 l0_0.length l0_0) (hc0_0:l0_0.length≤c0_0) (hr0_2:Kd.C (Kd.int .i64) w A0_2 l0_2.length l0_2) (hc0_2:l0_2.length≤c0_2) (hr0_3:Kd.C k103 w A0_3 l0_3.length l0_3) (hc0_3:l0_3.length≤c0_3) (h:spec_l7Func.f k l0_0 a0_1 l0_2 l0_3=some r):
  Calls Try.prog 54 #[.agg #[.slice A0_0 l0_0.length c0_0,.int .i64 a0_1,.slice A0_2 l0_2.length c0_2,.slice A0_3 l0_3.length c0_3]] w fun e w'=>e=.returned (.bool r)∧Below w.heap.size w w':=by
 have hu88:=Try.underlying88
 have HR0_0:=A_ hr0_0
 have HC0_0:=A_ hc0_0
 clear hr0_0 hc0_0
 have HR0_2:=A_ hr0_2
 have HC0_2:=A_ hc0_2
 clear hr0_2 hc0_2
 have HR0_3:=A_ hr0_3
 have HC0_3:=A_ hc0_3
 clear hr0_3 hc0_3
 have HB:=A_ (Below.refl w.heap.size w)
 have H:((spec_l6Ends.f k l0_3).bind fun bt180=>(if bt180.2.2=true then ((spec_l7Types.f k l0_0 6).bind fun t185=>(if t185=true then ((spec_l7Types.f k l0_2 20).bind fun t186=>(if t186=true then ((spec_l6Type.f a0_1).bind fun t187=>(if t187=true then (some true) else (some (a0_1==64)))) else (some false))) else (some false))) else (some false)))=some r:=h
 clear h
 replace H:=Option.bind_eq_some_iff.mp H
 obtain⟨⟨t180,t181,t182⟩,A20,H⟩:=H
 try dsimp only at H
 have A2:=A_ A20
 clear A20
 revert H
 refine iB_ (fun c3 H=>?_) (fun c3 H=>?_)<;>subst c3
 ·
  replace H:=bA_ H
  obtain⟨t185,A4,H⟩:=H
  revert H
  refine iB_ (fun c5 H=>?_) (fun c5 H=>?_)<;>subst c5
  ·
   replace H:=bA_ H
   obtain⟨t186,A6,H⟩:=H
   revert H
   refine iB_ (fun c7 H=>?_) (fun c7 H=>?_)<;>subst c7
   ·
    replace H:=bA_ H
    obtain⟨t187,A8,H⟩:=H
    revert H
    refine iB_ (fun c9 H=>?_) (fun c9 H=>?_)<;>subst c9
    ·
     obtain rfl:=Option.some.inj H
     clear H
     go_enter Try.func54,Try.ntmps54
     go_wp2_with (first|((with_reducible refine gd_ 1 rfl ?_);refine bx_ #[.slice A0_0 l0_0.length c0_0,.int .i64 a0_1,.slice A0_2 l0_2.length c0_2,.slice A0_3 l0_3.length c0_3] 88 ?_;intro gb179 hg w10 hbox hb;have BK179:=A_ hbox;have GW179:=gw_ hg HB;have GE179:=GW179;replace HB:=bs_ HB hb;clear hb hbox hg;obtain⟨hcz11_0,hcz11_1,hcz11_2,hcz11_3⟩:=cs4_ BK179.out;obtain⟨hfz11_0,hfz11_1,hfz11_2,hfz11_3⟩:=fz4_ BK179.out)|((with_reducible refine gc_ 71 rfl ?_);refine goesL_ (some 9) rfl rfl Try.func71 (by kernel_rfl) rfl #[.slice A0_3 l0_3.length c0_3] rfl ar ?_;(with_reducible refine(spec_l6Ends.calls k _ _ l0_3 t180 t181 true _ ?side1 ?side2 A2.out).mono ?_);(case side1=>exact cb_ HR0_3 HB);(case side2=>exact HC0_3.out);rintro e w12 ⟨v183,rfl,ho0,hb⟩;refine⟨_,rfl,?_⟩;have HO184:=A_ (Kd.R_lower ho0 (below_size (bw HB.out)));replace BK179:=kb_ BK179 hb;replace HB:=bs_ HB hb;(try clear hb);(try clear hb2);(try clear hk);(try clear hi);(try clear ho0);obtain⟨hcz13_0,hcz13_1,hcz13_2,hcz13_3⟩:=cs4_ BK179.out;obtain⟨hfz13_0,hfz13_1,hfz13_2,hfz13_3⟩:=fz4_ BK179.out)|(go_at_call 72;(with_reducible refine(spec_l7Types.calls k _ _ l0_0 6 true _ ?side1 ?side2 A4.out).mono ?_);(case side1=>exact cb_ HR0_0 HB);(case side2=>exact HC0_0.out);rintro e w' ⟨rfl,⟨nd,rfl⟩⟩)|(go_at_call 72;(with_reducible refine(spec_l7Types.calls k _ _ l0_2 20 true _ ?side1 ?side2 A6.out).mono ?_);(case side1=>exact cb_ HR0_2 HB);(case side2=>exact HC0_2.out);rintro e w' ⟨rfl,⟨nd,rfl⟩⟩)|(go_at_call 55;(with_reducible refine(spec_l6Type.calls a0_1 true _ A8.out).mono ?_);rintro e w' ⟨rfl,⟨nd,rfl⟩⟩))
     go_ret
     exact⟨rr_,bw HB.out⟩
    obtain rfl:=Option.some.inj H
    clear H
    go_enter Try.func54,Try.ntmps54
    go_wp2_with (first|((with_reducible refine gd_ 1 rfl ?_);refine bx_ #[.slice A0_0 l0_0.length c0_0,.int .i64 a0_1,.slice A0_2 l0_2.length c0_2,.slice A0_3 l0_3.length c0_3] 88 ?_;intro gb179 hg w14 hbox hb;have BK179:=A_ hbox;have GW179:=gw_ hg HB;have GE179:=GW179;replace HB:=bs_ HB hb;clear hb hbox hg;obtain⟨hcz15_0,hcz15_1,hcz15_2,hcz15_3⟩:=cs4_ BK179.out;obtain⟨hfz15_0,hfz15_1,hfz15_2,hfz15_3⟩:=fz4_ BK179.out)|((with_reducible refine gc_ 71 rfl ?_);refine goesL_ (some 9) rfl rfl Try.func71 (by kernel_rfl) rfl #[.slice A0_3 l0_3.length c0_3] rfl ar ?_;(with_reducible refine(spec_l6Ends.calls k _ _ l0_3 t180 t181 true _ ?side1 ?side2 A2.out).mono ?_);(case side1=>exact cb_ HR0_3 HB);(case side2=>exact HC0_3.out);rintro e w16 ⟨v183,rfl,ho0,hb⟩;refine⟨_,rfl,?_⟩;have HO184:=A_ (Kd.R_lower ho0 (below_size (bw HB.out)));replace BK179:=kb_ BK179 hb;replace HB:=bs_ HB hb;(try clear hb);(try clear hb2);(try clear hk);(try clear hi);(try clear ho0);obtain⟨hcz17_0,hcz17_1,hcz17_2,hcz17_3⟩:=cs4_ BK179.out;obtain⟨hfz17_0,hfz17_1,hfz17_2,hfz17_3⟩:=fz4_ BK179.out)|(go_at_call 72;(with_reducible refine(spec_l7Types.calls k _ _ l0_0 6 true _ ?side1 ?side2 A4.out).mono ?_);(case side1=>exact cb_ HR0_0 HB);(case side2=>exact HC0_0.out);rintro e w' ⟨rfl,⟨nd,rfl⟩⟩)|(go_at_call 72;(with_reducible refine(spec_l7Types.calls k _ _ l0_2 20 true _ ?side1 ?side2 A6.out).mono ?_);(case side1=>exact cb_ HR0_2 HB);(case side2=>exact HC0_2.out);rintro e w' ⟨rfl,⟨nd,rfl⟩⟩)|(go_at_call 55;(with_reducible refine(spec_l6Type.calls a0_1 false _ A8.out).mono ?_);rintro e w' ⟨rfl,⟨nd,rfl⟩⟩))
    go_ret
    exact⟨rr_,bw HB.out⟩
   obtain rfl:=Option.some.inj H
   clear H
   go_enter Try.func54,Try.ntmps54
   go_wp2_with (first|((with_reducible refine gd_ 1 rfl ?_);refine bx_ #[.slice A0_0 l0_0.length c0_0,.int .i64 a0_1,.slice A0_2 l0_2.length c0_2,.slice A0_3 l0_3.length c0_3] 88 ?_;intro gb179 hg w18 hbox hb;have BK179:=A_ hbox;have GW179:=gw_ hg HB;have GE179:=GW179;replace HB:=bs_ HB hb;clear hb hbox hg;obtain⟨hcz19_0,hcz19_1,hcz19_2,hcz19_3⟩:=cs4_ BK179.out;obtain⟨hfz19_0,hfz19_1,hfz19_2,hfz19_3⟩:=fz4_ BK179.out)|((with_reducible refine gc_ 71 rfl ?_);refine goesL_ (some 9) rfl rfl Try.func71 (by kernel_rfl) rfl #[.slice A0_3 l0_3.length c0_3] rfl ar ?_;(with_reducible refine(spec_l6Ends.calls k _ _ l0_3 t180 t181 true _ ?side1 ?side2 A2.out).mono ?_);(case side1=>exact cb_ HR0_3 HB);(case side2=>exact HC0_3.out);rintro e w20 ⟨v183,rfl,ho0,hb⟩;refine⟨_,rfl,?_⟩;have HO184:=A_ (Kd.R_lower ho0 (below_size (bw HB.out)));replace BK179:=kb_ BK179 hb;replace HB:=bs_ HB hb;(try clear hb);(try clear hb2);(try clear hk);(try clear hi);(try clear ho0);obtain⟨hcz21_0,hcz21_1,hcz21_2,hcz21_3⟩:=cs4_ BK179.out;obtain⟨hfz21_0,hfz21_1,hfz21_2,hfz21_3⟩:=fz4_ BK179.out)|(go_at_call 72;(with_reducible refine(spec_l7Types.calls k _ _ l0_0 6 true _ ?side1 ?side2 A4.out).mono ?_);(case side1=>exact cb_ HR0_0 HB);(case side2=>exact HC0_0.out);rintro e w' ⟨rfl,⟨nd,rfl⟩⟩)|(go_at_call 72;(with_reducible refine(spec_l7Types.calls k _ _ l0_2 20 false _ ?side1 ?side2 A6.out).mono ?_);(case side1=>exact cb_ HR0_2 HB);(case side2=>exact HC0_2.out);rintro e w' ⟨rfl,⟨nd,rfl⟩⟩))
   go_ret
   exact⟨rr_,bw HB.out⟩
  obtain rfl:=Option.some.inj H
  clear H
  go_enter Try.func54,Try.ntmps54
  go_wp2_with (first|((with_reducible refine gd_ 1 rfl ?_);refine bx_ #[.slice A0_0 l0_0.length c0_0,.int .i64 a0_1,.slice A0_2 l0_2.length c0_2,.slice A0_3 l0_3.length c0_3] 88 ?_;intro gb179 hg w22 hbox hb;have BK179:=A_ hbox;have GW179:=gw_ hg HB;have GE179:=GW179;replace HB:=bs_ HB hb;clear hb hbox hg;obtain⟨hcz23_0,hcz23_1,hcz23_2,hcz23_3⟩:=cs4_ BK179.out;obtain⟨hfz23_0,hfz23_1,hfz23_2,hfz23_3⟩:=fz4_ BK179.out)|((with_reducible refine gc_ 71 rfl ?_);refine goesL_ (some 9) rfl rfl Try.func71 (by kernel_rfl) rfl #[.slice A0_3 l0_3.length c0_3] rfl ar ?_;(with_reducible refine(spec_l6Ends.calls k _ _ l0_3 t180 t181 true _ ?side1 ?side2 A2.out).mono ?_);(case side1=>exact cb_ HR0_3 HB);(case side2=>exact HC0_3.out);rintro e w24 ⟨v183,rfl,ho0,hb⟩;refine⟨_,rfl,?_⟩;have HO184:=A_ (Kd.R_lower ho0 (below_size (bw HB.out)));replace BK179:=kb_ BK179 hb;replace HB:=bs_ HB hb;(try clear hb);(try clear hb2);(try clear hk);(try clear hi);(try clear ho0);obtain⟨hcz25_0,hcz25_1,hcz25_2,hcz25_3⟩:=cs4_ BK179.out;obtain⟨hfz25_0,hfz25_1,hfz25_2,hfz25_3⟩:=fz4_ BK179.out)|(go_at_call 72;(with_reducible refine(spec_l7Types.calls k _ _ l0_0 6 false _ ?side1 ?side2 A4.out).mono ?_);(case side1=>exact cb_ HR0_0 HB);(case side2=>exact HC0_0.out);rintro e w' ⟨rfl,⟨nd,rfl⟩⟩))
  go_ret
  exact⟨rr_,bw HB.out⟩
 obtain rfl:=Option.some.inj H
 clear H
 go_enter Try.func54,Try.ntmps54
 go_wp2_with (first|((with_reducible refine gd_ 1 rfl ?_);refine bx_ #[.slice A0_0 l0_0.length c0_0,.int .i64 a0_1,.slice A0_2 l0_2.length c0_2,.slice A0_3 l0_3.length c0_3] 88 ?_;intro gb179 hg w26 hbox hb;have BK179:=A_ hbox;have GW179:=gw_ hg HB;have GE179:=GW179;replace HB:=bs_ HB hb;clear hb hbox hg;obtain⟨hcz27_0,hcz27_1,hcz27_2,hcz27_3⟩:=cs4_ BK179.out;obtain⟨hfz27_0,hfz27_1,hfz27_2,hfz27_3⟩:=fz4_ BK179.out)|((with_reducible refine gc_ 71 rfl ?_);refine goesL_ (some 9) rfl rfl Try.func71 (by kernel_rfl) rfl #[.slice A0_3 l0_3.length c0_3] rfl ar ?_;(with_reducible refine(spec_l6Ends.calls k _ _ l0_3 t180 t181 false _ ?side1 ?side2 A2.out).mono ?_);(case side1=>exact cb_ HR0_3 HB);(case side2=>exact HC0_3.out);rintro e w28 ⟨v183,rfl,ho0,hb⟩;refine⟨_,rfl,?_⟩;have HO184:=A_ (Kd.R_lower ho0 (below_size (bw HB.out)));replace BK179:=kb_ BK179 hb;replace HB:=bs_ HB hb;(try clear hb);(try clear hb2);(try clear hk);(try clear hi);(try clear ho0)))
 go_ret
 exact⟨rr_,bw HB.out⟩

/-! ### spec_GoodShape: function 38 -/
mutual
def spec_GoodShape.j0:Nat→Bool→List (S88)→List (S75)→Bool→Int→Int→Int→Option (Bool)
 |0,_,_,_,_,_,_,_=>none
 |k+1,x16,x189000,x189001,x189002,x189003,x189004,x189005=>if x16=true then (some false) else (spec_GoodShape.l0 k x189000 (x189000.length:Int) 0 x189000 x189001 x189002 x189003 x189004 x189005)
def spec_GoodShape.l0:Nat→List (S88)→Int→Int→List (S88)→List (S75)→Bool→Int→Int→Int→Option (Bool)
 |0,_,_,_,_,_,_,_,_,_=>none
 |k+1,x18,x19,x20,x189000,x189001,x189002,x189003,x189004,x189005=>if x20<x19 then (if 0≤x20 then (if x20<(x18.length:Int) then ((spec_l7Func.f k ((rd_T88 x18 x20).f0) ((rd_T88 x18 x20).f1) ((rd_T88 x18 x20).f2) ((rd_T88 x18 x20).f3)).bind fun t191=>(if t191=true then (spec_GoodShape.l0 k x18 x19 (wrap64 (x20+1)) x189000 x189001 x189002 x189003 x189004 x189005) else (some false))) else (none)) else (none)) else (spec_GoodShape.l1 k x189001 (x189001.length:Int) 0 x189000 x189001 x189002 x189003 x189004 x189005)
def spec_GoodShape.l1:Nat→List (S75)→Int→Int→List (S88)→List (S75)→Bool→Int→Int→Int→Option (Bool)
 |0,_,_,_,_,_,_,_,_,_=>none
 |k+1,x29,x30,x31,x189000,x189001,x189002,x189003,x189004,x189005=>if x31<x30 then (if 0≤x31 then (if x31<(x29.length:Int) then ((spec_l6Type.f ((rd_T75 x29 x31).f0)).bind fun t194=>(if t194=true then (if ((rd_T75 x29 x31).f0)=126 then (spec_GoodShape.l1 k x29 x30 (wrap64 (x31+1)) x189000 x189001 x189002 x189003 x189004 x189005) else (if ((rd_T75 x29 x31).f2) > 4294967295 then (some false) else (spec_GoodShape.l1 k x29 x30 (wrap64 (x31+1)) x189000 x189001 x189002 x189003 x189004 x189005))) else (some false))) else (none)) else (none)) else (if x189002=true then ((spec_l1In.f x189004 0 8).bind fun t195=>(if t195=true then ((spec_l1In.f x189003 0 x189004).bind fun t196=>(if t196=true then (spec_GoodShape.j3 k false x189000 x189001 x189002 x189003 x189004 x189005) else (spec_GoodShape.j3 k true x189000 x189001 x189002 x189003 x189004 x189005))) else (spec_GoodShape.j3 k true x189000 x189001 x189002 x189003 x189004 x189005))) else (if x189003=0 then (spec_GoodShape.j3 k (x189004 !=0) x189000 x189001 x189002 x189003 x189004 x189005) else (spec_GoodShape.j3 k true x189000 x189001 x189002 x189003 x189004 x189005)))
def spec_GoodShape.j3:Nat→Bool→List (S88)→List (S75)→Bool→Int→Int→Int→Option (Bool)
 |0,_,_,_,_,_,_,_=>none
 |k+1,x80,x189000,x189001,x189002,x189003,x189004,x189005=>if x80=true then (some false) else (if x189005=(-1) then (some true) else ((spec_l1In.f x189005 0 (wrap64 ((x189000.length:Int) - 1))).bind fun t197=>(if t197=true then (if 0≤x189005 then (if x189005<(x189000.length:Int) then (if (((rd_T88 x189000 x189005).f0).length:Int)=0 then (some (((rd_T88 x189000 x189005).f1)==64)) else (some false)) else (none)) else (none)) else (some false))))
end
def spec_GoodShape.f (k:Nat) (l0_0:List (S88)) (l0_1:List (S75)) (a0_2:Bool) (a0_3:Int) (a0_4:Int) (a0_5:Int):Option (Bool):=if (l0_0.length:Int) > 10 then (spec_GoodShape.j0 k true l0_0 l0_1 a0_2 a0_3 a0_4 a0_5) else (spec_GoodShape.j0 k (decide ((l0_1.length:Int) > 6)) l0_0 l0_1 a0_2 a0_3 a0_4 a0_5)
theorem spec_GoodShape.calls (k:Nat) (A0_0:Option Addr) (c0_0:Nat) (l0_0:List (S88)) (A0_1:Option Addr) (c0_1:Nat) (l0_1:List (S75)) (a0_2:Bool) (a0_3:Int) (a0_4:Int) (a0_5:Int) (r:Bool) (w:World) (hr0_0:Kd.C k88 w A0_0 l0_0.length l0_0) (hc0_0:l0_0.length≤c0_0) (hr0_1:Kd.C k75 w A0_1 l0_1.length l0_1) (hc0_1:l0_1.length≤c0_1) (h:spec_GoodShape.f k l0_0 l0_1 a0_2 a0_3 a0_4 a0_5=some r):
  Calls Try.prog 38 #[.agg #[.slice A0_0 l0_0.length c0_0,.slice A0_1 l0_1.length c0_1,.bool a0_2,.int .i64 a0_3,.int .i64 a0_4,.int .i64 a0_5]] w fun e w'=>e=.returned (.bool r)∧Below w.heap.size w w':=by
 have hu38:=Try.underlying38
 have hu88:=Try.underlying88
 have hu75:=Try.underlying75
 have HR0_0:=A_ hr0_0
 have HC0_0:=A_ hc0_0
 clear hr0_0 hc0_0
 have HR0_1:=A_ hr0_1
 have HC0_1:=A_ hc0_1
 clear hr0_1 hc0_1
 have HB:=A_ (Below.refl w.heap.size w)
 have H:(if (l0_0.length:Int) > 10 then (spec_GoodShape.j0 k true l0_0 l0_1 a0_2 a0_3 a0_4 a0_5) else (spec_GoodShape.j0 k (decide ((l0_1.length:Int) > 6)) l0_0 l0_1 a0_2 a0_3 a0_4 a0_5))=some r:=h
 clear h
 have HC2:=A_ H
 clear H
 go_enter Try.func38,Try.ntmps38
 go_upto_region 1 with (first|((with_reducible refine gd_ 1 rfl ?_);(try (refine gate_guard (by rfl) ?_;dsimp only));refine bx_ #[.slice A0_0 l0_0.length c0_0,.slice A0_1 l0_1.length c0_1,.bool a0_2,.int .i64 a0_3,.int .i64 a0_4,.int .i64 a0_5] 38 ?_;intro gb188 hg w3 hbox hb;have BK188:=A_ hbox;have GW188:=gw_ hg HB;have GE188:=GW188;replace HB:=bs_ HB hb;clear hb hbox hg))
 (try simp only[Act.put,List.setIfInBounds_toArray,List.set_cons_zero,List.set_cons_succ])
 go_cut [16] (fun v16 wc=>∃ (kq:Nat) (x16_1:Bool),v16=.bool x16_1∧Aside0 (spec_GoodShape.j0 kq x16_1 l0_0 l0_1 a0_2 a0_3 a0_4 a0_5=some r)∧Aside0 (kq≤k)∧Aside0 (wc.heap[gb188]? =some (.cells #[(.slice A0_0 l0_0.length c0_0),(.slice A0_1 l0_1.length c0_1),.bool a0_2,.int .i64 a0_3,.int .i64 a0_4,.int .i64 a0_5] 38 (0,0)))∧Aside0 (Below w.heap.size w wc))
 case first=>
  have H:=HC2.out
  clear HC2
  by_cases c4:(l0_0.length:Int) > 10
  ·
   rw[if_pos c4] at H
   have c4b0:=decide_eq_true c4
   have c4b1:decide (10<l0_0.length)=true:=decide_eq_true (by omega)
   clear c4
   (first|rw[c4b0]|(simp only[i64_w,i32_w];rw[c4b0])|skip)
   have H':=A_ H
   clear H
   obtain⟨hcz5_0,hcz5_1,hcz5_2,hcz5_3,hcz5_4,hcz5_5⟩:=cs6_ BK188.out
   obtain⟨hfz5_0,hfz5_1,hfz5_2,hfz5_3,hfz5_4,hfz5_5⟩:=fz6_ BK188.out
   go_wp2
   go_meet
   case rel=>exact⟨_,(true),rs_,H',⟨by first|omega|exact Nat.le_refl _⟩,⟨bk BK188.out⟩,⟨bw HB.out⟩⟩
  rw[if_neg c4] at H
  have c4b0:=decide_eq_false c4
  have c4b1:decide (10<l0_0.length)=false:=decide_eq_false (by omega)
  clear c4
  (first|rw[c4b0]|(simp only[i64_w,i32_w];rw[c4b0])|skip)
  have H':=A_ H
  clear H
  obtain⟨hcz6_0,hcz6_1,hcz6_2,hcz6_3,hcz6_4,hcz6_5⟩:=cs6_ BK188.out
  obtain⟨hfz6_0,hfz6_1,hfz6_2,hfz6_3,hfz6_4,hfz6_5⟩:=fz6_ BK188.out
  go_wp2
  go_meet
  case rel=>exact⟨_,(decide ((l0_1.length:Int) > 6)),rs_,H',⟨by first|omega|exact Nat.le_refl _⟩,⟨bk BK188.out⟩,⟨bw HB.out⟩⟩
 case rest=>
  clear HC2
  obtain⟨kq,x16_1,rfl,HA,HJ1,BK188,HB⟩:=hcut
  cases kq with
  |zero=>exact absurd HA.out (by simp[spec_GoodShape.j0])
  |succ kj1=>
   have H:=HA.out
   clear HA
   simp only[spec_GoodShape.j0] at H
   revert H
   refine iB_ (fun c7 H=>?_) (fun c7 H=>?_)<;>subst c7
   ·
    obtain rfl:=Option.some.inj H
    clear H
    go_wp2
    go_ret
    exact⟨rr_,bw HB.out⟩
   have H':=A_ H
   clear H
   obtain⟨hcz8_0,hcz8_1,hcz8_2,hcz8_3,hcz8_4,hcz8_5⟩:=cs6_ BK188.out
   obtain⟨hfz8_0,hfz8_1,hfz8_2,hfz8_3,hfz8_4,hfz8_5⟩:=fz6_ BK188.out
   go_wp2
   (try simp only[Act.put,List.setIfInBounds_toArray,List.set_cons_zero,List.set_cons_succ])
   go_loopg [20] kj1 (fun kq v20 w'=>∃ (x20_2:Int),v20=.int .i64 x20_2∧Aside0 (spec_GoodShape.l0 kq l0_0 (l0_0.length:Int) x20_2 l0_0 l0_1 a0_2 a0_3 a0_4 a0_5=some r)∧Aside0 (kq≤kj1)∧Aside0 (w'.heap[gb188]? =some (.cells #[(.slice A0_0 l0_0.length c0_0),(.slice A0_1 l0_1.length c0_1),.bool a0_2,.int .i64 a0_3,.int .i64 a0_4,.int .i64 a0_5] 38 (0,0)))∧Aside0 (Below w.heap.size w w'))
   case atStart=>exact⟨(0),rs_,H',⟨Nat.le_refl _⟩,⟨bk BK188.out⟩,⟨bw HB.out⟩⟩
   case round=>
    clear H'
    try clear c7 hcz8_0 hcz8_1 hcz8_2 hcz8_3 hcz8_4 hcz8_5 hfz8_0 hfz8_1 hfz8_2 hfz8_3 hfz8_4 hfz8_5
    obtain⟨x20_2,rfl,HA,HK2,BK188,HB⟩:=hrel
    cases gk with
    |zero=>exact absurd HA.out (by simp[spec_GoodShape.l0])
    |succ k2=>
     have H:=HA.out
     clear HA
     simp only[spec_GoodShape.l0] at H
     revert H
     refine iL_ (fun c9b0 H=>?_) (fun c9b0 H=>?_)
     ·
      replace H:=id_ H
      obtain⟨c10b0,H⟩:=H
      replace H:=id_ H
      obtain⟨c11b0,H⟩:=H
      replace H:=bA_ H
      obtain⟨t191,A12,H⟩:=H
      revert H
      refine iB_ (fun c13 H=>?_) (fun c13 H=>?_)<;>subst c13
      ·
       have H':=A_ H
       clear H
       have p189:0≤(x20_2:Int):=od_
       have q189:x20_2<(l0_0.length:Int):=od_
       obtain⟨ad189,A189_0,c189_0,A189_2,c189_2,A189_3,c189_3,e189,hx189_0,hx189_1,hx189_2,hx189_3,hl189_0,hi189_0,hl189_2,hi189_2,hl189_3,hi189_3⟩:=at_T88 HR0_0.out x20_2 p189 q189
       cases e189
       replace hx189_0:=cl_ HB.out hx189_0
       replace hx189_1:=cl_ HB.out hx189_1
       replace hx189_2:=cl_ HB.out hx189_2
       replace hx189_3:=cl_ HB.out hx189_3
       have HR189_0:=A_ hi189_0
       have HC189_0:=A_ hl189_0
       clear hi189_0 hl189_0
       have HR189_2:=A_ hi189_2
       have HC189_2:=A_ hl189_2
       clear hi189_2 hl189_2
       have HR189_3:=A_ hi189_3
       have HC189_3:=A_ hl189_3
       clear hi189_3 hl189_3
       replace p189:=eq_true p189
       replace q189:=eq_true q189
       go_wp2_with (first|((with_reducible refine gd_ 4 rfl ?_);(try (refine gate_guard (by rfl) ?_;dsimp only));refine bx_ #[.slice none 0 0,.int .i64 0,.slice none 0 0,.slice none 0 0] 88 ?_;intro gb190 hg w14 hbox hb;have BK190:=A_ hbox;have GW190:=gw_ hg HB;have GE190:=GW190;obtain⟨NB188_190,NB190_188⟩:=nb_ BK188 hg;replace BK188:=kb_ BK188 hb;replace HB:=bs_ HB hb;clear hb hbox hg;have hnb15:=NB190_188.out;have hnc15:=NB188_190.out;obtain⟨hcz16_0,hcz16_1,hcz16_2,hcz16_3⟩:=cs4_ BK190.out;obtain⟨hfz16_0,hfz16_1,hfz16_2,hfz16_3⟩:=fz4_ BK190.out)|((with_reducible refine gc_ 54 rfl ?_);refine goesL_ (some 25) rfl rfl Try.func54 (by kernel_rfl) rfl #[.agg #[.slice A189_0 ((rd_T88 l0_0 x20_2).f0).length c189_0,.int .i64 ((rd_T88 l0_0 x20_2).f1),.slice A189_2 ((rd_T88 l0_0 x20_2).f2).length c189_2,.slice A189_3 ((rd_T88 l0_0 x20_2).f3).length c189_3]] rfl ar ?_;(with_reducible refine(spec_l7Func.calls k2 _ _ ((rd_T88 l0_0 x20_2).f0) ((rd_T88 l0_0 x20_2).f1) _ _ ((rd_T88 l0_0 x20_2).f2) _ _ ((rd_T88 l0_0 x20_2).f3) true _ ?side1 ?side2 ?side3 ?side4 ?side5 ?side6 A12.out).mono ?_);(case side1=>exact Kd.C_below HR189_0.out (bw HB.out));(case side2=>exact HC189_0.out);(case side3=>exact Kd.C_below HR189_2.out (bw HB.out));(case side4=>exact HC189_2.out);(case side5=>exact Kd.C_below HR189_3.out (bw HB.out));(case side6=>exact HC189_3.out);rintro e w17 ⟨rfl,hb⟩;refine⟨_,rfl,?_⟩;replace BK188:=A_ (blk_below (g:=gb188) (o:=.cells #[.slice (some ad189) l0_0.length c0_0,.slice A0_1 l0_1.length c0_1,.bool a0_2,.int .i64 a0_3,.int .i64 a0_4,.int .i64 a0_5] 38 (0,0)) (by refine blk_far ?_ NB188_190.out _;refine blk_far ?_ NB188_190.out _;refine blk_far ?_ NB188_190.out _;refine blk_far ?_ NB188_190.out _;(with_reducible repeat (first|refine blk_drewN ?_ _|refine blk_drew ?_|refine blk_alloc ?_ _));exact BK188.out) hb);replace BK190:=A_ (blk_below (g:=gb190) (o:=.cells #[.slice A189_0 ((rd_T88 l0_0 x20_2).f0).length c189_0,.int .i64 ((rd_T88 l0_0 x20_2).f1),.slice A189_2 ((rd_T88 l0_0 x20_2).f2).length c189_2,.slice A189_3 ((rd_T88 l0_0 x20_2).f3).length c189_3] 88 (0,0)) (by refine blk_put (cs:=#[.slice A189_0 ((rd_T88 l0_0 x20_2).f0).length c189_0,.int .i64 ((rd_T88 l0_0 x20_2).f1),.slice A189_2 ((rd_T88 l0_0 x20_2).f2).length c189_2,.slice none 0 0]) ?_ 3 _ rfl;refine blk_put (cs:=#[.slice A189_0 ((rd_T88 l0_0 x20_2).f0).length c189_0,.int .i64 ((rd_T88 l0_0 x20_2).f1),.slice none 0 0,.slice none 0 0]) ?_ 2 _ rfl;refine blk_put (cs:=#[.slice A189_0 ((rd_T88 l0_0 x20_2).f0).length c189_0,.int .i64 0,.slice none 0 0,.slice none 0 0]) ?_ 1 _ rfl;refine blk_put (cs:=#[.slice none 0 0,.int .i64 0,.slice none 0 0,.slice none 0 0]) ?_ 0 _ rfl;(with_reducible repeat (first|refine blk_drewN ?_ _|refine blk_drew ?_|refine blk_alloc ?_ _));exact BK190.out) hb);replace HB:=bs_ HB hb;(try clear hb)))
       go_roundg k2
       case measure=>have:=HJ1.out;have:=HK2.out;omega
       case rel=>exact⟨(wrap64 (x20_2+1)),rs_,H',⟨by have:=HJ1.out;have:=HK2.out;omega⟩,⟨bk BK188.out⟩,⟨bw HB.out⟩⟩
      obtain rfl:=Option.some.inj H
      clear H
      have p189:0≤(x20_2:Int):=od_
      have q189:x20_2<(l0_0.length:Int):=od_
      obtain⟨ad189,A189_0,c189_0,A189_2,c189_2,A189_3,c189_3,e189,hx189_0,hx189_1,hx189_2,hx189_3,hl189_0,hi189_0,hl189_2,hi189_2,hl189_3,hi189_3⟩:=at_T88 HR0_0.out x20_2 p189 q189
      cases e189
      replace hx189_0:=cl_ HB.out hx189_0
      replace hx189_1:=cl_ HB.out hx189_1
      replace hx189_2:=cl_ HB.out hx189_2
      replace hx189_3:=cl_ HB.out hx189_3
      have HR189_0:=A_ hi189_0
      have HC189_0:=A_ hl189_0
      clear hi189_0 hl189_0
      have HR189_2:=A_ hi189_2
      have HC189_2:=A_ hl189_2
      clear hi189_2 hl189_2
      have HR189_3:=A_ hi189_3
      have HC189_3:=A_ hl189_3
      clear hi189_3 hl189_3
      replace p189:=eq_true p189
      replace q189:=eq_true q189
      go_wp2_with (first|((with_reducible refine gd_ 4 rfl ?_);(try (refine gate_guard (by rfl) ?_;dsimp only));refine bx_ #[.slice none 0 0,.int .i64 0,.slice none 0 0,.slice none 0 0] 88 ?_;intro gb190 hg w18 hbox hb;have BK190:=A_ hbox;have GW190:=gw_ hg HB;have GE190:=GW190;obtain⟨NB188_190,NB190_188⟩:=nb_ BK188 hg;replace BK188:=kb_ BK188 hb;replace HB:=bs_ HB hb;clear hb hbox hg;have hnb19:=NB190_188.out;have hnc19:=NB188_190.out;obtain⟨hcz20_0,hcz20_1,hcz20_2,hcz20_3⟩:=cs4_ BK190.out;obtain⟨hfz20_0,hfz20_1,hfz20_2,hfz20_3⟩:=fz4_ BK190.out)|((with_reducible refine gc_ 54 rfl ?_);refine goesL_ (some 25) rfl rfl Try.func54 (by kernel_rfl) rfl #[.agg #[.slice A189_0 ((rd_T88 l0_0 x20_2).f0).length c189_0,.int .i64 ((rd_T88 l0_0 x20_2).f1),.slice A189_2 ((rd_T88 l0_0 x20_2).f2).length c189_2,.slice A189_3 ((rd_T88 l0_0 x20_2).f3).length c189_3]] rfl ar ?_;(with_reducible refine(spec_l7Func.calls k2 _ _ ((rd_T88 l0_0 x20_2).f0) ((rd_T88 l0_0 x20_2).f1) _ _ ((rd_T88 l0_0 x20_2).f2) _ _ ((rd_T88 l0_0 x20_2).f3) false _ ?side1 ?side2 ?side3 ?side4 ?side5 ?side6 A12.out).mono ?_);(case side1=>exact Kd.C_below HR189_0.out (bw HB.out));(case side2=>exact HC189_0.out);(case side3=>exact Kd.C_below HR189_2.out (bw HB.out));(case side4=>exact HC189_2.out);(case side5=>exact Kd.C_below HR189_3.out (bw HB.out));(case side6=>exact HC189_3.out);rintro e w21 ⟨rfl,hb⟩;refine⟨_,rfl,?_⟩;replace BK188:=A_ (blk_below (g:=gb188) (o:=.cells #[.slice (some ad189) l0_0.length c0_0,.slice A0_1 l0_1.length c0_1,.bool a0_2,.int .i64 a0_3,.int .i64 a0_4,.int .i64 a0_5] 38 (0,0)) (by refine blk_far ?_ NB188_190.out _;refine blk_far ?_ NB188_190.out _;refine blk_far ?_ NB188_190.out _;refine blk_far ?_ NB188_190.out _;(with_reducible repeat (first|refine blk_drewN ?_ _|refine blk_drew ?_|refine blk_alloc ?_ _));exact BK188.out) hb);replace BK190:=A_ (blk_below (g:=gb190) (o:=.cells #[.slice A189_0 ((rd_T88 l0_0 x20_2).f0).length c189_0,.int .i64 ((rd_T88 l0_0 x20_2).f1),.slice A189_2 ((rd_T88 l0_0 x20_2).f2).length c189_2,.slice A189_3 ((rd_T88 l0_0 x20_2).f3).length c189_3] 88 (0,0)) (by refine blk_put (cs:=#[.slice A189_0 ((rd_T88 l0_0 x20_2).f0).length c189_0,.int .i64 ((rd_T88 l0_0 x20_2).f1),.slice A189_2 ((rd_T88 l0_0 x20_2).f2).length c189_2,.slice none 0 0]) ?_ 3 _ rfl;refine blk_put (cs:=#[.slice A189_0 ((rd_T88 l0_0 x20_2).f0).length c189_0,.int .i64 ((rd_T88 l0_0 x20_2).f1),.slice none 0 0,.slice none 0 0]) ?_ 2 _ rfl;refine blk_put (cs:=#[.slice A189_0 ((rd_T88 l0_0 x20_2).f0).length c189_0,.int .i64 0,.slice none 0 0,.slice none 0 0]) ?_ 1 _ rfl;refine blk_put (cs:=#[.slice none 0 0,.int .i64 0,.slice none 0 0,.slice none 0 0]) ?_ 0 _ rfl;(with_reducible repeat (first|refine blk_drewN ?_ _|refine blk_drew ?_|refine blk_alloc ?_ _));exact BK190.out) hb);replace HB:=bs_ HB hb;(try clear hb)))
      go_ret
      exact⟨rr_,bw HB.out⟩
     have H':=A_ H
     clear H
     obtain⟨hcz22_0,hcz22_1,hcz22_2,hcz22_3,hcz22_4,hcz22_5⟩:=cs6_ BK188.out
     obtain⟨hfz22_0,hfz22_1,hfz22_2,hfz22_3,hfz22_4,hfz22_5⟩:=fz6_ BK188.out
     go_wp2
     (try simp only[Act.put,List.setIfInBounds_toArray,List.set_cons_zero,List.set_cons_succ])
     go_loopg [31] k2 (fun kq v31 w'=>∃ (x31_3:Int),v31=.int .i64 x31_3∧Aside0 (spec_GoodShape.l1 kq l0_1 (l0_1.length:Int) x31_3 l0_0 l0_1 a0_2 a0_3 a0_4 a0_5=some r)∧Aside0 (kq≤k2)∧Aside0 (w'.heap[gb188]? =some (.cells #[(.slice A0_0 l0_0.length c0_0),(.slice A0_1 l0_1.length c0_1),.bool a0_2,.int .i64 a0_3,.int .i64 a0_4,.int .i64 a0_5] 38 (0,0)))∧Aside0 (Below w.heap.size w w'))
     case atStart=>exact⟨(0),rs_,H',⟨Nat.le_refl _⟩,⟨bk BK188.out⟩,⟨bw HB.out⟩⟩
     case round=>
      clear H'
      try clear c7 c9 c9b0 hcz22_0 hcz22_1 hcz22_2 hcz22_3 hcz22_4 hcz22_5 hcz8_0 hcz8_1 hcz8_2 hcz8_3 hcz8_4 hcz8_5 hfz22_0 hfz22_1 hfz22_2 hfz22_3 hfz22_4 hfz22_5 hfz8_0 hfz8_1 hfz8_2 hfz8_3 hfz8_4 hfz8_5
      obtain⟨x31_3,rfl,HA,HK3,BK188,HB⟩:=hrel
      cases gk with
      |zero=>exact absurd HA.out (by simp[spec_GoodShape.l1])
      |succ k3=>
       have H:=HA.out
       clear HA
       simp only[spec_GoodShape.l1] at H
       by_cases c23:x31_3<(l0_1.length:Int)
       case neg=>
        rw[if_neg c23] at H
        have c23b0:=decide_eq_false c23
        clear c23
        have HC42:=A_ H
        clear H
        go_upto_region 15 with (fail)
        go_cut [80] (fun v80 wc=>∃ (kq:Nat) (x80_41:Bool),v80=.bool x80_41∧Aside0 (spec_GoodShape.j3 kq x80_41 l0_0 l0_1 a0_2 a0_3 a0_4 a0_5=some r)∧Aside0 (kq≤k3)∧Aside0 (wc.heap[gb188]? =some (.cells #[(.slice A0_0 l0_0.length c0_0),(.slice A0_1 l0_1.length c0_1),.bool a0_2,.int .i64 a0_3,.int .i64 a0_4,.int .i64 a0_5] 38 (0,0)))∧Aside0 (Below w.heap.size w wc))
        case first=>
         have H:=HC42.out
         clear HC42
         revert H
         refine iB_ (fun c43 H=>?pc43) (fun c43 H=>?nc43)<;>subst c43
         case' pc43=>
          replace H:=bA_ H
          obtain⟨t195,A44,H⟩:=H
          by_cases c45:t195=true
          case neg=>
           replace c45:=Bool.eq_false_iff.mpr c45
           subst c45
           replace H:=iF_ H
           have H':=A_ H
           clear H
           obtain⟨hcz50_0,hcz50_1,hcz50_2,hcz50_3,hcz50_4,hcz50_5⟩:=cs6_ BK188.out
           obtain⟨hfz50_0,hfz50_1,hfz50_2,hfz50_3,hfz50_4,hfz50_5⟩:=fz6_ BK188.out
           go_wp2_with (first|(go_at_call 24;(with_reducible refine(spec_l1In.calls a0_4 0 8 false _ A44.out).mono ?_);rintro e w' ⟨rfl,⟨nd,rfl⟩⟩))
           go_meet
           case rel=>exact⟨_,(true),rs_,H',⟨by have:=HJ1.out;have:=HK2.out;have:=HK3.out;first|omega|exact Nat.le_refl _⟩,⟨bk BK188.out⟩,⟨bw HB.out⟩⟩
          subst c45
          replace H:=iT_ H
          replace H:=bA_ H
          obtain⟨t196,A46,H⟩:=H
          by_cases c47:t196=true
          case neg=>
           replace c47:=Bool.eq_false_iff.mpr c47
           subst c47
           replace H:=iF_ H
           have H':=A_ H
           clear H
           obtain⟨hcz49_0,hcz49_1,hcz49_2,hcz49_3,hcz49_4,hcz49_5⟩:=cs6_ BK188.out
           obtain⟨hfz49_0,hfz49_1,hfz49_2,hfz49_3,hfz49_4,hfz49_5⟩:=fz6_ BK188.out
           go_wp2_with (first|(go_at_call 24;(with_reducible refine(spec_l1In.calls a0_4 0 8 true _ A44.out).mono ?_);rintro e w' ⟨rfl,⟨nd,rfl⟩⟩)|(go_at_call 24;(with_reducible refine(spec_l1In.calls a0_3 0 a0_4 false _ A46.out).mono ?_);rintro e w' ⟨rfl,⟨nd,rfl⟩⟩))
           go_meet
           case rel=>exact⟨_,(true),rs_,H',⟨by have:=HJ1.out;have:=HK2.out;have:=HK3.out;first|omega|exact Nat.le_refl _⟩,⟨bk BK188.out⟩,⟨bw HB.out⟩⟩
          subst c47
          replace H:=iT_ H
          have H':=A_ H
          clear H
          obtain⟨hcz48_0,hcz48_1,hcz48_2,hcz48_3,hcz48_4,hcz48_5⟩:=cs6_ BK188.out
          obtain⟨hfz48_0,hfz48_1,hfz48_2,hfz48_3,hfz48_4,hfz48_5⟩:=fz6_ BK188.out
         case' nc43=>
          revert H
          refine iE_ (fun c51b0 c51b1 H=>?pc51) (fun c51 c51b0 c51b1 H=>?nc51)
          case' pc51=>
           (first|rw[c51b0]|(simp only[i64_w,i32_w];rw[c51b0])|skip)
           have H':=A_ H
           clear H
           obtain⟨hcz52_0,hcz52_1,hcz52_2,hcz52_3,hcz52_4,hcz52_5⟩:=cs6_ BK188.out
           obtain⟨hfz52_0,hfz52_1,hfz52_2,hfz52_3,hfz52_4,hfz52_5⟩:=fz6_ BK188.out
          case' nc51=>
           (first|rw[c51b0]|(simp only[i64_w,i32_w];rw[c51b0])|skip)
           have H':=A_ H
           clear H
           obtain⟨hcz53_0,hcz53_1,hcz53_2,hcz53_3,hcz53_4,hcz53_5⟩:=cs6_ BK188.out
           obtain⟨hfz53_0,hfz53_1,hfz53_2,hfz53_3,hfz53_4,hfz53_5⟩:=fz6_ BK188.out
         all_goals
          go_wp2_with (first|(go_at_call 24;(with_reducible refine(spec_l1In.calls a0_4 0 8 true _ A44.out).mono ?_);rintro e w' ⟨rfl,⟨nd,rfl⟩⟩)|(go_at_call 24;(with_reducible refine(spec_l1In.calls a0_3 0 a0_4 true _ A46.out).mono ?_);rintro e w' ⟨rfl,⟨nd,rfl⟩⟩))
          go_meet
          case rel=>exact⟨_,_,rs_,H',⟨by have:=HJ1.out;have:=HK2.out;have:=HK3.out;first|omega|exact Nat.le_refl _⟩,⟨bk BK188.out⟩,⟨bw HB.out⟩⟩
        case rest=>
         clear HC42
         try clear c7 c9 c9b0 c23 c23b0 hcz22_0 hcz22_1 hcz22_2 hcz22_3 hcz22_4 hcz22_5 hcz8_0 hcz8_1 hcz8_2 hcz8_3 hcz8_4 hcz8_5 hfz22_0 hfz22_1 hfz22_2 hfz22_3 hfz22_4 hfz22_5 hfz8_0 hfz8_1 hfz8_2 hfz8_3 hfz8_4 hfz8_5
         obtain⟨kq,x80_41,rfl,HA,HJ41,BK188,HB⟩:=hcut
         cases kq with
         |zero=>exact absurd HA.out (by simp[spec_GoodShape.j3])
         |succ kj41=>
          have H:=HA.out
          clear HA
          simp only[spec_GoodShape.j3] at H
          revert H
          refine iB_ (fun c54 H=>?pc54) (fun c54 H=>?nc54)<;>subst c54
          case' pc54=>
           obtain rfl:=Option.some.inj H
           clear H
          case' nc54=>
           revert H
           refine iE_ (fun c55b0 c55b1 H=>?pc55) (fun c55 c55b0 c55b1 H=>?nc55)
           case' pc55=>
            obtain rfl:=Option.some.inj H
            clear H
            obtain⟨hcz56_0,hcz56_1,hcz56_2,hcz56_3,hcz56_4,hcz56_5⟩:=cs6_ BK188.out
            obtain⟨hfz56_0,hfz56_1,hfz56_2,hfz56_3,hfz56_4,hfz56_5⟩:=fz6_ BK188.out
           case' nc55=>
            replace H:=bA_ H
            obtain⟨t197,A57,H⟩:=H
            revert H
            refine iB_ (fun c58 H=>?pc58) (fun c58 H=>?nc58)<;>subst c58
            case' pc58=>
             replace H:=id_ H
             obtain⟨c59b0,H⟩:=H
             replace H:=id_ H
             obtain⟨c60b0,H⟩:=H
             revert H
             refine iE_ (fun c61b0 c61b1 H=>?pc61) (fun c61 c61b0 c61b1 H=>?nc61)
             case' pc61=>
              obtain rfl:=Option.some.inj H
              clear H
              obtain⟨hcz62_0,hcz62_1,hcz62_2,hcz62_3,hcz62_4,hcz62_5⟩:=cs6_ BK188.out
              obtain⟨hfz62_0,hfz62_1,hfz62_2,hfz62_3,hfz62_4,hfz62_5⟩:=fz6_ BK188.out
             case' nc61=>
              have c61b2:¬(((rd_T88 l0_0 a0_5).f0)=[]):=fun h_=>c61 (by rw[h_];rfl)
              obtain rfl:=Option.some.inj H
              clear H
              obtain⟨hcz63_0,hcz63_1,hcz63_2,hcz63_3,hcz63_4,hcz63_5⟩:=cs6_ BK188.out
              obtain⟨hfz63_0,hfz63_1,hfz63_2,hfz63_3,hfz63_4,hfz63_5⟩:=fz6_ BK188.out
            case' nc58=>
             obtain rfl:=Option.some.inj H
             clear H
             obtain⟨hcz64_0,hcz64_1,hcz64_2,hcz64_3,hcz64_4,hcz64_5⟩:=cs6_ BK188.out
             obtain⟨hfz64_0,hfz64_1,hfz64_2,hfz64_3,hfz64_4,hfz64_5⟩:=fz6_ BK188.out
          all_goals
           go_wp2_with (first|((with_reducible refine gc_ 24 rfl ?_);refine gn_ (some 90) Try.func24 (spec_l1In.calls a0_5 0 (wrap64 ((l0_0.length:Int) - 1)) true _ A57.out) ?_;intro nd;have p198:0≤(a0_5:Int):=od_;have q198:a0_5<(l0_0.length:Int):=od_;obtain⟨ad198,A198_0,c198_0,A198_2,c198_2,A198_3,c198_3,e198,hx198_0,hx198_1,hx198_2,hx198_3,hl198_0,hi198_0,hl198_2,hi198_2,hl198_3,hi198_3⟩:=at_T88 HR0_0.out a0_5 p198 q198;cases e198;replace hx198_0:=cl_ HB.out hx198_0;replace hx198_1:=cl_ HB.out hx198_1;replace hx198_2:=cl_ HB.out hx198_2;replace hx198_3:=cl_ HB.out hx198_3;have HR198_0:=A_ hi198_0;have HC198_0:=A_ hl198_0;clear hi198_0 hl198_0;have HR198_2:=A_ hi198_2;have HC198_2:=A_ hl198_2;clear hi198_2 hl198_2;have HR198_3:=A_ hi198_3;have HC198_3:=A_ hl198_3;clear hi198_3 hl198_3;replace p198:=eq_true p198;replace q198:=eq_true q198;have p199:0≤(a0_5:Int):=od_;have q199:a0_5<(l0_0.length:Int):=od_;obtain⟨ad199,A199_0,c199_0,A199_2,c199_2,A199_3,c199_3,e199,hx199_0,hx199_1,hx199_2,hx199_3,hl199_0,hi199_0,hl199_2,hi199_2,hl199_3,hi199_3⟩:=at_T88 HR0_0.out a0_5 p199 q199;obtain rfl:ad198=ad199:=(by injection e199);replace hx199_0:=cl_ HB.out hx199_0;replace hx199_1:=cl_ HB.out hx199_1;replace hx199_2:=cl_ HB.out hx199_2;replace hx199_3:=cl_ HB.out hx199_3;have HR199_0:=A_ hi199_0;have HC199_0:=A_ hl199_0;clear hi199_0 hl199_0;have HR199_2:=A_ hi199_2;have HC199_2:=A_ hl199_2;clear hi199_2 hl199_2;have HR199_3:=A_ hi199_3;have HC199_3:=A_ hl199_3;clear hi199_3 hl199_3;replace p199:=eq_true p199;replace q199:=eq_true q199;have ea_:=Option.some.inj (hx198_0.symm.trans hx199_0);injection ea_ with ea_ en_ ec_;subst ea_;subst ec_;clear en_;have ea_:=Option.some.inj (hx198_2.symm.trans hx199_2);injection ea_ with ea_ en_ ec_;subst ea_;subst ec_;clear en_;have ea_:=Option.some.inj (hx198_3.symm.trans hx199_3);injection ea_ with ea_ en_ ec_;subst ea_;subst ec_;clear en_)|((with_reducible refine gc_ 24 rfl ?_);refine gn_ (some 90) Try.func24 (spec_l1In.calls a0_5 0 (wrap64 ((l0_0.length:Int) - 1)) false _ A57.out) ?_;intro nd))
           go_ret
           exact⟨rr_,bw HB.out⟩
       rw[if_pos c23] at H
       have c23b0:=decide_eq_true c23
       clear c23
       replace H:=id_ H
       obtain⟨c24b0,H⟩:=H
       replace H:=id_ H
       obtain⟨c25b0,H⟩:=H
       replace H:=bA_ H
       obtain⟨t194,A26,H⟩:=H
       by_cases c27:t194=true
       case neg=>
        replace c27:=Bool.eq_false_iff.mpr c27
        subst c27
        replace H:=iF_ H
        obtain rfl:=Option.some.inj H
        clear H
        have p192:0≤(x31_3:Int):=od_
        have q192:x31_3<(l0_1.length:Int):=od_
        obtain⟨ad192,e192,hx192_0,hx192_1,hx192_2⟩:=at_T75 HR0_1.out x31_3 p192 q192
        cases e192
        replace hx192_0:=cl_ HB.out hx192_0
        replace hx192_1:=cl_ HB.out hx192_1
        replace hx192_2:=cl_ HB.out hx192_2
        replace p192:=eq_true p192
        replace q192:=eq_true q192
        go_wp2_with (first|((with_reducible refine gd_ 6 rfl ?_);(try (refine gate_guard (by rfl) ?_;dsimp only));refine bx_ #[.int .i64 0,.bool false,.int .u64 0] 75 ?_;intro gb193 hg w39 hbox hb;have BK193:=A_ hbox;have GW193:=gw_ hg HB;have GE193:=GW193;obtain⟨NB188_193,NB193_188⟩:=nb_ BK188 hg;replace BK188:=kb_ BK188 hb;replace HB:=bs_ HB hb;clear hb hbox hg;have hnb40:=NB193_188.out;have hnc40:=NB188_193.out;obtain⟨hcz41_0,hcz41_1,hcz41_2⟩:=cs3_ BK193.out;obtain⟨hfz41_0,hfz41_1,hfz41_2⟩:=fz3_ BK193.out)|((with_reducible refine gc_ 55 rfl ?_);refine gn_ (some 37) Try.func55 (spec_l6Type.calls ((rd_T75 l0_1 x31_3).f0) false _ A26.out) ?_;intro nd))
        go_ret
        exact⟨rr_,bw HB.out⟩
       subst c27
       replace H:=iT_ H
       revert H
       refine iE_ (fun c28b0 c28b1 H=>?pc28) (fun c28 c28b0 c28b1 H=>?nc28)
       case' pc28=>
        have H':=A_ H
        clear H
        have p192:0≤(x31_3:Int):=od_
        have q192:x31_3<(l0_1.length:Int):=od_
        obtain⟨ad192,e192,hx192_0,hx192_1,hx192_2⟩:=at_T75 HR0_1.out x31_3 p192 q192
        cases e192
        replace hx192_0:=cl_ HB.out hx192_0
        replace hx192_1:=cl_ HB.out hx192_1
        replace hx192_2:=cl_ HB.out hx192_2
        replace p192:=eq_true p192
        replace q192:=eq_true q192
       case' nc28=>
        revert H
        refine iL_ (fun c32b0 H=>?_) (fun c32b0 H=>?_)
        ·
         obtain rfl:=Option.some.inj H
         clear H
         have p192:0≤(x31_3:Int):=od_
         have q192:x31_3<(l0_1.length:Int):=od_
         obtain⟨ad192,e192,hx192_0,hx192_1,hx192_2⟩:=at_T75 HR0_1.out x31_3 p192 q192
         cases e192
         replace hx192_0:=cl_ HB.out hx192_0
         replace hx192_1:=cl_ HB.out hx192_1
         replace hx192_2:=cl_ HB.out hx192_2
         replace p192:=eq_true p192
         replace q192:=eq_true q192
         go_wp2_with (first|((with_reducible refine gd_ 6 rfl ?_);(try (refine gate_guard (by rfl) ?_;dsimp only));refine bx_ #[.int .i64 0,.bool false,.int .u64 0] 75 ?_;intro gb193 hg w33 hbox hb;have BK193:=A_ hbox;have GW193:=gw_ hg HB;have GE193:=GW193;obtain⟨NB188_193,NB193_188⟩:=nb_ BK188 hg;replace BK188:=kb_ BK188 hb;replace HB:=bs_ HB hb;clear hb hbox hg;have hnb34:=NB193_188.out;have hnc34:=NB188_193.out;obtain⟨hcz35_0,hcz35_1,hcz35_2⟩:=cs3_ BK193.out;obtain⟨hfz35_0,hfz35_1,hfz35_2⟩:=fz3_ BK193.out)|((with_reducible refine gc_ 55 rfl ?_);refine gn_ (some 37) Try.func55 (spec_l6Type.calls ((rd_T75 l0_1 x31_3).f0) true _ A26.out) ?_;intro nd))
         go_ret
         exact⟨rr_,bw HB.out⟩
        have H':=A_ H
        clear H
        have p192:0≤(x31_3:Int):=od_
        have q192:x31_3<(l0_1.length:Int):=od_
        obtain⟨ad192,e192,hx192_0,hx192_1,hx192_2⟩:=at_T75 HR0_1.out x31_3 p192 q192
        cases e192
        replace hx192_0:=cl_ HB.out hx192_0
        replace hx192_1:=cl_ HB.out hx192_1
        replace hx192_2:=cl_ HB.out hx192_2
        replace p192:=eq_true p192
        replace q192:=eq_true q192
       all_goals
        go_wp2_with (first|((with_reducible refine gd_ 6 rfl ?_);(try (refine gate_guard (by rfl) ?_;dsimp only));refine bx_ #[.int .i64 0,.bool false,.int .u64 0] 75 ?_;intro gb193 hg w29 hbox hb;have BK193:=A_ hbox;have GW193:=gw_ hg HB;have GE193:=GW193;obtain⟨NB188_193,NB193_188⟩:=nb_ BK188 hg;replace BK188:=kb_ BK188 hb;replace HB:=bs_ HB hb;clear hb hbox hg;have hnb30:=NB193_188.out;have hnc30:=NB188_193.out;obtain⟨hcz31_0,hcz31_1,hcz31_2⟩:=cs3_ BK193.out;obtain⟨hfz31_0,hfz31_1,hfz31_2⟩:=fz3_ BK193.out)|((with_reducible refine gc_ 55 rfl ?_);refine gn_ (some 37) Try.func55 (spec_l6Type.calls ((rd_T75 l0_1 x31_3).f0) true _ A26.out) ?_;intro nd))
        go_roundg k3
        case measure=>have:=HJ1.out;have:=HK2.out;have:=HK3.out;omega
        case rel=>exact⟨_,rs_,H',⟨by have:=HJ1.out;have:=HK2.out;have:=HK3.out;omega⟩,⟨by refine blk_far ?_ NB188_193.out _;refine blk_far ?_ NB188_193.out _;refine blk_far ?_ NB188_193.out _;(with_reducible repeat (first|refine blk_drewN ?_ _|refine blk_drew ?_|refine blk_alloc ?_ _));exact BK188.out⟩,⟨bw HB.out⟩⟩
end Go.Proofs.Ytanhbfhmgmjdgaa.Q

