-- Written by a program of this session; it walks the functions that the law reaches.
import Derived.Test.YtghogonibanieaaQx0
import Derived.Test.YtghogonibanieaaQx5
import Derived.Test.YtghogonibanieaaQx7
namespace Go.Proofs.Ytghogonibanieaa.Q
open Go.RowKit Go.Proofs.YtghogonibanieaaW.PrintWords Go.Proofs.YtghogonibanieaaW.PrintLast Go.Proofs.YtghogonibanieaaW.PrintMore
attribute [local go_sem] max2_int min2_int max_two min_two max_three min_three max_four min_four   -- for this text's walks alone
set_option linter.unusedVariables false
set_option linter.unusedSimpArgs false
set_option maxRecDepth 100000
set_option maxHeartbeats 8000000

/-! ### spec_l7Types: function 41 -/
def spec_l7Types.l0:Nat→List Int→Int→List Int→Int→Int→Option (Bool)
 |0,_,_,_,_,_=>none
 |k+1,x0,x1,x7,x8,x9=>if x9<x8 then (if 0≤x9 then (if x9<(x7.length:Int) then ((spec_l6Type.f (rd x7 x9)).bind fun t257=>(if t257=true then (spec_l7Types.l0 k x0 x1 x7 x8 (wrap64 (x9+1))) else (some false))) else (none)) else (none)) else (some (decide ((x0.length:Int)≤x1)))
def spec_l7Types.f (k:Nat) (l0:List Int) (a1:Int):Option (Bool):=spec_l7Types.l0 k l0 a1 l0 (l0.length:Int) 0
theorem spec_l7Types.calls (k:Nat) (A0:Option Addr) (c0:Nat) (l0:List Int) (a1:Int) (r:Bool) (w:World) (hr0:Kd.C (Kd.int .i64) w A0 l0.length l0) (hc0:l0.length≤c0) (h:spec_l7Types.f k l0 a1=some r):
  Calls Try.prog 41 #[.slice A0 l0.length c0,.int .i64 a1] w fun e w'=>e=.returned (.bool r)∧Drawn0 w w':=by
 have HR0:=A_ hr0
 have HC0:=A_ hc0
 clear hr0 hc0
 have H:(spec_l7Types.l0 k l0 a1 l0 (l0.length:Int) 0)=some r:=h
 clear h
 have H':=A_ H
 clear H
 go_enter Try.func41,Try.ntmps41
 go_wp2
 (try simp only[Act.put,List.setIfInBounds_toArray,List.set_cons_zero,List.set_cons_succ])
 go_loopg [9] k (fun kq v9 w'=>∃ (x9_1:Int),v9=.int .i64 x9_1∧Aside0 (spec_l7Types.l0 kq l0 a1 l0 (l0.length:Int) x9_1=some r)∧Aside0 (kq≤k)∧Drawn0 w w')
 case atStart=>exact⟨(0),rs_,H',⟨Nat.le_refl _⟩,dr_⟩
 case round=>
  clear H'
  obtain⟨x9_1,rfl,HA,HK1,⟨m1,rfl⟩⟩:=hrel
  cases gk with
  |zero=>exact absurd HA.out (by simp[spec_l7Types.l0])
  |succ k1=>
   have H:=HA.out
   clear HA
   simp only[spec_l7Types.l0] at H
   by_cases c3:x9_1<(l0.length:Int)
   ·
    rw[if_pos c3] at H
    have c3b0:=decide_eq_true c3
    clear c3
    by_cases c4:0≤x9_1
    ·
     rw[if_pos c4] at H
     have c4b0:=decide_eq_true c4
     clear c4
     by_cases c5:x9_1<(l0.length:Int)
     ·
      rw[if_pos c5] at H
      have c5b0:=decide_eq_true c5
      clear c5
      replace H:=bi_ H
      obtain⟨t257,A60,H⟩:=H
      have A6:=A_ A60
      clear A60
      by_cases c7:t257=true
      ·
       subst c7
       replace H:=iT_ H
       have H':=A_ H
       clear H
       have p256:0≤(x9_1:Int):=od_
       have q256:x9_1<(l0.length:Int):=od_
       obtain⟨ad256,e256,hx256_0⟩:=Kd.at_int HR0.out x9_1 p256 q256
       cases e256
       replace p256:=eq_true p256
       replace q256:=eq_true q256
       go_wp2_with (first|((with_reducible refine gc_ 28 rfl ?_);refine gn_ (some 14) Try.func28 (spec_l6Type.calls (rd l0 x9_1) true _ A6.out) ?_;intro nd))
       go_roundg k1
       case measure=>have:=HK1.out;omega
       case rel=>exact⟨(wrap64 (x9_1+1)),rs_,H',⟨by have:=HK1.out;omega⟩,dr_⟩
      replace c7:=Bool.eq_false_iff.mpr c7
      subst c7
      replace H:=iF_ H
      obtain rfl:=Option.some.inj H
      clear H
      have p256:0≤(x9_1:Int):=od_
      have q256:x9_1<(l0.length:Int):=od_
      obtain⟨ad256,e256,hx256_0⟩:=Kd.at_int HR0.out x9_1 p256 q256
      cases e256
      replace p256:=eq_true p256
      replace q256:=eq_true q256
      go_wp2_with (first|((with_reducible refine gc_ 28 rfl ?_);refine gn_ (some 14) Try.func28 (spec_l6Type.calls (rd l0 x9_1) false _ A6.out) ?_;intro nd))
      go_ret
      exact⟨rs_,dr_⟩
     rw[if_neg c5] at H
     exact absurd H (by simp)
    rw[if_neg c4] at H
    exact absurd H (by simp)
   rw[if_neg c3] at H
   have c3b0:=decide_eq_false c3
   clear c3
   obtain rfl:=Option.some.inj H
   clear H
   go_wp2
   go_ret
   exact⟨rs_,dr_⟩

/-! ### spec_l7Func: function 27 -/
def spec_l7Func.f (k:Nat) (l0_0:List Int) (a0_1:Int) (l0_2:List Int) (l0_3:List (S71)):Option (Bool):=(spec_l6Ends.f k l0_3).bind fun bt259=>(if bt259.2.2=true then ((spec_l7Types.f k l0_0 6).bind fun t264=>(if t264=true then ((spec_l7Types.f k l0_2 20).bind fun t265=>(if t265=true then ((spec_l6Type.f a0_1).bind fun t266=>(if t266=true then (some true) else (some (a0_1==64)))) else (some false))) else (some false))) else (some false))
theorem spec_l7Func.calls (k:Nat) (A0_0:Option Addr) (c0_0:Nat) (l0_0:List Int) (a0_1:Int) (A0_2:Option Addr) (c0_2:Nat) (l0_2:List Int) (A0_3:Option Addr) (c0_3:Nat) (l0_3:List (S71)) (r:Bool) (w:World) (hr0_0:Kd.C (Kd.int .i64) w A0_0 l0_0.length l0_0) (hc0_0:l0_0.length≤c0_0) (hr0_2:Kd.C (Kd.int .i64) w A0_2 l0_2.length l0_2) (hc0_2:l0_2.length≤c0_2) (hr0_3:Kd.C k71 w A0_3 l0_3.length l0_3) (hc0_3:l0_3.length≤c0_3) (h:spec_l7Func.f k l0_0 a0_1 l0_2 l0_3=some r):
  Calls Try.prog 27 #[.agg #[.slice A0_0 l0_0.length c0_0,.int .i64 a0_1,.slice A0_2 l0_2.length c0_2,.slice A0_3 l0_3.length c0_3]] w fun e w'=>e=.returned (.bool r)∧Below w.heap.size w w':=by
 have hu59:=Try.underlying59
 have HR0_0:=A_ hr0_0
 have HC0_0:=A_ hc0_0
 clear hr0_0 hc0_0
 have HR0_2:=A_ hr0_2
 have HC0_2:=A_ hc0_2
 clear hr0_2 hc0_2
 have HR0_3:=A_ hr0_3
 have HC0_3:=A_ hc0_3
 clear hr0_3 hc0_3
 have HB:=A_ (Below.refl w.heap.size w)
 have H:((spec_l6Ends.f k l0_3).bind fun bt259=>(if bt259.2.2=true then ((spec_l7Types.f k l0_0 6).bind fun t264=>(if t264=true then ((spec_l7Types.f k l0_2 20).bind fun t265=>(if t265=true then ((spec_l6Type.f a0_1).bind fun t266=>(if t266=true then (some true) else (some (a0_1==64)))) else (some false))) else (some false))) else (some false)))=some r:=h
 clear h
 replace H:=Option.bind_eq_some_iff.mp H
 obtain⟨⟨t259,t260,t261⟩,A20,H⟩:=H
 replace H:(if t261=true then ((spec_l7Types.f k l0_0 6).bind fun t264=>(if t264=true then ((spec_l7Types.f k l0_2 20).bind fun t265=>(if t265=true then ((spec_l6Type.f a0_1).bind fun t266=>(if t266=true then (some true) else (some (a0_1==64)))) else (some false))) else (some false))) else (some false))=some r:=H
 have A2:=A_ A20
 clear A20
 by_cases c3:t261=true
 ·
  subst c3
  replace H:=iT_ H
  replace H:=bi_ H
  obtain⟨t264,A40,H⟩:=H
  have A4:=A_ A40
  clear A40
  by_cases c5:t264=true
  ·
   subst c5
   replace H:=iT_ H
   replace H:=bi_ H
   obtain⟨t265,A60,H⟩:=H
   have A6:=A_ A60
   clear A60
   by_cases c7:t265=true
   ·
    subst c7
    replace H:=iT_ H
    replace H:=bi_ H
    obtain⟨t266,A80,H⟩:=H
    have A8:=A_ A80
    clear A80
    by_cases c9:t266=true
    ·
     subst c9
     replace H:=iT_ H
     obtain rfl:=Option.some.inj H
     clear H
     go_enter Try.func27,Try.ntmps27
     go_wp2_with (first|((with_reducible refine gd_ 1 rfl ?_);refine bx_ #[.slice A0_0 l0_0.length c0_0,.int .i64 a0_1,.slice A0_2 l0_2.length c0_2,.slice A0_3 l0_3.length c0_3] 59 ?_;intro gb258 hg w10 hbox hb;have BK258:=A_ hbox;have GW258:=gw_ hg HB;have GE258:=GW258;replace HB:=bs_ HB hb;clear hb hbox hg;obtain⟨hcz11_0,hcz11_1,hcz11_2,hcz11_3⟩:=cs4_ BK258.out;obtain⟨hfz11_0,hfz11_1,hfz11_2,hfz11_3⟩:=fz4_ BK258.out)|((with_reducible refine gc_ 40 rfl ?_);refine goesL_ (some 9) rfl rfl Try.func40 (by kernel_rfl) rfl #[.slice A0_3 l0_3.length c0_3] rfl ar ?_;(with_reducible refine(spec_l6Ends.calls k _ _ l0_3 t259 t260 true _ ?side1 ?side2 A2.out).mono ?_);(case side1=>exact cb_ HR0_3 HB);(case side2=>exact HC0_3.out);rintro e w12 ⟨v262,rfl,ho0,hb⟩;refine⟨_,rfl,?_⟩;have HO263:=A_ (Kd.R_lower ho0 (below_size (bw HB.out)));replace BK258:=kb_ BK258 hb;replace HB:=bs_ HB hb;(try clear hb);(try clear hb2);(try clear hk);(try clear hi);(try clear ho0);obtain⟨hcz13_0,hcz13_1,hcz13_2,hcz13_3⟩:=cs4_ BK258.out;obtain⟨hfz13_0,hfz13_1,hfz13_2,hfz13_3⟩:=fz4_ BK258.out)|(go_at_call 41;(with_reducible refine(spec_l7Types.calls k _ _ l0_0 6 true _ ?side1 ?side2 A4.out).mono ?_);(case side1=>exact cb_ HR0_0 HB);(case side2=>exact HC0_0.out);rintro e w' ⟨rfl,⟨nd,rfl⟩⟩)|(go_at_call 41;(with_reducible refine(spec_l7Types.calls k _ _ l0_2 20 true _ ?side1 ?side2 A6.out).mono ?_);(case side1=>exact cb_ HR0_2 HB);(case side2=>exact HC0_2.out);rintro e w' ⟨rfl,⟨nd,rfl⟩⟩)|(go_at_call 28;(with_reducible refine(spec_l6Type.calls a0_1 true _ A8.out).mono ?_);rintro e w' ⟨rfl,⟨nd,rfl⟩⟩))
     go_ret
     exact⟨rr_,bw HB.out⟩
    replace c9:=Bool.eq_false_iff.mpr c9
    subst c9
    replace H:=iF_ H
    obtain rfl:=Option.some.inj H
    clear H
    go_enter Try.func27,Try.ntmps27
    go_wp2_with (first|((with_reducible refine gd_ 1 rfl ?_);refine bx_ #[.slice A0_0 l0_0.length c0_0,.int .i64 a0_1,.slice A0_2 l0_2.length c0_2,.slice A0_3 l0_3.length c0_3] 59 ?_;intro gb258 hg w14 hbox hb;have BK258:=A_ hbox;have GW258:=gw_ hg HB;have GE258:=GW258;replace HB:=bs_ HB hb;clear hb hbox hg;obtain⟨hcz15_0,hcz15_1,hcz15_2,hcz15_3⟩:=cs4_ BK258.out;obtain⟨hfz15_0,hfz15_1,hfz15_2,hfz15_3⟩:=fz4_ BK258.out)|((with_reducible refine gc_ 40 rfl ?_);refine goesL_ (some 9) rfl rfl Try.func40 (by kernel_rfl) rfl #[.slice A0_3 l0_3.length c0_3] rfl ar ?_;(with_reducible refine(spec_l6Ends.calls k _ _ l0_3 t259 t260 true _ ?side1 ?side2 A2.out).mono ?_);(case side1=>exact cb_ HR0_3 HB);(case side2=>exact HC0_3.out);rintro e w16 ⟨v262,rfl,ho0,hb⟩;refine⟨_,rfl,?_⟩;have HO263:=A_ (Kd.R_lower ho0 (below_size (bw HB.out)));replace BK258:=kb_ BK258 hb;replace HB:=bs_ HB hb;(try clear hb);(try clear hb2);(try clear hk);(try clear hi);(try clear ho0);obtain⟨hcz17_0,hcz17_1,hcz17_2,hcz17_3⟩:=cs4_ BK258.out;obtain⟨hfz17_0,hfz17_1,hfz17_2,hfz17_3⟩:=fz4_ BK258.out)|(go_at_call 41;(with_reducible refine(spec_l7Types.calls k _ _ l0_0 6 true _ ?side1 ?side2 A4.out).mono ?_);(case side1=>exact cb_ HR0_0 HB);(case side2=>exact HC0_0.out);rintro e w' ⟨rfl,⟨nd,rfl⟩⟩)|(go_at_call 41;(with_reducible refine(spec_l7Types.calls k _ _ l0_2 20 true _ ?side1 ?side2 A6.out).mono ?_);(case side1=>exact cb_ HR0_2 HB);(case side2=>exact HC0_2.out);rintro e w' ⟨rfl,⟨nd,rfl⟩⟩)|(go_at_call 28;(with_reducible refine(spec_l6Type.calls a0_1 false _ A8.out).mono ?_);rintro e w' ⟨rfl,⟨nd,rfl⟩⟩))
    go_ret
    exact⟨rr_,bw HB.out⟩
   replace c7:=Bool.eq_false_iff.mpr c7
   subst c7
   replace H:=iF_ H
   obtain rfl:=Option.some.inj H
   clear H
   go_enter Try.func27,Try.ntmps27
   go_wp2_with (first|((with_reducible refine gd_ 1 rfl ?_);refine bx_ #[.slice A0_0 l0_0.length c0_0,.int .i64 a0_1,.slice A0_2 l0_2.length c0_2,.slice A0_3 l0_3.length c0_3] 59 ?_;intro gb258 hg w18 hbox hb;have BK258:=A_ hbox;have GW258:=gw_ hg HB;have GE258:=GW258;replace HB:=bs_ HB hb;clear hb hbox hg;obtain⟨hcz19_0,hcz19_1,hcz19_2,hcz19_3⟩:=cs4_ BK258.out;obtain⟨hfz19_0,hfz19_1,hfz19_2,hfz19_3⟩:=fz4_ BK258.out)|((with_reducible refine gc_ 40 rfl ?_);refine goesL_ (some 9) rfl rfl Try.func40 (by kernel_rfl) rfl #[.slice A0_3 l0_3.length c0_3] rfl ar ?_;(with_reducible refine(spec_l6Ends.calls k _ _ l0_3 t259 t260 true _ ?side1 ?side2 A2.out).mono ?_);(case side1=>exact cb_ HR0_3 HB);(case side2=>exact HC0_3.out);rintro e w20 ⟨v262,rfl,ho0,hb⟩;refine⟨_,rfl,?_⟩;have HO263:=A_ (Kd.R_lower ho0 (below_size (bw HB.out)));replace BK258:=kb_ BK258 hb;replace HB:=bs_ HB hb;(try clear hb);(try clear hb2);(try clear hk);(try clear hi);(try clear ho0);obtain⟨hcz21_0,hcz21_1,hcz21_2,hcz21_3⟩:=cs4_ BK258.out;obtain⟨hfz21_0,hfz21_1,hfz21_2,hfz21_3⟩:=fz4_ BK258.out)|(go_at_call 41;(with_reducible refine(spec_l7Types.calls k _ _ l0_0 6 true _ ?side1 ?side2 A4.out).mono ?_);(case side1=>exact cb_ HR0_0 HB);(case side2=>exact HC0_0.out);rintro e w' ⟨rfl,⟨nd,rfl⟩⟩)|(go_at_call 41;(with_reducible refine(spec_l7Types.calls k _ _ l0_2 20 false _ ?side1 ?side2 A6.out).mono ?_);(case side1=>exact cb_ HR0_2 HB);(case side2=>exact HC0_2.out);rintro e w' ⟨rfl,⟨nd,rfl⟩⟩))
   go_ret
   exact⟨rr_,bw HB.out⟩
  replace c5:=Bool.eq_false_iff.mpr c5
  subst c5
  replace H:=iF_ H
  obtain rfl:=Option.some.inj H
  clear H
  go_enter Try.func27,Try.ntmps27
  go_wp2_with (first|((with_reducible refine gd_ 1 rfl ?_);refine bx_ #[.slice A0_0 l0_0.length c0_0,.int .i64 a0_1,.slice A0_2 l0_2.length c0_2,.slice A0_3 l0_3.length c0_3] 59 ?_;intro gb258 hg w22 hbox hb;have BK258:=A_ hbox;have GW258:=gw_ hg HB;have GE258:=GW258;replace HB:=bs_ HB hb;clear hb hbox hg;obtain⟨hcz23_0,hcz23_1,hcz23_2,hcz23_3⟩:=cs4_ BK258.out;obtain⟨hfz23_0,hfz23_1,hfz23_2,hfz23_3⟩:=fz4_ BK258.out)|((with_reducible refine gc_ 40 rfl ?_);refine goesL_ (some 9) rfl rfl Try.func40 (by kernel_rfl) rfl #[.slice A0_3 l0_3.length c0_3] rfl ar ?_;(with_reducible refine(spec_l6Ends.calls k _ _ l0_3 t259 t260 true _ ?side1 ?side2 A2.out).mono ?_);(case side1=>exact cb_ HR0_3 HB);(case side2=>exact HC0_3.out);rintro e w24 ⟨v262,rfl,ho0,hb⟩;refine⟨_,rfl,?_⟩;have HO263:=A_ (Kd.R_lower ho0 (below_size (bw HB.out)));replace BK258:=kb_ BK258 hb;replace HB:=bs_ HB hb;(try clear hb);(try clear hb2);(try clear hk);(try clear hi);(try clear ho0);obtain⟨hcz25_0,hcz25_1,hcz25_2,hcz25_3⟩:=cs4_ BK258.out;obtain⟨hfz25_0,hfz25_1,hfz25_2,hfz25_3⟩:=fz4_ BK258.out)|(go_at_call 41;(with_reducible refine(spec_l7Types.calls k _ _ l0_0 6 false _ ?side1 ?side2 A4.out).mono ?_);(case side1=>exact cb_ HR0_0 HB);(case side2=>exact HC0_0.out);rintro e w' ⟨rfl,⟨nd,rfl⟩⟩))
  go_ret
  exact⟨rr_,bw HB.out⟩
 replace c3:=Bool.eq_false_iff.mpr c3
 subst c3
 replace H:=iF_ H
 obtain rfl:=Option.some.inj H
 clear H
 go_enter Try.func27,Try.ntmps27
 go_wp2_with (first|((with_reducible refine gd_ 1 rfl ?_);refine bx_ #[.slice A0_0 l0_0.length c0_0,.int .i64 a0_1,.slice A0_2 l0_2.length c0_2,.slice A0_3 l0_3.length c0_3] 59 ?_;intro gb258 hg w26 hbox hb;have BK258:=A_ hbox;have GW258:=gw_ hg HB;have GE258:=GW258;replace HB:=bs_ HB hb;clear hb hbox hg;obtain⟨hcz27_0,hcz27_1,hcz27_2,hcz27_3⟩:=cs4_ BK258.out;obtain⟨hfz27_0,hfz27_1,hfz27_2,hfz27_3⟩:=fz4_ BK258.out)|((with_reducible refine gc_ 40 rfl ?_);refine goesL_ (some 9) rfl rfl Try.func40 (by kernel_rfl) rfl #[.slice A0_3 l0_3.length c0_3] rfl ar ?_;(with_reducible refine(spec_l6Ends.calls k _ _ l0_3 t259 t260 false _ ?side1 ?side2 A2.out).mono ?_);(case side1=>exact cb_ HR0_3 HB);(case side2=>exact HC0_3.out);rintro e w28 ⟨v262,rfl,ho0,hb⟩;refine⟨_,rfl,?_⟩;have HO263:=A_ (Kd.R_lower ho0 (below_size (bw HB.out)));replace BK258:=kb_ BK258 hb;replace HB:=bs_ HB hb;(try clear hb);(try clear hb2);(try clear hk);(try clear hi);(try clear ho0)))
 go_ret
 exact⟨rr_,bw HB.out⟩

/-! ### spec_GoodShape: function 17 -/
mutual
def spec_GoodShape.j0:Nat→Bool→List (S59)→List (S63)→Bool→Int→Int→Int→Option (Bool)
 |0,_,_,_,_,_,_,_=>none
 |k+1,x16,x268000,x268001,x268002,x268003,x268004,x268005=>if x16=true then (some false) else (spec_GoodShape.l0 k x268000 (x268000.length:Int) 0 x268000 x268001 x268002 x268003 x268004 x268005)
def spec_GoodShape.l0:Nat→List (S59)→Int→Int→List (S59)→List (S63)→Bool→Int→Int→Int→Option (Bool)
 |0,_,_,_,_,_,_,_,_,_=>none
 |k+1,x18,x19,x20,x268000,x268001,x268002,x268003,x268004,x268005=>if x20<x19 then (if 0≤x20 then (if x20<(x18.length:Int) then ((spec_l7Func.f k ((rd_T59 x18 x20).f0) ((rd_T59 x18 x20).f1) ((rd_T59 x18 x20).f2) ((rd_T59 x18 x20).f3)).bind fun t270=>(if t270=true then (spec_GoodShape.l0 k x18 x19 (wrap64 (x20+1)) x268000 x268001 x268002 x268003 x268004 x268005) else (some false))) else (none)) else (none)) else (spec_GoodShape.l1 k x268001 (x268001.length:Int) 0 x268000 x268001 x268002 x268003 x268004 x268005)
def spec_GoodShape.l1:Nat→List (S63)→Int→Int→List (S59)→List (S63)→Bool→Int→Int→Int→Option (Bool)
 |0,_,_,_,_,_,_,_,_,_=>none
 |k+1,x29,x30,x31,x268000,x268001,x268002,x268003,x268004,x268005=>if x31<x30 then (if 0≤x31 then (if x31<(x29.length:Int) then ((spec_l6Type.f ((rd_T63 x29 x31).f0)).bind fun t273=>(if t273=true then (if ((rd_T63 x29 x31).f0)=126 then (spec_GoodShape.l1 k x29 x30 (wrap64 (x31+1)) x268000 x268001 x268002 x268003 x268004 x268005) else (if ((rd_T63 x29 x31).f2) > 4294967295 then (some false) else (spec_GoodShape.l1 k x29 x30 (wrap64 (x31+1)) x268000 x268001 x268002 x268003 x268004 x268005))) else (some false))) else (none)) else (none)) else (if x268002=true then ((spec_l1In.f x268004 0 8).bind fun t274=>(if t274=true then ((spec_l1In.f x268003 0 x268004).bind fun t275=>(if t275=true then (spec_GoodShape.j3 k false x268000 x268001 x268002 x268003 x268004 x268005) else (spec_GoodShape.j3 k true x268000 x268001 x268002 x268003 x268004 x268005))) else (spec_GoodShape.j3 k true x268000 x268001 x268002 x268003 x268004 x268005))) else (if x268003=0 then (spec_GoodShape.j3 k (x268004 !=0) x268000 x268001 x268002 x268003 x268004 x268005) else (spec_GoodShape.j3 k true x268000 x268001 x268002 x268003 x268004 x268005)))
def spec_GoodShape.j3:Nat→Bool→List (S59)→List (S63)→Bool→Int→Int→Int→Option (Bool)
 |0,_,_,_,_,_,_,_=>none
 |k+1,x80,x268000,x268001,x268002,x268003,x268004,x268005=>if x80=true then (some false) else (if x268005=(-1) then (some true) else ((spec_l1In.f x268005 0 (wrap64 ((x268000.length:Int) - 1))).bind fun t276=>(if t276=true then (if 0≤x268005 then (if x268005<(x268000.length:Int) then (if (((rd_T59 x268000 x268005).f0).length:Int)=0 then (some (((rd_T59 x268000 x268005).f1)==64)) else (some false)) else (none)) else (none)) else (some false))))
end
def spec_GoodShape.f (k:Nat) (l0_0:List (S59)) (l0_1:List (S63)) (a0_2:Bool) (a0_3:Int) (a0_4:Int) (a0_5:Int):Option (Bool):=if (l0_0.length:Int) > 10 then (spec_GoodShape.j0 k true l0_0 l0_1 a0_2 a0_3 a0_4 a0_5) else (spec_GoodShape.j0 k (decide ((l0_1.length:Int) > 6)) l0_0 l0_1 a0_2 a0_3 a0_4 a0_5)
theorem spec_GoodShape.calls (k:Nat) (A0_0:Option Addr) (c0_0:Nat) (l0_0:List (S59)) (A0_1:Option Addr) (c0_1:Nat) (l0_1:List (S63)) (a0_2:Bool) (a0_3:Int) (a0_4:Int) (a0_5:Int) (r:Bool) (w:World) (hr0_0:Kd.C k59 w A0_0 l0_0.length l0_0) (hc0_0:l0_0.length≤c0_0) (hr0_1:Kd.C k63 w A0_1 l0_1.length l0_1) (hc0_1:l0_1.length≤c0_1) (h:spec_GoodShape.f k l0_0 l0_1 a0_2 a0_3 a0_4 a0_5=some r):
  Calls Try.prog 17 #[.agg #[.slice A0_0 l0_0.length c0_0,.slice A0_1 l0_1.length c0_1,.bool a0_2,.int .i64 a0_3,.int .i64 a0_4,.int .i64 a0_5]] w fun e w'=>e=.returned (.bool r)∧Below w.heap.size w w':=by
 have hu32:=Try.underlying32
 have hu59:=Try.underlying59
 have hu63:=Try.underlying63
 have HR0_0:=A_ hr0_0
 have HC0_0:=A_ hc0_0
 clear hr0_0 hc0_0
 have HR0_1:=A_ hr0_1
 have HC0_1:=A_ hc0_1
 clear hr0_1 hc0_1
 have HB:=A_ (Below.refl w.heap.size w)
 have H:(if (l0_0.length:Int) > 10 then (spec_GoodShape.j0 k true l0_0 l0_1 a0_2 a0_3 a0_4 a0_5) else (spec_GoodShape.j0 k (decide ((l0_1.length:Int) > 6)) l0_0 l0_1 a0_2 a0_3 a0_4 a0_5))=some r:=h
 clear h
 have HC2:=A_ H
 clear H
 go_enter Try.func17,Try.ntmps17
 go_upto_region 1 with (first|((with_reducible refine gd_ 1 rfl ?_);(try (refine gate_guard (by rfl) ?_;dsimp only));refine bx_ #[.slice A0_0 l0_0.length c0_0,.slice A0_1 l0_1.length c0_1,.bool a0_2,.int .i64 a0_3,.int .i64 a0_4,.int .i64 a0_5] 32 ?_;intro gb267 hg w3 hbox hb;have BK267:=A_ hbox;have GW267:=gw_ hg HB;have GE267:=GW267;replace HB:=bs_ HB hb;clear hb hbox hg))
 (try simp only[Act.put,List.setIfInBounds_toArray,List.set_cons_zero,List.set_cons_succ])
 go_cut [16] (fun v16 wc=>∃ (kq:Nat) (x16_1:Bool),v16=.bool x16_1∧Aside0 (spec_GoodShape.j0 kq x16_1 l0_0 l0_1 a0_2 a0_3 a0_4 a0_5=some r)∧Aside0 (kq≤k)∧Aside0 (wc.heap[gb267]? =some (.cells #[(.slice A0_0 l0_0.length c0_0),(.slice A0_1 l0_1.length c0_1),.bool a0_2,.int .i64 a0_3,.int .i64 a0_4,.int .i64 a0_5] 32 (0,0)))∧Aside0 (Below w.heap.size w wc))
 case first=>
  have H:=HC2.out
  clear HC2
  by_cases c4:(l0_0.length:Int) > 10
  ·
   rw[if_pos c4] at H
   have c4b0:=decide_eq_true c4
   have c4b1:decide (10<l0_0.length)=true:=decide_eq_true (by omega)
   clear c4
   (first|rw[c4b0]|(simp only[i64_w,i32_w];rw[c4b0])|skip)
   have H':=A_ H
   clear H
   obtain⟨hcz5_0,hcz5_1,hcz5_2,hcz5_3,hcz5_4,hcz5_5⟩:=cs6_ BK267.out
   obtain⟨hfz5_0,hfz5_1,hfz5_2,hfz5_3,hfz5_4,hfz5_5⟩:=fz6_ BK267.out
   go_wp2
   go_meet
   case rel=>exact⟨_,(true),rs_,H',⟨by first|omega|exact Nat.le_refl _⟩,⟨bk BK267.out⟩,⟨bw HB.out⟩⟩
  rw[if_neg c4] at H
  have c4b0:=decide_eq_false c4
  have c4b1:decide (10<l0_0.length)=false:=decide_eq_false (by omega)
  clear c4
  (first|rw[c4b0]|(simp only[i64_w,i32_w];rw[c4b0])|skip)
  have H':=A_ H
  clear H
  obtain⟨hcz6_0,hcz6_1,hcz6_2,hcz6_3,hcz6_4,hcz6_5⟩:=cs6_ BK267.out
  obtain⟨hfz6_0,hfz6_1,hfz6_2,hfz6_3,hfz6_4,hfz6_5⟩:=fz6_ BK267.out
  go_wp2
  go_meet
  case rel=>exact⟨_,(decide ((l0_1.length:Int) > 6)),rs_,H',⟨by first|omega|exact Nat.le_refl _⟩,⟨bk BK267.out⟩,⟨bw HB.out⟩⟩
 case rest=>
  clear HC2
  obtain⟨kq,x16_1,rfl,HA,HJ1,BK267,HB⟩:=hcut
  cases kq with
  |zero=>exact absurd HA.out (by simp[spec_GoodShape.j0])
  |succ kj1=>
   have H:=HA.out
   clear HA
   simp only[spec_GoodShape.j0] at H
   by_cases c7:x16_1=true
   ·
    subst c7
    replace H:=iT_ H
    obtain rfl:=Option.some.inj H
    clear H
    go_wp2
    go_ret
    exact⟨rr_,bw HB.out⟩
   replace c7:=Bool.eq_false_iff.mpr c7
   subst c7
   replace H:=iF_ H
   have H':=A_ H
   clear H
   obtain⟨hcz8_0,hcz8_1,hcz8_2,hcz8_3,hcz8_4,hcz8_5⟩:=cs6_ BK267.out
   obtain⟨hfz8_0,hfz8_1,hfz8_2,hfz8_3,hfz8_4,hfz8_5⟩:=fz6_ BK267.out
   go_wp2
   (try simp only[Act.put,List.setIfInBounds_toArray,List.set_cons_zero,List.set_cons_succ])
   go_loopg [20] kj1 (fun kq v20 w'=>∃ (x20_2:Int),v20=.int .i64 x20_2∧Aside0 (spec_GoodShape.l0 kq l0_0 (l0_0.length:Int) x20_2 l0_0 l0_1 a0_2 a0_3 a0_4 a0_5=some r)∧Aside0 (kq≤kj1)∧Aside0 (w'.heap[gb267]? =some (.cells #[(.slice A0_0 l0_0.length c0_0),(.slice A0_1 l0_1.length c0_1),.bool a0_2,.int .i64 a0_3,.int .i64 a0_4,.int .i64 a0_5] 32 (0,0)))∧Aside0 (Below w.heap.size w w'))
   case atStart=>exact⟨(0),rs_,H',⟨Nat.le_refl _⟩,⟨bk BK267.out⟩,⟨bw HB.out⟩⟩
   case round=>
    clear H'
    try clear c7 hcz8_0 hcz8_1 hcz8_2 hcz8_3 hcz8_4 hcz8_5 hfz8_0 hfz8_1 hfz8_2 hfz8_3 hfz8_4 hfz8_5
    obtain⟨x20_2,rfl,HA,HK2,BK267,HB⟩:=hrel
    cases gk with
    |zero=>exact absurd HA.out (by simp[spec_GoodShape.l0])
    |succ k2=>
     have H:=HA.out
     clear HA
     simp only[spec_GoodShape.l0] at H
     by_cases c9:x20_2<(l0_0.length:Int)
     ·
      rw[if_pos c9] at H
      have c9b0:=decide_eq_true c9
      clear c9
      by_cases c10:0≤x20_2
      ·
       rw[if_pos c10] at H
       have c10b0:=decide_eq_true c10
       clear c10
       by_cases c11:x20_2<(l0_0.length:Int)
       ·
        rw[if_pos c11] at H
        have c11b0:=decide_eq_true c11
        clear c11
        replace H:=bi_ H
        obtain⟨t270,A120,H⟩:=H
        have A12:=A_ A120
        clear A120
        by_cases c13:t270=true
        ·
         subst c13
         replace H:=iT_ H
         have H':=A_ H
         clear H
         have p268:0≤(x20_2:Int):=od_
         have q268:x20_2<(l0_0.length:Int):=od_
         obtain⟨ad268,A268_0,c268_0,A268_2,c268_2,A268_3,c268_3,e268,hx268_0,hx268_1,hx268_2,hx268_3,hl268_0,hi268_0,hl268_2,hi268_2,hl268_3,hi268_3⟩:=at_T59 HR0_0.out x20_2 p268 q268
         cases e268
         replace hx268_0:=cl_ HB.out hx268_0
         replace hx268_1:=cl_ HB.out hx268_1
         replace hx268_2:=cl_ HB.out hx268_2
         replace hx268_3:=cl_ HB.out hx268_3
         have HR268_0:=A_ hi268_0
         have HC268_0:=A_ hl268_0
         clear hi268_0 hl268_0
         have HR268_2:=A_ hi268_2
         have HC268_2:=A_ hl268_2
         clear hi268_2 hl268_2
         have HR268_3:=A_ hi268_3
         have HC268_3:=A_ hl268_3
         clear hi268_3 hl268_3
         replace p268:=eq_true p268
         replace q268:=eq_true q268
         go_wp2_with (first|((with_reducible refine gd_ 4 rfl ?_);(try (refine gate_guard (by rfl) ?_;dsimp only));refine bx_ #[.slice none 0 0,.int .i64 0,.slice none 0 0,.slice none 0 0] 59 ?_;intro gb269 hg w14 hbox hb;have BK269:=A_ hbox;have GW269:=gw_ hg HB;have GE269:=GW269;obtain⟨NB267_269,NB269_267⟩:=nb_ BK267 hg;replace BK267:=kb_ BK267 hb;replace HB:=bs_ HB hb;clear hb hbox hg;have hnb15:=NB269_267.out;have hnc15:=NB267_269.out;obtain⟨hcz16_0,hcz16_1,hcz16_2,hcz16_3⟩:=cs4_ BK269.out;obtain⟨hfz16_0,hfz16_1,hfz16_2,hfz16_3⟩:=fz4_ BK269.out)|((with_reducible refine gc_ 27 rfl ?_);refine goesL_ (some 25) rfl rfl Try.func27 (by kernel_rfl) rfl #[.agg #[.slice A268_0 ((rd_T59 l0_0 x20_2).f0).length c268_0,.int .i64 ((rd_T59 l0_0 x20_2).f1),.slice A268_2 ((rd_T59 l0_0 x20_2).f2).length c268_2,.slice A268_3 ((rd_T59 l0_0 x20_2).f3).length c268_3]] rfl ar ?_;(with_reducible refine(spec_l7Func.calls k2 _ _ ((rd_T59 l0_0 x20_2).f0) ((rd_T59 l0_0 x20_2).f1) _ _ ((rd_T59 l0_0 x20_2).f2) _ _ ((rd_T59 l0_0 x20_2).f3) true _ ?side1 ?side2 ?side3 ?side4 ?side5 ?side6 A12.out).mono ?_);(case side1=>exact Kd.C_below HR268_0.out (bw HB.out));(case side2=>exact HC268_0.out);(case side3=>exact Kd.C_below HR268_2.out (bw HB.out));(case side4=>exact HC268_2.out);(case side5=>exact Kd.C_below HR268_3.out (bw HB.out));(case side6=>exact HC268_3.out);rintro e w17 ⟨rfl,hb⟩;refine⟨_,rfl,?_⟩;replace BK267:=A_ (blk_below (g:=gb267) (o:=.cells #[.slice (some ad268) l0_0.length c0_0,.slice A0_1 l0_1.length c0_1,.bool a0_2,.int .i64 a0_3,.int .i64 a0_4,.int .i64 a0_5] 32 (0,0)) (by refine blk_far ?_ NB267_269.out _;refine blk_far ?_ NB267_269.out _;refine blk_far ?_ NB267_269.out _;refine blk_far ?_ NB267_269.out _;(with_reducible repeat (first|refine blk_drewN ?_ _|refine blk_drew ?_|refine blk_alloc ?_ _));exact BK267.out) hb);replace BK269:=A_ (blk_below (g:=gb269) (o:=.cells #[.slice A268_0 ((rd_T59 l0_0 x20_2).f0).length c268_0,.int .i64 ((rd_T59 l0_0 x20_2).f1),.slice A268_2 ((rd_T59 l0_0 x20_2).f2).length c268_2,.slice A268_3 ((rd_T59 l0_0 x20_2).f3).length c268_3] 59 (0,0)) (by refine blk_put (cs:=#[.slice A268_0 ((rd_T59 l0_0 x20_2).f0).length c268_0,.int .i64 ((rd_T59 l0_0 x20_2).f1),.slice A268_2 ((rd_T59 l0_0 x20_2).f2).length c268_2,.slice none 0 0]) ?_ 3 _ rfl;refine blk_put (cs:=#[.slice A268_0 ((rd_T59 l0_0 x20_2).f0).length c268_0,.int .i64 ((rd_T59 l0_0 x20_2).f1),.slice none 0 0,.slice none 0 0]) ?_ 2 _ rfl;refine blk_put (cs:=#[.slice A268_0 ((rd_T59 l0_0 x20_2).f0).length c268_0,.int .i64 0,.slice none 0 0,.slice none 0 0]) ?_ 1 _ rfl;refine blk_put (cs:=#[.slice none 0 0,.int .i64 0,.slice none 0 0,.slice none 0 0]) ?_ 0 _ rfl;(with_reducible repeat (first|refine blk_drewN ?_ _|refine blk_drew ?_|refine blk_alloc ?_ _));exact BK269.out) hb);replace HB:=bs_ HB hb;(try clear hb)))
         go_roundg k2
         case measure=>have:=HJ1.out;have:=HK2.out;omega
         case rel=>exact⟨(wrap64 (x20_2+1)),rs_,H',⟨by have:=HJ1.out;have:=HK2.out;omega⟩,⟨bk BK267.out⟩,⟨bw HB.out⟩⟩
        replace c13:=Bool.eq_false_iff.mpr c13
        subst c13
        replace H:=iF_ H
        obtain rfl:=Option.some.inj H
        clear H
        have p268:0≤(x20_2:Int):=od_
        have q268:x20_2<(l0_0.length:Int):=od_
        obtain⟨ad268,A268_0,c268_0,A268_2,c268_2,A268_3,c268_3,e268,hx268_0,hx268_1,hx268_2,hx268_3,hl268_0,hi268_0,hl268_2,hi268_2,hl268_3,hi268_3⟩:=at_T59 HR0_0.out x20_2 p268 q268
        cases e268
        replace hx268_0:=cl_ HB.out hx268_0
        replace hx268_1:=cl_ HB.out hx268_1
        replace hx268_2:=cl_ HB.out hx268_2
        replace hx268_3:=cl_ HB.out hx268_3
        have HR268_0:=A_ hi268_0
        have HC268_0:=A_ hl268_0
        clear hi268_0 hl268_0
        have HR268_2:=A_ hi268_2
        have HC268_2:=A_ hl268_2
        clear hi268_2 hl268_2
        have HR268_3:=A_ hi268_3
        have HC268_3:=A_ hl268_3
        clear hi268_3 hl268_3
        replace p268:=eq_true p268
        replace q268:=eq_true q268
        go_wp2_with (first|((with_reducible refine gd_ 4 rfl ?_);(try (refine gate_guard (by rfl) ?_;dsimp only));refine bx_ #[.slice none 0 0,.int .i64 0,.slice none 0 0,.slice none 0 0] 59 ?_;intro gb269 hg w18 hbox hb;have BK269:=A_ hbox;have GW269:=gw_ hg HB;have GE269:=GW269;obtain⟨NB267_269,NB269_267⟩:=nb_ BK267 hg;replace BK267:=kb_ BK267 hb;replace HB:=bs_ HB hb;clear hb hbox hg;have hnb19:=NB269_267.out;have hnc19:=NB267_269.out;obtain⟨hcz20_0,hcz20_1,hcz20_2,hcz20_3⟩:=cs4_ BK269.out;obtain⟨hfz20_0,hfz20_1,hfz20_2,hfz20_3⟩:=fz4_ BK269.out)|((with_reducible refine gc_ 27 rfl ?_);refine goesL_ (some 25) rfl rfl Try.func27 (by kernel_rfl) rfl #[.agg #[.slice A268_0 ((rd_T59 l0_0 x20_2).f0).length c268_0,.int .i64 ((rd_T59 l0_0 x20_2).f1),.slice A268_2 ((rd_T59 l0_0 x20_2).f2).length c268_2,.slice A268_3 ((rd_T59 l0_0 x20_2).f3).length c268_3]] rfl ar ?_;(with_reducible refine(spec_l7Func.calls k2 _ _ ((rd_T59 l0_0 x20_2).f0) ((rd_T59 l0_0 x20_2).f1) _ _ ((rd_T59 l0_0 x20_2).f2) _ _ ((rd_T59 l0_0 x20_2).f3) false _ ?side1 ?side2 ?side3 ?side4 ?side5 ?side6 A12.out).mono ?_);(case side1=>exact Kd.C_below HR268_0.out (bw HB.out));(case side2=>exact HC268_0.out);(case side3=>exact Kd.C_below HR268_2.out (bw HB.out));(case side4=>exact HC268_2.out);(case side5=>exact Kd.C_below HR268_3.out (bw HB.out));(case side6=>exact HC268_3.out);rintro e w21 ⟨rfl,hb⟩;refine⟨_,rfl,?_⟩;replace BK267:=A_ (blk_below (g:=gb267) (o:=.cells #[.slice (some ad268) l0_0.length c0_0,.slice A0_1 l0_1.length c0_1,.bool a0_2,.int .i64 a0_3,.int .i64 a0_4,.int .i64 a0_5] 32 (0,0)) (by refine blk_far ?_ NB267_269.out _;refine blk_far ?_ NB267_269.out _;refine blk_far ?_ NB267_269.out _;refine blk_far ?_ NB267_269.out _;(with_reducible repeat (first|refine blk_drewN ?_ _|refine blk_drew ?_|refine blk_alloc ?_ _));exact BK267.out) hb);replace BK269:=A_ (blk_below (g:=gb269) (o:=.cells #[.slice A268_0 ((rd_T59 l0_0 x20_2).f0).length c268_0,.int .i64 ((rd_T59 l0_0 x20_2).f1),.slice A268_2 ((rd_T59 l0_0 x20_2).f2).length c268_2,.slice A268_3 ((rd_T59 l0_0 x20_2).f3).length c268_3] 59 (0,0)) (by refine blk_put (cs:=#[.slice A268_0 ((rd_T59 l0_0 x20_2).f0).length c268_0,.int .i64 ((rd_T59 l0_0 x20_2).f1),.slice A268_2 ((rd_T59 l0_0 x20_2).f2).length c268_2,.slice none 0 0]) ?_ 3 _ rfl;refine blk_put (cs:=#[.slice A268_0 ((rd_T59 l0_0 x20_2).f0).length c268_0,.int .i64 ((rd_T59 l0_0 x20_2).f1),.slice none 0 0,.slice none 0 0]) ?_ 2 _ rfl;refine blk_put (cs:=#[.slice A268_0 ((rd_T59 l0_0 x20_2).f0).length c268_0,.int .i64 0,.slice none 0 0,.slice none 0 0]) ?_ 1 _ rfl;refine blk_put (cs:=#[.slice none 0 0,.int .i64 0,.slice none 0 0,.slice none 0 0]) ?_ 0 _ rfl;(with_reducible repeat (first|refine blk_drewN ?_ _|refine blk_drew ?_|refine blk_alloc ?_ _));exact BK269.out) hb);replace HB:=bs_ HB hb;(try clear hb)))
        go_ret
        exact⟨rr_,bw HB.out⟩
       rw[if_neg c11] at H
       exact absurd H (by simp)
      rw[if_neg c10] at H
      exact absurd H (by simp)
     rw[if_neg c9] at H
     have c9b0:=decide_eq_false c9
     clear c9
     have H':=A_ H
     clear H
     obtain⟨hcz22_0,hcz22_1,hcz22_2,hcz22_3,hcz22_4,hcz22_5⟩:=cs6_ BK267.out
     obtain⟨hfz22_0,hfz22_1,hfz22_2,hfz22_3,hfz22_4,hfz22_5⟩:=fz6_ BK267.out
     go_wp2
     (try simp only[Act.put,List.setIfInBounds_toArray,List.set_cons_zero,List.set_cons_succ])
     go_loopg [31] k2 (fun kq v31 w'=>∃ (x31_3:Int),v31=.int .i64 x31_3∧Aside0 (spec_GoodShape.l1 kq l0_1 (l0_1.length:Int) x31_3 l0_0 l0_1 a0_2 a0_3 a0_4 a0_5=some r)∧Aside0 (kq≤k2)∧Aside0 (w'.heap[gb267]? =some (.cells #[(.slice A0_0 l0_0.length c0_0),(.slice A0_1 l0_1.length c0_1),.bool a0_2,.int .i64 a0_3,.int .i64 a0_4,.int .i64 a0_5] 32 (0,0)))∧Aside0 (Below w.heap.size w w'))
     case atStart=>exact⟨(0),rs_,H',⟨Nat.le_refl _⟩,⟨bk BK267.out⟩,⟨bw HB.out⟩⟩
     case round=>
      clear H'
      try clear c7 c9 c9b0 hcz22_0 hcz22_1 hcz22_2 hcz22_3 hcz22_4 hcz22_5 hcz8_0 hcz8_1 hcz8_2 hcz8_3 hcz8_4 hcz8_5 hfz22_0 hfz22_1 hfz22_2 hfz22_3 hfz22_4 hfz22_5 hfz8_0 hfz8_1 hfz8_2 hfz8_3 hfz8_4 hfz8_5
      obtain⟨x31_3,rfl,HA,HK3,BK267,HB⟩:=hrel
      cases gk with
      |zero=>exact absurd HA.out (by simp[spec_GoodShape.l1])
      |succ k3=>
       have H:=HA.out
       clear HA
       simp only[spec_GoodShape.l1] at H
       by_cases c23:x31_3<(l0_1.length:Int)
       ·
        rw[if_pos c23] at H
        have c23b0:=decide_eq_true c23
        clear c23
        by_cases c24:0≤x31_3
        ·
         rw[if_pos c24] at H
         have c24b0:=decide_eq_true c24
         clear c24
         by_cases c25:x31_3<(l0_1.length:Int)
         ·
          rw[if_pos c25] at H
          have c25b0:=decide_eq_true c25
          clear c25
          replace H:=bi_ H
          obtain⟨t273,A260,H⟩:=H
          have A26:=A_ A260
          clear A260
          by_cases c27:t273=true
          ·
           subst c27
           replace H:=iT_ H
           by_cases c28:((rd_T63 l0_1 x31_3).f0)=126
           ·
            rw[if_pos c28] at H
            obtain⟨c28b0,c28b1⟩:=eT_ c28
            clear c28
            have H':=A_ H
            clear H
            have p271:0≤(x31_3:Int):=od_
            have q271:x31_3<(l0_1.length:Int):=od_
            obtain⟨ad271,e271,hx271_0,hx271_1,hx271_2⟩:=at_T63 HR0_1.out x31_3 p271 q271
            cases e271
            replace hx271_0:=cl_ HB.out hx271_0
            replace hx271_1:=cl_ HB.out hx271_1
            replace hx271_2:=cl_ HB.out hx271_2
            replace p271:=eq_true p271
            replace q271:=eq_true q271
            go_wp2_with (first|((with_reducible refine gd_ 6 rfl ?_);(try (refine gate_guard (by rfl) ?_;dsimp only));refine bx_ #[.int .i64 0,.bool false,.int .u64 0] 63 ?_;intro gb272 hg w29 hbox hb;have BK272:=A_ hbox;have GW272:=gw_ hg HB;have GE272:=GW272;obtain⟨NB267_272,NB272_267⟩:=nb_ BK267 hg;replace BK267:=kb_ BK267 hb;replace HB:=bs_ HB hb;clear hb hbox hg;have hnb30:=NB272_267.out;have hnc30:=NB267_272.out;obtain⟨hcz31_0,hcz31_1,hcz31_2⟩:=cs3_ BK272.out;obtain⟨hfz31_0,hfz31_1,hfz31_2⟩:=fz3_ BK272.out)|((with_reducible refine gc_ 28 rfl ?_);refine gn_ (some 37) Try.func28 (spec_l6Type.calls ((rd_T63 l0_1 x31_3).f0) true _ A26.out) ?_;intro nd))
            go_roundg k3
            case measure=>have:=HJ1.out;have:=HK2.out;have:=HK3.out;omega
            case rel=>exact⟨(wrap64 (x31_3+1)),rs_,H',⟨by have:=HJ1.out;have:=HK2.out;have:=HK3.out;omega⟩,⟨by refine blk_far ?_ NB267_272.out _;refine blk_far ?_ NB267_272.out _;refine blk_far ?_ NB267_272.out _;(with_reducible repeat (first|refine blk_drewN ?_ _|refine blk_drew ?_|refine blk_alloc ?_ _));exact BK267.out⟩,⟨bw HB.out⟩⟩
           rw[if_neg c28] at H
           obtain⟨c28b0,c28b1⟩:=eF_ c28
           by_cases c32:((rd_T63 l0_1 x31_3).f2) > 4294967295
           ·
            rw[if_pos c32] at H
            have c32b0:=decide_eq_true c32
            clear c32
            obtain rfl:=Option.some.inj H
            clear H
            have p271:0≤(x31_3:Int):=od_
            have q271:x31_3<(l0_1.length:Int):=od_
            obtain⟨ad271,e271,hx271_0,hx271_1,hx271_2⟩:=at_T63 HR0_1.out x31_3 p271 q271
            cases e271
            replace hx271_0:=cl_ HB.out hx271_0
            replace hx271_1:=cl_ HB.out hx271_1
            replace hx271_2:=cl_ HB.out hx271_2
            replace p271:=eq_true p271
            replace q271:=eq_true q271
            go_wp2_with (first|((with_reducible refine gd_ 6 rfl ?_);(try (refine gate_guard (by rfl) ?_;dsimp only));refine bx_ #[.int .i64 0,.bool false,.int .u64 0] 63 ?_;intro gb272 hg w33 hbox hb;have BK272:=A_ hbox;have GW272:=gw_ hg HB;have GE272:=GW272;obtain⟨NB267_272,NB272_267⟩:=nb_ BK267 hg;replace BK267:=kb_ BK267 hb;replace HB:=bs_ HB hb;clear hb hbox hg;have hnb34:=NB272_267.out;have hnc34:=NB267_272.out;obtain⟨hcz35_0,hcz35_1,hcz35_2⟩:=cs3_ BK272.out;obtain⟨hfz35_0,hfz35_1,hfz35_2⟩:=fz3_ BK272.out)|((with_reducible refine gc_ 28 rfl ?_);refine gn_ (some 37) Try.func28 (spec_l6Type.calls ((rd_T63 l0_1 x31_3).f0) true _ A26.out) ?_;intro nd))
            go_ret
            exact⟨rr_,bw HB.out⟩
           rw[if_neg c32] at H
           have c32b0:=decide_eq_false c32
           clear c32
           have H':=A_ H
           clear H
           have p271:0≤(x31_3:Int):=od_
           have q271:x31_3<(l0_1.length:Int):=od_
           obtain⟨ad271,e271,hx271_0,hx271_1,hx271_2⟩:=at_T63 HR0_1.out x31_3 p271 q271
           cases e271
           replace hx271_0:=cl_ HB.out hx271_0
           replace hx271_1:=cl_ HB.out hx271_1
           replace hx271_2:=cl_ HB.out hx271_2
           replace p271:=eq_true p271
           replace q271:=eq_true q271
           go_wp2_with (first|((with_reducible refine gd_ 6 rfl ?_);(try (refine gate_guard (by rfl) ?_;dsimp only));refine bx_ #[.int .i64 0,.bool false,.int .u64 0] 63 ?_;intro gb272 hg w36 hbox hb;have BK272:=A_ hbox;have GW272:=gw_ hg HB;have GE272:=GW272;obtain⟨NB267_272,NB272_267⟩:=nb_ BK267 hg;replace BK267:=kb_ BK267 hb;replace HB:=bs_ HB hb;clear hb hbox hg;have hnb37:=NB272_267.out;have hnc37:=NB267_272.out;obtain⟨hcz38_0,hcz38_1,hcz38_2⟩:=cs3_ BK272.out;obtain⟨hfz38_0,hfz38_1,hfz38_2⟩:=fz3_ BK272.out)|((with_reducible refine gc_ 28 rfl ?_);refine gn_ (some 37) Try.func28 (spec_l6Type.calls ((rd_T63 l0_1 x31_3).f0) true _ A26.out) ?_;intro nd))
           go_roundg k3
           case measure=>have:=HJ1.out;have:=HK2.out;have:=HK3.out;omega
           case rel=>exact⟨(wrap64 (x31_3+1)),rs_,H',⟨by have:=HJ1.out;have:=HK2.out;have:=HK3.out;omega⟩,⟨by refine blk_far ?_ NB267_272.out _;refine blk_far ?_ NB267_272.out _;refine blk_far ?_ NB267_272.out _;(with_reducible repeat (first|refine blk_drewN ?_ _|refine blk_drew ?_|refine blk_alloc ?_ _));exact BK267.out⟩,⟨bw HB.out⟩⟩
          replace c27:=Bool.eq_false_iff.mpr c27
          subst c27
          replace H:=iF_ H
          obtain rfl:=Option.some.inj H
          clear H
          have p271:0≤(x31_3:Int):=od_
          have q271:x31_3<(l0_1.length:Int):=od_
          obtain⟨ad271,e271,hx271_0,hx271_1,hx271_2⟩:=at_T63 HR0_1.out x31_3 p271 q271
          cases e271
          replace hx271_0:=cl_ HB.out hx271_0
          replace hx271_1:=cl_ HB.out hx271_1
          replace hx271_2:=cl_ HB.out hx271_2
          replace p271:=eq_true p271
          replace q271:=eq_true q271
          go_wp2_with (first|((with_reducible refine gd_ 6 rfl ?_);(try (refine gate_guard (by rfl) ?_;dsimp only));refine bx_ #[.int .i64 0,.bool false,.int .u64 0] 63 ?_;intro gb272 hg w39 hbox hb;have BK272:=A_ hbox;have GW272:=gw_ hg HB;have GE272:=GW272;obtain⟨NB267_272,NB272_267⟩:=nb_ BK267 hg;replace BK267:=kb_ BK267 hb;replace HB:=bs_ HB hb;clear hb hbox hg;have hnb40:=NB272_267.out;have hnc40:=NB267_272.out;obtain⟨hcz41_0,hcz41_1,hcz41_2⟩:=cs3_ BK272.out;obtain⟨hfz41_0,hfz41_1,hfz41_2⟩:=fz3_ BK272.out)|((with_reducible refine gc_ 28 rfl ?_);refine gn_ (some 37) Try.func28 (spec_l6Type.calls ((rd_T63 l0_1 x31_3).f0) false _ A26.out) ?_;intro nd))
          go_ret
          exact⟨rr_,bw HB.out⟩
         rw[if_neg c25] at H
         exact absurd H (by simp)
        rw[if_neg c24] at H
        exact absurd H (by simp)
       rw[if_neg c23] at H
       have c23b0:=decide_eq_false c23
       clear c23
       have HC42:=A_ H
       clear H
       go_upto_region 15 with (fail)
       go_cut [80] (fun v80 wc=>∃ (kq:Nat) (x80_41:Bool),v80=.bool x80_41∧Aside0 (spec_GoodShape.j3 kq x80_41 l0_0 l0_1 a0_2 a0_3 a0_4 a0_5=some r)∧Aside0 (kq≤k3)∧Aside0 (wc.heap[gb267]? =some (.cells #[(.slice A0_0 l0_0.length c0_0),(.slice A0_1 l0_1.length c0_1),.bool a0_2,.int .i64 a0_3,.int .i64 a0_4,.int .i64 a0_5] 32 (0,0)))∧Aside0 (Below w.heap.size w wc))
       case first=>
        have H:=HC42.out
        clear HC42
        by_cases c43:a0_2=true
        ·
         subst c43
         replace H:=iT_ H
         replace H:=bi_ H
         obtain⟨t274,A440,H⟩:=H
         have A44:=A_ A440
         clear A440
         by_cases c45:t274=true
         ·
          subst c45
          replace H:=iT_ H
          replace H:=bi_ H
          obtain⟨t275,A460,H⟩:=H
          have A46:=A_ A460
          clear A460
          by_cases c47:t275=true
          ·
           subst c47
           replace H:=iT_ H
           have H':=A_ H
           clear H
           obtain⟨hcz48_0,hcz48_1,hcz48_2,hcz48_3,hcz48_4,hcz48_5⟩:=cs6_ BK267.out
           obtain⟨hfz48_0,hfz48_1,hfz48_2,hfz48_3,hfz48_4,hfz48_5⟩:=fz6_ BK267.out
           go_wp2_with (first|(go_at_call 18;(with_reducible refine(spec_l1In.calls a0_4 0 8 true _ A44.out).mono ?_);rintro e w' ⟨rfl,⟨nd,rfl⟩⟩)|(go_at_call 18;(with_reducible refine(spec_l1In.calls a0_3 0 a0_4 true _ A46.out).mono ?_);rintro e w' ⟨rfl,⟨nd,rfl⟩⟩))
           go_meet
           case rel=>exact⟨_,(false),rs_,H',⟨by have:=HJ1.out;have:=HK2.out;have:=HK3.out;first|omega|exact Nat.le_refl _⟩,⟨bk BK267.out⟩,⟨bw HB.out⟩⟩
          replace c47:=Bool.eq_false_iff.mpr c47
          subst c47
          replace H:=iF_ H
          have H':=A_ H
          clear H
          obtain⟨hcz49_0,hcz49_1,hcz49_2,hcz49_3,hcz49_4,hcz49_5⟩:=cs6_ BK267.out
          obtain⟨hfz49_0,hfz49_1,hfz49_2,hfz49_3,hfz49_4,hfz49_5⟩:=fz6_ BK267.out
          go_wp2_with (first|(go_at_call 18;(with_reducible refine(spec_l1In.calls a0_4 0 8 true _ A44.out).mono ?_);rintro e w' ⟨rfl,⟨nd,rfl⟩⟩)|(go_at_call 18;(with_reducible refine(spec_l1In.calls a0_3 0 a0_4 false _ A46.out).mono ?_);rintro e w' ⟨rfl,⟨nd,rfl⟩⟩))
          go_meet
          case rel=>exact⟨_,(true),rs_,H',⟨by have:=HJ1.out;have:=HK2.out;have:=HK3.out;first|omega|exact Nat.le_refl _⟩,⟨bk BK267.out⟩,⟨bw HB.out⟩⟩
         replace c45:=Bool.eq_false_iff.mpr c45
         subst c45
         replace H:=iF_ H
         have H':=A_ H
         clear H
         obtain⟨hcz50_0,hcz50_1,hcz50_2,hcz50_3,hcz50_4,hcz50_5⟩:=cs6_ BK267.out
         obtain⟨hfz50_0,hfz50_1,hfz50_2,hfz50_3,hfz50_4,hfz50_5⟩:=fz6_ BK267.out
         go_wp2_with (first|(go_at_call 18;(with_reducible refine(spec_l1In.calls a0_4 0 8 false _ A44.out).mono ?_);rintro e w' ⟨rfl,⟨nd,rfl⟩⟩))
         go_meet
         case rel=>exact⟨_,(true),rs_,H',⟨by have:=HJ1.out;have:=HK2.out;have:=HK3.out;first|omega|exact Nat.le_refl _⟩,⟨bk BK267.out⟩,⟨bw HB.out⟩⟩
        replace c43:=Bool.eq_false_iff.mpr c43
        subst c43
        replace H:=iF_ H
        by_cases c51:a0_3=0
        ·
         rw[if_pos c51] at H
         obtain⟨c51b0,c51b1⟩:=eT_ c51
         clear c51
         (first|rw[c51b0]|(simp only[i64_w,i32_w];rw[c51b0])|skip)
         have H':=A_ H
         clear H
         obtain⟨hcz52_0,hcz52_1,hcz52_2,hcz52_3,hcz52_4,hcz52_5⟩:=cs6_ BK267.out
         obtain⟨hfz52_0,hfz52_1,hfz52_2,hfz52_3,hfz52_4,hfz52_5⟩:=fz6_ BK267.out
         go_wp2
         go_meet
         case rel=>exact⟨_,((a0_4 !=0)),rs_,H',⟨by have:=HJ1.out;have:=HK2.out;have:=HK3.out;first|omega|exact Nat.le_refl _⟩,⟨bk BK267.out⟩,⟨bw HB.out⟩⟩
        rw[if_neg c51] at H
        obtain⟨c51b0,c51b1⟩:=eF_ c51
        (first|rw[c51b0]|(simp only[i64_w,i32_w];rw[c51b0])|skip)
        have H':=A_ H
        clear H
        obtain⟨hcz53_0,hcz53_1,hcz53_2,hcz53_3,hcz53_4,hcz53_5⟩:=cs6_ BK267.out
        obtain⟨hfz53_0,hfz53_1,hfz53_2,hfz53_3,hfz53_4,hfz53_5⟩:=fz6_ BK267.out
        go_wp2
        go_meet
        case rel=>exact⟨_,(true),rs_,H',⟨by have:=HJ1.out;have:=HK2.out;have:=HK3.out;first|omega|exact Nat.le_refl _⟩,⟨bk BK267.out⟩,⟨bw HB.out⟩⟩
       case rest=>
        clear HC42
        try clear c7 c9 c9b0 c23 c23b0 hcz22_0 hcz22_1 hcz22_2 hcz22_3 hcz22_4 hcz22_5 hcz8_0 hcz8_1 hcz8_2 hcz8_3 hcz8_4 hcz8_5 hfz22_0 hfz22_1 hfz22_2 hfz22_3 hfz22_4 hfz22_5 hfz8_0 hfz8_1 hfz8_2 hfz8_3 hfz8_4 hfz8_5
        obtain⟨kq,x80_41,rfl,HA,HJ41,BK267,HB⟩:=hcut
        cases kq with
        |zero=>exact absurd HA.out (by simp[spec_GoodShape.j3])
        |succ kj41=>
         have H:=HA.out
         clear HA
         simp only[spec_GoodShape.j3] at H
         by_cases c54:x80_41=true
         ·
          subst c54
          replace H:=iT_ H
          obtain rfl:=Option.some.inj H
          clear H
          go_wp2
          go_ret
          exact⟨rr_,bw HB.out⟩
         replace c54:=Bool.eq_false_iff.mpr c54
         subst c54
         replace H:=iF_ H
         by_cases c55:a0_5=(-1)
         ·
          rw[if_pos c55] at H
          obtain⟨c55b0,c55b1⟩:=eT_ c55
          clear c55
          obtain rfl:=Option.some.inj H
          clear H
          obtain⟨hcz56_0,hcz56_1,hcz56_2,hcz56_3,hcz56_4,hcz56_5⟩:=cs6_ BK267.out
          obtain⟨hfz56_0,hfz56_1,hfz56_2,hfz56_3,hfz56_4,hfz56_5⟩:=fz6_ BK267.out
          go_wp2
          go_ret
          exact⟨rr_,bw HB.out⟩
         rw[if_neg c55] at H
         obtain⟨c55b0,c55b1⟩:=eF_ c55
         replace H:=bi_ H
         obtain⟨t276,A570,H⟩:=H
         have A57:=A_ A570
         clear A570
         by_cases c58:t276=true
         ·
          subst c58
          replace H:=iT_ H
          by_cases c59:0≤a0_5
          ·
           rw[if_pos c59] at H
           have c59b0:=decide_eq_true c59
           clear c59
           by_cases c60:a0_5<(l0_0.length:Int)
           ·
            rw[if_pos c60] at H
            have c60b0:=decide_eq_true c60
            clear c60
            by_cases c61:(((rd_T59 l0_0 a0_5).f0).length:Int)=0
            ·
             rw[if_pos c61] at H
             obtain⟨c61b0,c61b1⟩:=eT_ c61
             clear c61
             obtain rfl:=Option.some.inj H
             clear H
             obtain⟨hcz62_0,hcz62_1,hcz62_2,hcz62_3,hcz62_4,hcz62_5⟩:=cs6_ BK267.out
             obtain⟨hfz62_0,hfz62_1,hfz62_2,hfz62_3,hfz62_4,hfz62_5⟩:=fz6_ BK267.out
             go_wp2_with (first|((with_reducible refine gc_ 18 rfl ?_);refine gn_ (some 90) Try.func18 (spec_l1In.calls a0_5 0 (wrap64 ((l0_0.length:Int) - 1)) true _ A57.out) ?_;intro nd;have p277:0≤(a0_5:Int):=od_;have q277:a0_5<(l0_0.length:Int):=od_;obtain⟨ad277,A277_0,c277_0,A277_2,c277_2,A277_3,c277_3,e277,hx277_0,hx277_1,hx277_2,hx277_3,hl277_0,hi277_0,hl277_2,hi277_2,hl277_3,hi277_3⟩:=at_T59 HR0_0.out a0_5 p277 q277;cases e277;replace hx277_0:=cl_ HB.out hx277_0;replace hx277_1:=cl_ HB.out hx277_1;replace hx277_2:=cl_ HB.out hx277_2;replace hx277_3:=cl_ HB.out hx277_3;have HR277_0:=A_ hi277_0;have HC277_0:=A_ hl277_0;clear hi277_0 hl277_0;have HR277_2:=A_ hi277_2;have HC277_2:=A_ hl277_2;clear hi277_2 hl277_2;have HR277_3:=A_ hi277_3;have HC277_3:=A_ hl277_3;clear hi277_3 hl277_3;replace p277:=eq_true p277;replace q277:=eq_true q277;have p278:0≤(a0_5:Int):=od_;have q278:a0_5<(l0_0.length:Int):=od_;obtain⟨ad278,A278_0,c278_0,A278_2,c278_2,A278_3,c278_3,e278,hx278_0,hx278_1,hx278_2,hx278_3,hl278_0,hi278_0,hl278_2,hi278_2,hl278_3,hi278_3⟩:=at_T59 HR0_0.out a0_5 p278 q278;obtain rfl:ad277=ad278:=(by injection e278);replace hx278_0:=cl_ HB.out hx278_0;replace hx278_1:=cl_ HB.out hx278_1;replace hx278_2:=cl_ HB.out hx278_2;replace hx278_3:=cl_ HB.out hx278_3;have HR278_0:=A_ hi278_0;have HC278_0:=A_ hl278_0;clear hi278_0 hl278_0;have HR278_2:=A_ hi278_2;have HC278_2:=A_ hl278_2;clear hi278_2 hl278_2;have HR278_3:=A_ hi278_3;have HC278_3:=A_ hl278_3;clear hi278_3 hl278_3;replace p278:=eq_true p278;replace q278:=eq_true q278;have ea_:=Option.some.inj (hx277_0.symm.trans hx278_0);injection ea_ with ea_ en_ ec_;subst ea_;subst ec_;clear en_;have ea_:=Option.some.inj (hx277_2.symm.trans hx278_2);injection ea_ with ea_ en_ ec_;subst ea_;subst ec_;clear en_;have ea_:=Option.some.inj (hx277_3.symm.trans hx278_3);injection ea_ with ea_ en_ ec_;subst ea_;subst ec_;clear en_))
             go_ret
             exact⟨rr_,bw HB.out⟩
            rw[if_neg c61] at H
            obtain⟨c61b0,c61b1⟩:=eF_ c61
            have c61b2:¬(((rd_T59 l0_0 a0_5).f0)=[]):=fun h_=>c61 (by rw[h_];rfl)
            obtain rfl:=Option.some.inj H
            clear H
            obtain⟨hcz63_0,hcz63_1,hcz63_2,hcz63_3,hcz63_4,hcz63_5⟩:=cs6_ BK267.out
            obtain⟨hfz63_0,hfz63_1,hfz63_2,hfz63_3,hfz63_4,hfz63_5⟩:=fz6_ BK267.out
            go_wp2_with (first|((with_reducible refine gc_ 18 rfl ?_);refine gn_ (some 90) Try.func18 (spec_l1In.calls a0_5 0 (wrap64 ((l0_0.length:Int) - 1)) true _ A57.out) ?_;intro nd;have p277:0≤(a0_5:Int):=od_;have q277:a0_5<(l0_0.length:Int):=od_;obtain⟨ad277,A277_0,c277_0,A277_2,c277_2,A277_3,c277_3,e277,hx277_0,hx277_1,hx277_2,hx277_3,hl277_0,hi277_0,hl277_2,hi277_2,hl277_3,hi277_3⟩:=at_T59 HR0_0.out a0_5 p277 q277;cases e277;replace hx277_0:=cl_ HB.out hx277_0;replace hx277_1:=cl_ HB.out hx277_1;replace hx277_2:=cl_ HB.out hx277_2;replace hx277_3:=cl_ HB.out hx277_3;have HR277_0:=A_ hi277_0;have HC277_0:=A_ hl277_0;clear hi277_0 hl277_0;have HR277_2:=A_ hi277_2;have HC277_2:=A_ hl277_2;clear hi277_2 hl277_2;have HR277_3:=A_ hi277_3;have HC277_3:=A_ hl277_3;clear hi277_3 hl277_3;replace p277:=eq_true p277;replace q277:=eq_true q277))
            go_ret
            exact⟨rr_,bw HB.out⟩
           rw[if_neg c60] at H
           exact absurd H (by simp)
          rw[if_neg c59] at H
          exact absurd H (by simp)
         replace c58:=Bool.eq_false_iff.mpr c58
         subst c58
         replace H:=iF_ H
         obtain rfl:=Option.some.inj H
         clear H
         obtain⟨hcz64_0,hcz64_1,hcz64_2,hcz64_3,hcz64_4,hcz64_5⟩:=cs6_ BK267.out
         obtain⟨hfz64_0,hfz64_1,hfz64_2,hfz64_3,hfz64_4,hfz64_5⟩:=fz6_ BK267.out
         go_wp2_with (first|((with_reducible refine gc_ 18 rfl ?_);refine gn_ (some 90) Try.func18 (spec_l1In.calls a0_5 0 (wrap64 ((l0_0.length:Int) - 1)) false _ A57.out) ?_;intro nd))
         go_ret
         exact⟨rr_,bw HB.out⟩

end Go.Proofs.Ytghogonibanieaa.Q

