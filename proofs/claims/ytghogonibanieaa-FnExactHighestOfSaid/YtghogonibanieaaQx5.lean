-- Written by a program of this session; it walks the functions that the law reaches.
import Derived.Test.YtghogonibanieaaQx0
import Derived.Test.YtghogonibanieaaQx3
import Derived.Test.YtghogonibanieaaQx4
namespace Go.Proofs.Ytghogonibanieaa.Q
open Go.RowKit Go.Proofs.YtghogonibanieaaW.PrintWords Go.Proofs.YtghogonibanieaaW.PrintLast Go.Proofs.YtghogonibanieaaW.PrintMore
attribute [local go_sem] max2_int min2_int max_two min_two max_three min_three max_four min_four   -- for this text's walks alone
set_option linter.unusedVariables false
set_option linter.unusedSimpArgs false
set_option maxRecDepth 100000
set_option maxHeartbeats 8000000

/-! ### spec_l7Func: function 27 -/
def spec_l7Func.f (k:Nat) (l0_0:List Int) (a0_1:Int) (l0_2:List Int) (l0_3:List (S71)):Option (Bool):=(spec_l6Ends.f k l0_3).bind fun bt259=>(if bt259.2.2=true then ((spec_l7Types.f k l0_0 6).bind fun t264=>(if t264=true then ((spec_l7Types.f k l0_2 20).bind fun t265=>(if t265=true then ((spec_l6Type.f a0_1).bind fun t266=>(if t266=true then (some true) else (some (a0_1==64)))) else (some false))) else (some false))) else (some false))
theorem spec_l7Func.calls (k:Nat) (A0_0:Option Addr) (c0_0:Nat) (l0_0:List Int) (a0_1:Int) (A0_2:Option Addr) (c0_2:Nat) (l0_2:List Int) (A0_3:Option Addr) (c0_3:Nat) (l0_3:List (S71)) (r:Bool) (w:World) (hr0_0:Kd.C (Kd.int .i64) w A0_0 l0_0.length l0_0) (hc0_0:l0_0.length≤c0_0) (hr0_2:Kd.C (Kd.int .i64) w A0_2 l0_2.length l0_2) (hc0_2:l0_2.length≤c0_2) (hr0_3:Kd.C k71 w A0_3 l0_3.length l0_3) (hc0_3:l0_3.length≤c0_3) (h:spec_l7Func.f k l0_0 a0_1 l0_2 l0_3=some r):
  Calls Try.prog 27 #[.agg #[.slice A0_0 l0_0.length c0_0,.int .i64 a0_1,.slice A0_2 l0_2.length c0_2,.slice A0_3 l0_3.length c0_3]] w fun e w'=>e=.returned (.bool r)∧Below w.heap.size w w':=by
 have hu59:=Try.underlying59
 have HR0_0:=A_ hr0_0
 have HC0_0:=A_ hc0_0
 clear hr0_0 hc0_0
 have HR0_2:=A_ hr0_2
 have HC0_2:=A_ hc0_2
 clear hr0_2 hc0_2
 have HR0_3:=A_ hr0_3
 have HC0_3:=A_ hc0_3
 clear hr0_3 hc0_3
 have HB:=A_ (Below.refl w.heap.size w)
 have H:((spec_l6Ends.f k l0_3).bind fun bt259=>(if bt259.2.2=true then ((spec_l7Types.f k l0_0 6).bind fun t264=>(if t264=true then ((spec_l7Types.f k l0_2 20).bind fun t265=>(if t265=true then ((spec_l6Type.f a0_1).bind fun t266=>(if t266=true then (some true) else (some (a0_1==64)))) else (some false))) else (some false))) else (some false)))=some r:=h
 clear h
 replace H:=Option.bind_eq_some_iff.mp H
 obtain⟨⟨t259,t260,t261⟩,A20,H⟩:=H
 replace H:(if t261=true then ((spec_l7Types.f k l0_0 6).bind fun t264=>(if t264=true then ((spec_l7Types.f k l0_2 20).bind fun t265=>(if t265=true then ((spec_l6Type.f a0_1).bind fun t266=>(if t266=true then (some true) else (some (a0_1==64)))) else (some false))) else (some false))) else (some false))=some r:=H
 have A2:=A_ A20
 clear A20
 by_cases c3:t261=true
 ·
  subst c3
  replace H:=iT_ H
  replace H:=bi_ H
  obtain⟨t264,A40,H⟩:=H
  have A4:=A_ A40
  clear A40
  by_cases c5:t264=true
  ·
   subst c5
   replace H:=iT_ H
   replace H:=bi_ H
   obtain⟨t265,A60,H⟩:=H
   have A6:=A_ A60
   clear A60
   by_cases c7:t265=true
   ·
    subst c7
    replace H:=iT_ H
    replace H:=bi_ H
    obtain⟨t266,A80,H⟩:=H
    have A8:=A_ A80
    clear A80
    by_cases c9:t266=true
    ·
     subst c9
     replace H:=iT_ H
     obtain rfl:=Option.some.inj H
     clear H
     go_enter Try.func27,Try.ntmps27
     go_wp2_with (first|((with_reducible refine gd_ 1 rfl ?_);refine bx_ #[.slice A0_0 l0_0.length c0_0,.int .i64 a0_1,.slice A0_2 l0_2.length c0_2,.slice A0_3 l0_3.length c0_3] 59 ?_;intro gb258 hg w10 hbox hb;have BK258:=A_ hbox;have GW258:=gw_ hg HB;have GE258:=GW258;replace HB:=bs_ HB hb;clear hb hbox hg;obtain⟨hcz11_0,hcz11_1,hcz11_2,hcz11_3⟩:=cs4_ BK258.out;obtain⟨hfz11_0,hfz11_1,hfz11_2,hfz11_3⟩:=fz4_ BK258.out)|((with_reducible refine gc_ 40 rfl ?_);refine goesL_ (some 9) rfl rfl Try.func40 (by kernel_rfl) rfl #[.slice A0_3 l0_3.length c0_3] rfl ar ?_;(with_reducible refine(spec_l6Ends.calls k _ _ l0_3 t259 t260 true _ ?side1 ?side2 A2.out).mono ?_);(case side1=>exact cb_ HR0_3 HB);(case side2=>exact HC0_3.out);rintro e w12 ⟨v262,rfl,ho0,hb⟩;refine⟨_,rfl,?_⟩;have HO263:=A_ (Kd.R_lower ho0 (below_size (bw HB.out)));replace BK258:=kb_ BK258 hb;replace HB:=bs_ HB hb;(try clear hb);(try clear hb2);(try clear hk);(try clear hi);(try clear ho0);obtain⟨hcz13_0,hcz13_1,hcz13_2,hcz13_3⟩:=cs4_ BK258.out;obtain⟨hfz13_0,hfz13_1,hfz13_2,hfz13_3⟩:=fz4_ BK258.out)|(go_at_call 41;(with_reducible refine(spec_l7Types.calls k _ _ l0_0 6 true _ ?side1 ?side2 A4.out).mono ?_);(case side1=>exact cb_ HR0_0 HB);(case side2=>exact HC0_0.out);rintro e w' ⟨rfl,⟨nd,rfl⟩⟩)|(go_at_call 41;(with_reducible refine(spec_l7Types.calls k _ _ l0_2 20 true _ ?side1 ?side2 A6.out).mono ?_);(case side1=>exact cb_ HR0_2 HB);(case side2=>exact HC0_2.out);rintro e w' ⟨rfl,⟨nd,rfl⟩⟩)|(go_at_call 28;(with_reducible refine(spec_l6Type.calls a0_1 true _ A8.out).mono ?_);rintro e w' ⟨rfl,⟨nd,rfl⟩⟩))
     go_ret
     exact⟨rr_,bw HB.out⟩
    replace c9:=Bool.eq_false_iff.mpr c9
    subst c9
    replace H:=iF_ H
    obtain rfl:=Option.some.inj H
    clear H
    go_enter Try.func27,Try.ntmps27
    go_wp2_with (first|((with_reducible refine gd_ 1 rfl ?_);refine bx_ #[.slice A0_0 l0_0.length c0_0,.int .i64 a0_1,.slice A0_2 l0_2.length c0_2,.slice A0_3 l0_3.length c0_3] 59 ?_;intro gb258 hg w14 hbox hb;have BK258:=A_ hbox;have GW258:=gw_ hg HB;have GE258:=GW258;replace HB:=bs_ HB hb;clear hb hbox hg;obtain⟨hcz15_0,hcz15_1,hcz15_2,hcz15_3⟩:=cs4_ BK258.out;obtain⟨hfz15_0,hfz15_1,hfz15_2,hfz15_3⟩:=fz4_ BK258.out)|((with_reducible refine gc_ 40 rfl ?_);refine goesL_ (some 9) rfl rfl Try.func40 (by kernel_rfl) rfl #[.slice A0_3 l0_3.length c0_3] rfl ar ?_;(with_reducible refine(spec_l6Ends.calls k _ _ l0_3 t259 t260 true _ ?side1 ?side2 A2.out).mono ?_);(case side1=>exact cb_ HR0_3 HB);(case side2=>exact HC0_3.out);rintro e w16 ⟨v262,rfl,ho0,hb⟩;refine⟨_,rfl,?_⟩;have HO263:=A_ (Kd.R_lower ho0 (below_size (bw HB.out)));replace BK258:=kb_ BK258 hb;replace HB:=bs_ HB hb;(try clear hb);(try clear hb2);(try clear hk);(try clear hi);(try clear ho0);obtain⟨hcz17_0,hcz17_1,hcz17_2,hcz17_3⟩:=cs4_ BK258.out;obtain⟨hfz17_0,hfz17_1,hfz17_2,hfz17_3⟩:=fz4_ BK258.out)|(go_at_call 41;(with_reducible refine(spec_l7Types.calls k _ _ l0_0 6 true _ ?side1 ?side2 A4.out).mono ?_);(case side1=>exact cb_ HR0_0 HB);(case side2=>exact HC0_0.out);rintro e w' ⟨rfl,⟨nd,rfl⟩⟩)|(go_at_call 41;(with_reducible refine(spec_l7Types.calls k _ _ l0_2 20 true _ ?side1 ?side2 A6.out).mono ?_);(case side1=>exact cb_ HR0_2 HB);(case side2=>exact HC0_2.out);rintro e w' ⟨rfl,⟨nd,rfl⟩⟩)|(go_at_call 28;(with_reducible refine(spec_l6Type.calls a0_1 false _ A8.out).mono ?_);rintro e w' ⟨rfl,⟨nd,rfl⟩⟩))
    go_ret
    exact⟨rr_,bw HB.out⟩
   replace c7:=Bool.eq_false_iff.mpr c7
   subst c7
   replace H:=iF_ H
   obtain rfl:=Option.some.inj H
   clear H
   go_enter Try.func27,Try.ntmps27
   go_wp2_with (first|((with_reducible refine gd_ 1 rfl ?_);refine bx_ #[.slice A0_0 l0_0.length c0_0,.int .i64 a0_1,.slice A0_2 l0_2.length c0_2,.slice A0_3 l0_3.length c0_3] 59 ?_;intro gb258 hg w18 hbox hb;have BK258:=A_ hbox;have GW258:=gw_ hg HB;have GE258:=GW258;replace HB:=bs_ HB hb;clear hb hbox hg;obtain⟨hcz19_0,hcz19_1,hcz19_2,hcz19_3⟩:=cs4_ BK258.out;obtain⟨hfz19_0,hfz19_1,hfz19_2,hfz19_3⟩:=fz4_ BK258.out)|((with_reducible refine gc_ 40 rfl ?_);refine goesL_ (some 9) rfl rfl Try.func40 (by kernel_rfl) rfl #[.slice A0_3 l0_3.length c0_3] rfl ar ?_;(with_reducible refine(spec_l6Ends.calls k _ _ l0_3 t259 t260 true _ ?side1 ?side2 A2.out).mono ?_);(case side1=>exact cb_ HR0_3 HB);(case side2=>exact HC0_3.out);rintro e w20 ⟨v262,rfl,ho0,hb⟩;refine⟨_,rfl,?_⟩;have HO263:=A_ (Kd.R_lower ho0 (below_size (bw HB.out)));replace BK258:=kb_ BK258 hb;replace HB:=bs_ HB hb;(try clear hb);(try clear hb2);(try clear hk);(try clear hi);(try clear ho0);obtain⟨hcz21_0,hcz21_1,hcz21_2,hcz21_3⟩:=cs4_ BK258.out;obtain⟨hfz21_0,hfz21_1,hfz21_2,hfz21_3⟩:=fz4_ BK258.out)|(go_at_call 41;(with_reducible refine(spec_l7Types.calls k _ _ l0_0 6 true _ ?side1 ?side2 A4.out).mono ?_);(case side1=>exact cb_ HR0_0 HB);(case side2=>exact HC0_0.out);rintro e w' ⟨rfl,⟨nd,rfl⟩⟩)|(go_at_call 41;(with_reducible refine(spec_l7Types.calls k _ _ l0_2 20 false _ ?side1 ?side2 A6.out).mono ?_);(case side1=>exact cb_ HR0_2 HB);(case side2=>exact HC0_2.out);rintro e w' ⟨rfl,⟨nd,rfl⟩⟩))
   go_ret
   exact⟨rr_,bw HB.out⟩
  replace c5:=Bool.eq_false_iff.mpr c5
  subst c5
  replace H:=iF_ H
  obtain rfl:=Option.some.inj H
  clear H
  go_enter Try.func27,Try.ntmps27
  go_wp2_with (first|((with_reducible refine gd_ 1 rfl ?_);refine bx_ #[.slice A0_0 l0_0.length c0_0,.int .i64 a0_1,.slice A0_2 l0_2.length c0_2,.slice A0_3 l0_3.length c0_3] 59 ?_;intro gb258 hg w22 hbox hb;have BK258:=A_ hbox;have GW258:=gw_ hg HB;have GE258:=GW258;replace HB:=bs_ HB hb;clear hb hbox hg;obtain⟨hcz23_0,hcz23_1,hcz23_2,hcz23_3⟩:=cs4_ BK258.out;obtain⟨hfz23_0,hfz23_1,hfz23_2,hfz23_3⟩:=fz4_ BK258.out)|((with_reducible refine gc_ 40 rfl ?_);refine goesL_ (some 9) rfl rfl Try.func40 (by kernel_rfl) rfl #[.slice A0_3 l0_3.length c0_3] rfl ar ?_;(with_reducible refine(spec_l6Ends.calls k _ _ l0_3 t259 t260 true _ ?side1 ?side2 A2.out).mono ?_);(case side1=>exact cb_ HR0_3 HB);(case side2=>exact HC0_3.out);rintro e w24 ⟨v262,rfl,ho0,hb⟩;refine⟨_,rfl,?_⟩;have HO263:=A_ (Kd.R_lower ho0 (below_size (bw HB.out)));replace BK258:=kb_ BK258 hb;replace HB:=bs_ HB hb;(try clear hb);(try clear hb2);(try clear hk);(try clear hi);(try clear ho0);obtain⟨hcz25_0,hcz25_1,hcz25_2,hcz25_3⟩:=cs4_ BK258.out;obtain⟨hfz25_0,hfz25_1,hfz25_2,hfz25_3⟩:=fz4_ BK258.out)|(go_at_call 41;(with_reducible refine(spec_l7Types.calls k _ _ l0_0 6 false _ ?side1 ?side2 A4.out).mono ?_);(case side1=>exact cb_ HR0_0 HB);(case side2=>exact HC0_0.out);rintro e w' ⟨rfl,⟨nd,rfl⟩⟩))
  go_ret
  exact⟨rr_,bw HB.out⟩
 replace c3:=Bool.eq_false_iff.mpr c3
 subst c3
 replace H:=iF_ H
 obtain rfl:=Option.some.inj H
 clear H
 go_enter Try.func27,Try.ntmps27
 go_wp2_with (first|((with_reducible refine gd_ 1 rfl ?_);refine bx_ #[.slice A0_0 l0_0.length c0_0,.int .i64 a0_1,.slice A0_2 l0_2.length c0_2,.slice A0_3 l0_3.length c0_3] 59 ?_;intro gb258 hg w26 hbox hb;have BK258:=A_ hbox;have GW258:=gw_ hg HB;have GE258:=GW258;replace HB:=bs_ HB hb;clear hb hbox hg;obtain⟨hcz27_0,hcz27_1,hcz27_2,hcz27_3⟩:=cs4_ BK258.out;obtain⟨hfz27_0,hfz27_1,hfz27_2,hfz27_3⟩:=fz4_ BK258.out)|((with_reducible refine gc_ 40 rfl ?_);refine goesL_ (some 9) rfl rfl Try.func40 (by kernel_rfl) rfl #[.slice A0_3 l0_3.length c0_3] rfl ar ?_;(with_reducible refine(spec_l6Ends.calls k _ _ l0_3 t259 t260 false _ ?side1 ?side2 A2.out).mono ?_);(case side1=>exact cb_ HR0_3 HB);(case side2=>exact HC0_3.out);rintro e w28 ⟨v262,rfl,ho0,hb⟩;refine⟨_,rfl,?_⟩;have HO263:=A_ (Kd.R_lower ho0 (below_size (bw HB.out)));replace BK258:=kb_ BK258 hb;replace HB:=bs_ HB hb;(try clear hb);(try clear hb2);(try clear hk);(try clear hi);(try clear ho0)))
 go_ret
 exact⟨rr_,bw HB.out⟩

/-! ### spec_GoodShape: function 17 -/
mutual
def spec_GoodShape.j0:Nat→Bool→List (S59)→List (S63)→Bool→Int→Int→Int→Option (Bool)
 |0,_,_,_,_,_,_,_=>none
 |k+1,x16,x268000,x268001,x268002,x268003,x268004,x268005=>if x16=true then (some false) else (spec_GoodShape.l0 k x268000 (x268000.length:Int) 0 x268000 x268001 x268002 x268003 x268004 x268005)
def spec_GoodShape.l0:Nat→List (S59)→Int→Int→List (S59)→List (S63)→Bool→Int→Int→Int→Option (Bool)
 |0,_,_,_,_,_,_,_,_,_=>none
 |k+1,x18,x19,x20,x268000,x268001,x268002,x268003,x268004,x268005=>if x20<x19 then (if 0≤x20 then (if x20<(x18.length:Int) then ((spec_l7Func.f k ((rd_T59 x18 x20).f0) ((rd_T59 x18 x20).f1) ((rd_T59 x18 x20).f2) ((rd_T59 x18 x20).f3)).bind fun t270=>(if t270=true then (spec_GoodShape.l0 k x18 x19 (wrap64 (x20+1)) x268000 x268001 x268002 x268003 x268004 x268005) else (some false))) else (none)) else (none)) else (spec_GoodShape.l1 k x268001 (x268001.length:Int) 0 x268000 x268001 x268002 x268003 x268004 x268005)
def spec_GoodShape.l1:Nat→List (S63)→Int→Int→List (S59)→List (S63)→Bool→Int→Int→Int→Option (Bool)
 |0,_,_,_,_,_,_,_,_,_=>none
 |k+1,x29,x30,x31,x268000,x268001,x268002,x268003,x268004,x268005=>if x31<x30 then (if 0≤x31 then (if x31<(x29.length:Int) then ((spec_l6Type.f ((rd_T63 x29 x31).f0)).bind fun t273=>(if t273=true then (if ((rd_T63 x29 x31).f0)=126 then (spec_GoodShape.l1 k x29 x30 (wrap64 (x31+1)) x268000 x268001 x268002 x268003 x268004 x268005) else (if ((rd_T63 x29 x31).f2) > 4294967295 then (some false) else (spec_GoodShape.l1 k x29 x30 (wrap64 (x31+1)) x268000 x268001 x268002 x268003 x268004 x268005))) else (some false))) else (none)) else (none)) else (if x268002=true then ((spec_l1In.f x268004 0 8).bind fun t274=>(if t274=true then ((spec_l1In.f x268003 0 x268004).bind fun t275=>(if t275=true then (spec_GoodShape.j3 k false x268000 x268001 x268002 x268003 x268004 x268005) else (spec_GoodShape.j3 k true x268000 x268001 x268002 x268003 x268004 x268005))) else (spec_GoodShape.j3 k true x268000 x268001 x268002 x268003 x268004 x268005))) else (if x268003=0 then (spec_GoodShape.j3 k (x268004 !=0) x268000 x268001 x268002 x268003 x268004 x268005) else (spec_GoodShape.j3 k true x268000 x268001 x268002 x268003 x268004 x268005)))
def spec_GoodShape.j3:Nat→Bool→List (S59)→List (S63)→Bool→Int→Int→Int→Option (Bool)
 |0,_,_,_,_,_,_,_=>none
 |k+1,x80,x268000,x268001,x268002,x268003,x268004,x268005=>if x80=true then (some false) else (if x268005=(-1) then (some true) else ((spec_l1In.f x268005 0 (wrap64 ((x268000.length:Int) - 1))).bind fun t276=>(if t276=true then (if 0≤x268005 then (if x268005<(x268000.length:Int) then (if (((rd_T59 x268000 x268005).f0).length:Int)=0 then (some (((rd_T59 x268000 x268005).f1)==64)) else (some false)) else (none)) else (none)) else (some false))))
end
def spec_GoodShape.f (k:Nat) (l0_0:List (S59)) (l0_1:List (S63)) (a0_2:Bool) (a0_3:Int) (a0_4:Int) (a0_5:Int):Option (Bool):=if (l0_0.length:Int) > 10 then (spec_GoodShape.j0 k true l0_0 l0_1 a0_2 a0_3 a0_4 a0_5) else (spec_GoodShape.j0 k (decide ((l0_1.length:Int) > 6)) l0_0 l0_1 a0_2 a0_3 a0_4 a0_5)
theorem spec_GoodShape.calls (k:Nat) (A0_0:Option Addr) (c0_0:Nat) (l0_0:List (S59)) (A0_1:Option Addr) (c0_1:Nat) (l0_1:List (S63)) (a0_2:Bool) (a0_3:Int) (a0_4:Int) (a0_5:Int) (r:Bool) (w:World) (hr0_0:Kd.C k59 w A0_0 l0_0.length l0_0) (hc0_0:l0_0.length≤c0_0) (hr0_1:Kd.C k63 w A0_1 l0_1.length l0_1) (hc0_1:l0_1.length≤c0_1) (h:spec_GoodShape.f k l0_0 l0_1 a0_2 a0_3 a0_4 a0_5=some r):
  Calls Try.prog 17 #[.agg #[.slice A0_0 l0_0.length c0_0,.slice A0_1 l0_1.length c0_1,.bool a0_2,.int .i64 a0_3,.int .i64 a0_4,.int .i64 a0_5]] w fun e w'=>e=.returned (.bool r)∧Below w.heap.size w w':=by
 have hu32:=Try.underlying32
 have hu59:=Try.underlying59
 have hu63:=Try.underlying63
 have HR0_0:=A_ hr0_0
 have HC0_0:=A_ hc0_0
 clear hr0_0 hc0_0
 have HR0_1:=A_ hr0_1
 have HC0_1:=A_ hc0_1
 clear hr0_1 hc0_1
 have HB:=A_ (Below.refl w.heap.size w)
 have H:(if (l0_0.length:Int) > 10 then (spec_GoodShape.j0 k true l0_0 l0_1 a0_2 a0_3 a0_4 a0_5) else (spec_GoodShape.j0 k (decide ((l0_1.length:Int) > 6)) l0_0 l0_1 a0_2 a0_3 a0_4 a0_5))=some r:=h
 clear h
 have HC2:=A_ H
 clear H
 go_enter Try.func17,Try.ntmps17
 go_upto_region 1 with (first|((with_reducible refine gd_ 1 rfl ?_);(try (refine gate_guard (by rfl) ?_;dsimp only));refine bx_ #[.slice A0_0 l0_0.length c0_0,.slice A0_1 l0_1.length c0_1,.bool a0_2,.int .i64 a0_3,.int .i64 a0_4,.int .i64 a0_5] 32 ?_;intro gb267 hg w3 hbox hb;have BK267:=A_ hbox;have GW267:=gw_ hg HB;have GE267:=GW267;replace HB:=bs_ HB hb;clear hb hbox hg))
 (try simp only[Act.put,List.setIfInBounds_toArray,List.set_cons_zero,List.set_cons_succ])
 go_cut [16] (fun v16 wc=>∃ (kq:Nat) (x16_1:Bool),v16=.bool x16_1∧Aside0 (spec_GoodShape.j0 kq x16_1 l0_0 l0_1 a0_2 a0_3 a0_4 a0_5=some r)∧Aside0 (kq≤k)∧Aside0 (wc.heap[gb267]? =some (.cells #[(.slice A0_0 l0_0.length c0_0),(.slice A0_1 l0_1.length c0_1),.bool a0_2,.int .i64 a0_3,.int .i64 a0_4,.int .i64 a0_5] 32 (0,0)))∧Aside0 (Below w.heap.size w wc))
 case first=>
  have H:=HC2.out
  clear HC2
  by_cases c4:(l0_0.length:Int) > 10
  ·
   rw[if_pos c4] at H
   have c4b0:=decide_eq_true c4
   have c4b1:decide (10<l0_0.length)=true:=decide_eq_true (by omega)
   clear c4
   (first|rw[c4b0]|(simp only[i64_w,i32_w];rw[c4b0])|skip)
   have H':=A_ H
   clear H
   obtain⟨hcz5_0,hcz5_1,hcz5_2,hcz5_3,hcz5_4,hcz5_5⟩:=cs6_ BK267.out
   obtain⟨hfz5_0,hfz5_1,hfz5_2,hfz5_3,hfz5_4,hfz5_5⟩:=fz6_ BK267.out
   go_wp2
   go_meet
   case rel=>exact⟨_,(true),rs_,H',⟨by first|omega|exact Nat.le_refl _⟩,⟨bk BK267.out⟩,⟨bw HB.out⟩⟩
  rw[if_neg c4] at H
  have c4b0:=decide_eq_false c4
  have c4b1:decide (10<l0_0.length)=false:=decide_eq_false (by omega)
  clear c4
  (first|rw[c4b0]|(simp only[i64_w,i32_w];rw[c4b0])|skip)
  have H':=A_ H
  clear H
  obtain⟨hcz6_0,hcz6_1,hcz6_2,hcz6_3,hcz6_4,hcz6_5⟩:=cs6_ BK267.out
  obtain⟨hfz6_0,hfz6_1,hfz6_2,hfz6_3,hfz6_4,hfz6_5⟩:=fz6_ BK267.out
  go_wp2
  go_meet
  case rel=>exact⟨_,(decide ((l0_1.length:Int) > 6)),rs_,H',⟨by first|omega|exact Nat.le_refl _⟩,⟨bk BK267.out⟩,⟨bw HB.out⟩⟩
 case rest=>
  clear HC2
  obtain⟨kq,x16_1,rfl,HA,HJ1,BK267,HB⟩:=hcut
  cases kq with
  |zero=>exact absurd HA.out (by simp[spec_GoodShape.j0])
  |succ kj1=>
   have H:=HA.out
   clear HA
   simp only[spec_GoodShape.j0] at H
   by_cases c7:x16_1=true
   ·
    subst c7
    replace H:=iT_ H
    obtain rfl:=Option.some.inj H
    clear H
    go_wp2
    go_ret
    exact⟨rr_,bw HB.out⟩
   replace c7:=Bool.eq_false_iff.mpr c7
   subst c7
   replace H:=iF_ H
   have H':=A_ H
   clear H
   obtain⟨hcz8_0,hcz8_1,hcz8_2,hcz8_3,hcz8_4,hcz8_5⟩:=cs6_ BK267.out
   obtain⟨hfz8_0,hfz8_1,hfz8_2,hfz8_3,hfz8_4,hfz8_5⟩:=fz6_ BK267.out
   go_wp2
   (try simp only[Act.put,List.setIfInBounds_toArray,List.set_cons_zero,List.set_cons_succ])
   go_loopg [20] kj1 (fun kq v20 w'=>∃ (x20_2:Int),v20=.int .i64 x20_2∧Aside0 (spec_GoodShape.l0 kq l0_0 (l0_0.length:Int) x20_2 l0_0 l0_1 a0_2 a0_3 a0_4 a0_5=some r)∧Aside0 (kq≤kj1)∧Aside0 (w'.heap[gb267]? =some (.cells #[(.slice A0_0 l0_0.length c0_0),(.slice A0_1 l0_1.length c0_1),.bool a0_2,.int .i64 a0_3,.int .i64 a0_4,.int .i64 a0_5] 32 (0,0)))∧Aside0 (Below w.heap.size w w'))
   case atStart=>exact⟨(0),rs_,H',⟨Nat.le_refl _⟩,⟨bk BK267.out⟩,⟨bw HB.out⟩⟩
   case round=>
    clear H'
    try clear c7 hcz8_0 hcz8_1 hcz8_2 hcz8_3 hcz8_4 hcz8_5 hfz8_0 hfz8_1 hfz8_2 hfz8_3 hfz8_4 hfz8_5
    obtain⟨x20_2,rfl,HA,HK2,BK267,HB⟩:=hrel
    cases gk with
    |zero=>exact absurd HA.out (by simp[spec_GoodShape.l0])
    |succ k2=>
     have H:=HA.out
     clear HA
     simp only[spec_GoodShape.l0] at H
     by_cases c9:x20_2<(l0_0.length:Int)
     ·
      rw[if_pos c9] at H
      have c9b0:=decide_eq_true c9
      clear c9
      by_cases c10:0≤x20_2
      ·
       rw[if_pos c10] at H
       have c10b0:=decide_eq_true c10
       clear c10
       by_cases c11:x20_2<(l0_0.length:Int)
       ·
        rw[if_pos c11] at H
        have c11b0:=decide_eq_true c11
        clear c11
        replace H:=bi_ H
        obtain⟨t270,A120,H⟩:=H
        have A12:=A_ A120
        clear A120
        by_cases c13:t270=true
        ·
         subst c13
         replace H:=iT_ H
         have H':=A_ H
         clear H
         have p268:0≤(x20_2:Int):=od_
         have q268:x20_2<(l0_0.length:Int):=od_
         obtain⟨ad268,A268_0,c268_0,A268_2,c268_2,A268_3,c268_3,e268,hx268_0,hx268_1,hx268_2,hx268_3,hl268_0,hi268_0,hl268_2,hi268_2,hl268_3,hi268_3⟩:=at_T59 HR0_0.out x20_2 p268 q268
         cases e268
         replace hx268_0:=cl_ HB.out hx268_0
         replace hx268_1:=cl_ HB.out hx268_1
         replace hx268_2:=cl_ HB.out hx268_2
         replace hx268_3:=cl_ HB.out hx268_3
         have HR268_0:=A_ hi268_0
         have HC268_0:=A_ hl268_0
         clear hi268_0 hl268_0
         have HR268_2:=A_ hi268_2
         have HC268_2:=A_ hl268_2
         clear hi268_2 hl268_2
         have HR268_3:=A_ hi268_3
         have HC268_3:=A_ hl268_3
         clear hi268_3 hl268_3
         replace p268:=eq_true p268
         replace q268:=eq_true q268
         go_wp2_with (first|((with_reducible refine gd_ 4 rfl ?_);(try (refine gate_guard (by rfl) ?_;dsimp only));refine bx_ #[.slice none 0 0,.int .i64 0,.slice none 0 0,.slice none 0 0] 59 ?_;intro gb269 hg w14 hbox hb;have BK269:=A_ hbox;have GW269:=gw_ hg HB;have GE269:=GW269;obtain⟨NB267_269,NB269_267⟩:=nb_ BK267 hg;replace BK267:=kb_ BK267 hb;replace HB:=bs_ HB hb;clear hb hbox hg;have hnb15:=NB269_267.out;have hnc15:=NB267_269.out;obtain⟨hcz16_0,hcz16_1,hcz16_2,hcz16_3⟩:=cs4_ BK269.out;obtain⟨hfz16_0,hfz16_1,hfz16_2,hfz16_3⟩:=fz4_ BK269.out)|((with_reducible refine gc_ 27 rfl ?_);refine goesL_ (some 25) rfl rfl Try.func27 (by kernel_rfl) rfl #[.agg #[.slice A268_0 ((rd_T59 l0_0 x20_2).f0).length c268_0,.int .i64 ((rd_T59 l0_0 x20_2).f1),.slice A268_2 ((rd_T59 l0_0 x20_2).f2).length c268_2,.slice A268_3 ((rd_T59 l0_0 x20_2).f3).length c268_3]] rfl ar ?_;(with_reducible refine(spec_l7Func.calls k2 _ _ ((rd_T59 l0_0 x20_2).f0) ((rd_T59 l0_0 x20_2).f1) _ _ ((rd_T59 l0_0 x20_2).f2) _ _ ((rd_T59 l0_0 x20_2).f3) true _ ?side1 ?side2 ?side3 ?side4 ?side5 ?side6 A12.out).mono ?_);(case side1=>exact Kd.C_below HR268_0.out (bw HB.out));(case side2=>exact HC268_0.out);(case side3=>exact Kd.C_below HR268_2.out (bw HB.out));(case side4=>exact HC268_2.out);(case side5=>exact Kd.C_below HR268_3.out (bw HB.out));(case side6=>exact HC268_3.out);rintro e w17 ⟨rfl,hb⟩;refine⟨_,rfl,?_⟩;replace BK267:=A_ (blk_below (g:=gb267) (o:=.cells #[.slice (some ad268) l0_0.length c0_0,.slice A0_1 l0_1.length c0_1,.bool a0_2,.int .i64 a0_3,.int .i64 a0_4,.int .i64 a0_5] 32 (0,0)) (by refine blk_far ?_ NB267_269.out _;refine blk_far ?_ NB267_269.out _;refine blk_far ?_ NB267_269.out _;refine blk_far ?_ NB267_269.out _;(with_reducible repeat (first|refine blk_drewN ?_ _|refine blk_drew ?_|refine blk_alloc ?_ _));exact BK267.out) hb);replace BK269:=A_ (blk_below (g:=gb269) (o:=.cells #[.slice A268_0 ((rd_T59 l0_0 x20_2).f0).length c268_0,.int .i64 ((rd_T59 l0_0 x20_2).f1),.slice A268_2 ((rd_T59 l0_0 x20_2).f2).length c268_2,.slice A268_3 ((rd_T59 l0_0 x20_2).f3).length c268_3] 59 (0,0)) (by refine blk_put (cs:=#[.slice A268_0 ((rd_T59 l0_0 x20_2).f0).length c268_0,.int .i64 ((rd_T59 l0_0 x20_2).f1),.slice A268_2 ((rd_T59 l0_0 x20_2).f2).length c268_2,.slice none 0 0]) ?_ 3 _ rfl;refine blk_put (cs:=#[.slice A268_0 ((rd_T59 l0_0 x20_2).f0).length c268_0,.int .i64 ((rd_T59 l0_0 x20_2).f1),.slice none 0 0,.slice none 0 0]) ?_ 2 _ rfl;refine blk_put (cs:=#[.slice A268_0 ((rd_T59 l0_0 x20_2).f0).length c268_0,.int .i64 0,.slice none 0 0,.slice none 0 0]) ?_ 1 _ rfl;refine blk_put (cs:=#[.slice none 0 0,.int .i64 0,.slice none 0 0,.slice none 0 0]) ?_ 0 _ rfl;(with_reducible repeat (first|refine blk_drewN ?_ _|refine blk_drew ?_|refine blk_alloc ?_ _));exact BK269.out) hb);replace HB:=bs_ HB hb;(try clear hb)))
         go_roundg k2
         case measure=>have:=HJ1.out;have:=HK2.out;omega
         case rel=>exact⟨(wrap64 (x20_2+1)),rs_,H',⟨by have:=HJ1.out;have:=HK2.out;omega⟩,⟨bk BK267.out⟩,⟨bw HB.out⟩⟩
        replace c13:=Bool.eq_false_iff.mpr c13
        subst c13
        replace H:=iF_ H
        obtain rfl:=Option.some.inj H
        clear H
        have p268:0≤(x20_2:Int):=od_
        have q268:x20_2<(l0_0.length:Int):=od_
        obtain⟨ad268,A268_0,c268_0,A268_2,c268_2,A268_3,c268_3,e268,hx268_0,hx268_1,hx268_2,hx268_3,hl268_0,hi268_0,hl268_2,hi268_2,hl268_3,hi268_3⟩:=at_T59 HR0_0.out x20_2 p268 q268
        cases e268
        replace hx268_0:=cl_ HB.out hx268_0
        replace hx268_1:=cl_ HB.out hx268_1
        replace hx268_2:=cl_ HB.out hx268_2
        replace hx268_3:=cl_ HB.out hx268_3
        have HR268_0:=A_ hi268_0
        have HC268_0:=A_ hl268_0
        clear hi268_0 hl268_0
        have HR268_2:=A_ hi268_2
        have HC268_2:=A_ hl268_2
        clear hi268_2 hl268_2
        have HR268_3:=A_ hi268_3
        have HC268_3:=A_ hl268_3
        clear hi268_3 hl268_3
        replace p268:=eq_true p268
        replace q268:=eq_true q268
        go_wp2_with (first|((with_reducible refine gd_ 4 rfl ?_);(try (refine gate_guard (by rfl) ?_;dsimp only));refine bx_ #[.slice none 0 0,.int .i64 0,.slice none 0 0,.slice none 0 0] 59 ?_;intro gb269 hg w18 hbox hb;have BK269:=A_ hbox;have GW269:=gw_ hg HB;have GE269:=GW269;obtain⟨NB267_269,NB269_267⟩:=nb_ BK267 hg;replace BK267:=kb_ BK267 hb;replace HB:=bs_ HB hb;clear hb hbox hg;have hnb19:=NB269_267.out;have hnc19:=NB267_269.out;obtain⟨hcz20_0,hcz20_1,hcz20_2,hcz20_3⟩:=cs4_ BK269.out;obtain⟨hfz20_0,hfz20_1,hfz20_2,hfz20_3⟩:=fz4_ BK269.out)|((with_reducible refine gc_ 27 rfl ?_);refine goesL_ (some 25) rfl rfl Try.func27 (by kernel_rfl) rfl #[.agg #[.slice A268_0 ((rd_T59 l0_0 x20_2).f0).length c268_0,.int .i64 ((rd_T59 l0_0 x20_2).f1),.slice A268_2 ((rd_T59 l0_0 x20_2).f2).length c268_2,.slice A268_3 ((rd_T59 l0_0 x20_2).f3).length c268_3]] rfl ar ?_;(with_reducible refine(spec_l7Func.calls k2 _ _ ((rd_T59 l0_0 x20_2).f0) ((rd_T59 l0_0 x20_2).f1) _ _ ((rd_T59 l0_0 x20_2).f2) _ _ ((rd_T59 l0_0 x20_2).f3) false _ ?side1 ?side2 ?side3 ?side4 ?side5 ?side6 A12.out).mono ?_);(case side1=>exact Kd.C_below HR268_0.out (bw HB.out));(case side2=>exact HC268_0.out);(case side3=>exact Kd.C_below HR268_2.out (bw HB.out));(case side4=>exact HC268_2.out);(case side5=>exact Kd.C_below HR268_3.out (bw HB.out));(case side6=>exact HC268_3.out);rintro e w21 ⟨rfl,hb⟩;refine⟨_,rfl,?_⟩;replace BK267:=A_ (blk_below (g:=gb267) (o:=.cells #[.slice (some ad268) l0_0.length c0_0,.slice A0_1 l0_1.length c0_1,.bool a0_2,.int .i64 a0_3,.int .i64 a0_4,.int .i64 a0_5] 32 (0,0)) (by refine blk_far ?_ NB267_269.out _;refine blk_far ?_ NB267_269.out _;refine blk_far ?_ NB267_269.out _;refine blk_far ?_ NB267_269.out _;(with_reducible repeat (first|refine blk_drewN ?_ _|refine blk_drew ?_|refine blk_alloc ?_ _));exact BK267.out) hb);replace BK269:=A_ (blk_below (g:=gb269) (o:=.cells #[.slice A268_0 ((rd_T59 l0_0 x20_2).f0).length c268_0,.int .i64 ((rd_T59 l0_0 x20_2).f1),.slice A268_2 ((rd_T59 l0_0 x20_2).f2).length c268_2,.slice A268_3 ((rd_T59 l0_0 x20_2).f3).length c268_3] 59 (0,0)) (by refine blk_put (cs:=#[.slice A268_0 ((rd_T59 l0_0 x20_2).f0).length c268_0,.int .i64 ((rd_T59 l0_0 x20_2).f1),.slice A268_2 ((rd_T59 l0_0 x20_2).f2).length c268_2,.slice none 0 0]) ?_ 3 _ rfl;refine blk_put (cs:=#[.slice A268_0 ((rd_T59 l0_0 x20_2).f0).length c268_0,.int .i64 ((rd_T59 l0_0 x20_2).f1),.slice none 0 0,.slice none 0 0]) ?_ 2 _ rfl;refine blk_put (cs:=#[.slice A268_0 ((rd_T59 l0_0 x20_2).f0).length c268_0,.int .i64 0,.slice none 0 0,.slice none 0 0]) ?_ 1 _ rfl;refine blk_put (cs:=#[.slice none 0 0,.int .i64 0,.slice none 0 0,.slice none 0 0]) ?_ 0 _ rfl;(with_reducible repeat (first|refine blk_drewN ?_ _|refine blk_drew ?_|refine blk_alloc ?_ _));exact BK269.out) hb);replace HB:=bs_ HB hb;(try clear hb)))
        go_ret
        exact⟨rr_,bw HB.out⟩
       rw[if_neg c11] at H
       exact absurd H (by simp)
      rw[if_neg c10] at H
      exact absurd H (by simp)
     rw[if_neg c9] at H
     have c9b0:=decide_eq_false c9
     clear c9
     have H':=A_ H
     clear H
     obtain⟨hcz22_0,hcz22_1,hcz22_2,hcz22_3,hcz22_4,hcz22_5⟩:=cs6_ BK267.out
     obtain⟨hfz22_0,hfz22_1,hfz22_2,hfz22_3,hfz22_4,hfz22_5⟩:=fz6_ BK267.out
     go_wp2
     (try simp only[Act.put,List.setIfInBounds_toArray,List.set_cons_zero,List.set_cons_succ])
     go_loopg [31] k2 (fun kq v31 w'=>∃ (x31_3:Int),v31=.int .i64 x31_3∧Aside0 (spec_GoodShape.l1 kq l0_1 (l0_1.length:Int) x31_3 l0_0 l0_1 a0_2 a0_3 a0_4 a0_5=some r)∧Aside0 (kq≤k2)∧Aside0 (w'.heap[gb267]? =some (.cells #[(.slice A0_0 l0_0.length c0_0),(.slice A0_1 l0_1.length c0_1),.bool a0_2,.int .i64 a0_3,.int .i64 a0_4,.int .i64 a0_5] 32 (0,0)))∧Aside0 (Below w.heap.size w w'))
     case atStart=>exact⟨(0),rs_,H',⟨Nat.le_refl _⟩,⟨bk BK267.out⟩,⟨bw HB.out⟩⟩
     case round=>
      clear H'
      try clear c7 c9 c9b0 hcz22_0 hcz22_1 hcz22_2 hcz22_3 hcz22_4 hcz22_5 hcz8_0 hcz8_1 hcz8_2 hcz8_3 hcz8_4 hcz8_5 hfz22_0 hfz22_1 hfz22_2 hfz22_3 hfz22_4 hfz22_5 hfz8_0 hfz8_1 hfz8_2 hfz8_3 hfz8_4 hfz8_5
      obtain⟨x31_3,rfl,HA,HK3,BK267,HB⟩:=hrel
      cases gk with
      |zero=>exact absurd HA.out (by simp[spec_GoodShape.l1])
      |succ k3=>
       have H:=HA.out
       clear HA
       simp only[spec_GoodShape.l1] at H
       by_cases c23:x31_3<(l0_1.length:Int)
       ·
        rw[if_pos c23] at H
        have c23b0:=decide_eq_true c23
        clear c23
        by_cases c24:0≤x31_3
        ·
         rw[if_pos c24] at H
         have c24b0:=decide_eq_true c24
         clear c24
         by_cases c25:x31_3<(l0_1.length:Int)
         ·
          rw[if_pos c25] at H
          have c25b0:=decide_eq_true c25
          clear c25
          replace H:=bi_ H
          obtain⟨t273,A260,H⟩:=H
          have A26:=A_ A260
          clear A260
          by_cases c27:t273=true
          ·
           subst c27
           replace H:=iT_ H
           by_cases c28:((rd_T63 l0_1 x31_3).f0)=126
           ·
            rw[if_pos c28] at H
            obtain⟨c28b0,c28b1⟩:=eT_ c28
            clear c28
            have H':=A_ H
            clear H
            have p271:0≤(x31_3:Int):=od_
            have q271:x31_3<(l0_1.length:Int):=od_
            obtain⟨ad271,e271,hx271_0,hx271_1,hx271_2⟩:=at_T63 HR0_1.out x31_3 p271 q271
            cases e271
            replace hx271_0:=cl_ HB.out hx271_0
            replace hx271_1:=cl_ HB.out hx271_1
            replace hx271_2:=cl_ HB.out hx271_2
            replace p271:=eq_true p271
            replace q271:=eq_true q271
            go_wp2_with (first|((with_reducible refine gd_ 6 rfl ?_);(try (refine gate_guard (by rfl) ?_;dsimp only));refine bx_ #[.int .i64 0,.bool false,.int .u64 0] 63 ?_;intro gb272 hg w29 hbox hb;have BK272:=A_ hbox;have GW272:=gw_ hg HB;have GE272:=GW272;obtain⟨NB267_272,NB272_267⟩:=nb_ BK267 hg;replace BK267:=kb_ BK267 hb;replace HB:=bs_ HB hb;clear hb hbox hg;have hnb30:=NB272_267.out;have hnc30:=NB267_272.out;obtain⟨hcz31_0,hcz31_1,hcz31_2⟩:=cs3_ BK272.out;obtain⟨hfz31_0,hfz31_1,hfz31_2⟩:=fz3_ BK272.out)|((with_reducible refine gc_ 28 rfl ?_);refine gn_ (some 37) Try.func28 (spec_l6Type.calls ((rd_T63 l0_1 x31_3).f0) true _ A26.out) ?_;intro nd))
            go_roundg k3
            case measure=>have:=HJ1.out;have:=HK2.out;have:=HK3.out;omega
            case rel=>exact⟨(wrap64 (x31_3+1)),rs_,H',⟨by have:=HJ1.out;have:=HK2.out;have:=HK3.out;omega⟩,⟨by refine blk_far ?_ NB267_272.out _;refine blk_far ?_ NB267_272.out _;refine blk_far ?_ NB267_272.out _;(with_reducible repeat (first|refine blk_drewN ?_ _|refine blk_drew ?_|refine blk_alloc ?_ _));exact BK267.out⟩,⟨bw HB.out⟩⟩
           rw[if_neg c28] at H
           obtain⟨c28b0,c28b1⟩:=eF_ c28
           by_cases c32:((rd_T63 l0_1 x31_3).f2) > 4294967295
           ·
            rw[if_pos c32] at H
            have c32b0:=decide_eq_true c32
            clear c32
            obtain rfl:=Option.some.inj H
            clear H
            have p271:0≤(x31_3:Int):=od_
            have q271:x31_3<(l0_1.length:Int):=od_
            obtain⟨ad271,e271,hx271_0,hx271_1,hx271_2⟩:=at_T63 HR0_1.out x31_3 p271 q271
            cases e271
            replace hx271_0:=cl_ HB.out hx271_0
            replace hx271_1:=cl_ HB.out hx271_1
            replace hx271_2:=cl_ HB.out hx271_2
            replace p271:=eq_true p271
            replace q271:=eq_true q271
            go_wp2_with (first|((with_reducible refine gd_ 6 rfl ?_);(try (refine gate_guard (by rfl) ?_;dsimp only));refine bx_ #[.int .i64 0,.bool false,.int .u64 0] 63 ?_;intro gb272 hg w33 hbox hb;have BK272:=A_ hbox;have GW272:=gw_ hg HB;have GE272:=GW272;obtain⟨NB267_272,NB272_267⟩:=nb_ BK267 hg;replace BK267:=kb_ BK267 hb;replace HB:=bs_ HB hb;clear hb hbox hg;have hnb34:=NB272_267.out;have hnc34:=NB267_272.out;obtain⟨hcz35_0,hcz35_1,hcz35_2⟩:=cs3_ BK272.out;obtain⟨hfz35_0,hfz35_1,hfz35_2⟩:=fz3_ BK272.out)|((with_reducible refine gc_ 28 rfl ?_);refine gn_ (some 37) Try.func28 (spec_l6Type.calls ((rd_T63 l0_1 x31_3).f0) true _ A26.out) ?_;intro nd))
            go_ret
            exact⟨rr_,bw HB.out⟩
           rw[if_neg c32] at H
           have c32b0:=decide_eq_false c32
           clear c32
           have H':=A_ H
           clear H
           have p271:0≤(x31_3:Int):=od_
           have q271:x31_3<(l0_1.length:Int):=od_
           obtain⟨ad271,e271,hx271_0,hx271_1,hx271_2⟩:=at_T63 HR0_1.out x31_3 p271 q271
           cases e271
           replace hx271_0:=cl_ HB.out hx271_0
           replace hx271_1:=cl_ HB.out hx271_1
           replace hx271_2:=cl_ HB.out hx271_2
           replace p271:=eq_true p271
           replace q271:=eq_true q271
           go_wp2_with (first|((with_reducible refine gd_ 6 rfl ?_);(try (refine gate_guard (by rfl) ?_;dsimp only));refine bx_ #[.int .i64 0,.bool false,.int .u64 0] 63 ?_;intro gb272 hg w36 hbox hb;have BK272:=A_ hbox;have GW272:=gw_ hg HB;have GE272:=GW272;obtain⟨NB267_272,NB272_267⟩:=nb_ BK267 hg;replace BK267:=kb_ BK267 hb;replace HB:=bs_ HB hb;clear hb hbox hg;have hnb37:=NB272_267.out;have hnc37:=NB267_272.out;obtain⟨hcz38_0,hcz38_1,hcz38_2⟩:=cs3_ BK272.out;obtain⟨hfz38_0,hfz38_1,hfz38_2⟩:=fz3_ BK272.out)|((with_reducible refine gc_ 28 rfl ?_);refine gn_ (some 37) Try.func28 (spec_l6Type.calls ((rd_T63 l0_1 x31_3).f0) true _ A26.out) ?_;intro nd))
           go_roundg k3
           case measure=>have:=HJ1.out;have:=HK2.out;have:=HK3.out;omega
           case rel=>exact⟨(wrap64 (x31_3+1)),rs_,H',⟨by have:=HJ1.out;have:=HK2.out;have:=HK3.out;omega⟩,⟨by refine blk_far ?_ NB267_272.out _;refine blk_far ?_ NB267_272.out _;refine blk_far ?_ NB267_272.out _;(with_reducible repeat (first|refine blk_drewN ?_ _|refine blk_drew ?_|refine blk_alloc ?_ _));exact BK267.out⟩,⟨bw HB.out⟩⟩
          replace c27:=Bool.eq_false_iff.mpr c27
          subst c27
          replace H:=iF_ H
          obtain rfl:=Option.some.inj H
          clear H
          have p271:0≤(x31_3:Int):=od_
          have q271:x31_3<(l0_1.length:Int):=od_
          obtain⟨ad271,e271,hx271_0,hx271_1,hx271_2⟩:=at_T63 HR0_1.out x31_3 p271 q271
          cases e271
          replace hx271_0:=cl_ HB.out hx271_0
          replace hx271_1:=cl_ HB.out hx271_1
          replace hx271_2:=cl_ HB.out hx271_2
          replace p271:=eq_true p271
          replace q271:=eq_true q271
          go_wp2_with (first|((with_reducible refine gd_ 6 rfl ?_);(try (refine gate_guard (by rfl) ?_;dsimp only));refine bx_ #[.int .i64 0,.bool false,.int .u64 0] 63 ?_;intro gb272 hg w39 hbox hb;have BK272:=A_ hbox;have GW272:=gw_ hg HB;have GE272:=GW272;obtain⟨NB267_272,NB272_267⟩:=nb_ BK267 hg;replace BK267:=kb_ BK267 hb;replace HB:=bs_ HB hb;clear hb hbox hg;have hnb40:=NB272_267.out;have hnc40:=NB267_272.out;obtain⟨hcz41_0,hcz41_1,hcz41_2⟩:=cs3_ BK272.out;obtain⟨hfz41_0,hfz41_1,hfz41_2⟩:=fz3_ BK272.out)|((with_reducible refine gc_ 28 rfl ?_);refine gn_ (some 37) Try.func28 (spec_l6Type.calls ((rd_T63 l0_1 x31_3).f0) false _ A26.out) ?_;intro nd))
          go_ret
          exact⟨rr_,bw HB.out⟩
         rw[if_neg c25] at H
         exact absurd H (by simp)
        rw[if_neg c24] at H
        exact absurd H (by simp)
       rw[if_neg c23] at H
       have c23b0:=decide_eq_false c23
       clear c23
       have HC42:=A_ H
       clear H
       go_upto_region 15 with (fail)
       go_cut [80] (fun v80 wc=>∃ (kq:Nat) (x80_41:Bool),v80=.bool x80_41∧Aside0 (spec_GoodShape.j3 kq x80_41 l0_0 l0_1 a0_2 a0_3 a0_4 a0_5=some r)∧Aside0 (kq≤k3)∧Aside0 (wc.heap[gb267]? =some (.cells #[(.slice A0_0 l0_0.length c0_0),(.slice A0_1 l0_1.length c0_1),.bool a0_2,.int .i64 a0_3,.int .i64 a0_4,.int .i64 a0_5] 32 (0,0)))∧Aside0 (Below w.heap.size w wc))
       case first=>
        have H:=HC42.out
        clear HC42
        by_cases c43:a0_2=true
        ·
         subst c43
         replace H:=iT_ H
         replace H:=bi_ H
         obtain⟨t274,A440,H⟩:=H
         have A44:=A_ A440
         clear A440
         by_cases c45:t274=true
         ·
          subst c45
          replace H:=iT_ H
          replace H:=bi_ H
          obtain⟨t275,A460,H⟩:=H
          have A46:=A_ A460
          clear A460
          by_cases c47:t275=true
          ·
           subst c47
           replace H:=iT_ H
           have H':=A_ H
           clear H
           obtain⟨hcz48_0,hcz48_1,hcz48_2,hcz48_3,hcz48_4,hcz48_5⟩:=cs6_ BK267.out
           obtain⟨hfz48_0,hfz48_1,hfz48_2,hfz48_3,hfz48_4,hfz48_5⟩:=fz6_ BK267.out
           go_wp2_with (first|(go_at_call 18;(with_reducible refine(spec_l1In.calls a0_4 0 8 true _ A44.out).mono ?_);rintro e w' ⟨rfl,⟨nd,rfl⟩⟩)|(go_at_call 18;(with_reducible refine(spec_l1In.calls a0_3 0 a0_4 true _ A46.out).mono ?_);rintro e w' ⟨rfl,⟨nd,rfl⟩⟩))
           go_meet
           case rel=>exact⟨_,(false),rs_,H',⟨by have:=HJ1.out;have:=HK2.out;have:=HK3.out;first|omega|exact Nat.le_refl _⟩,⟨bk BK267.out⟩,⟨bw HB.out⟩⟩
          replace c47:=Bool.eq_false_iff.mpr c47
          subst c47
          replace H:=iF_ H
          have H':=A_ H
          clear H
          obtain⟨hcz49_0,hcz49_1,hcz49_2,hcz49_3,hcz49_4,hcz49_5⟩:=cs6_ BK267.out
          obtain⟨hfz49_0,hfz49_1,hfz49_2,hfz49_3,hfz49_4,hfz49_5⟩:=fz6_ BK267.out
          go_wp2_with (first|(go_at_call 18;(with_reducible refine(spec_l1In.calls a0_4 0 8 true _ A44.out).mono ?_);rintro e w' ⟨rfl,⟨nd,rfl⟩⟩)|(go_at_call 18;(with_reducible refine(spec_l1In.calls a0_3 0 a0_4 false _ A46.out).mono ?_);rintro e w' ⟨rfl,⟨nd,rfl⟩⟩))
          go_meet
          case rel=>exact⟨_,(true),rs_,H',⟨by have:=HJ1.out;have:=HK2.out;have:=HK3.out;first|omega|exact Nat.le_refl _⟩,⟨bk BK267.out⟩,⟨bw HB.out⟩⟩
         replace c45:=Bool.eq_false_iff.mpr c45
         subst c45
         replace H:=iF_ H
         have H':=A_ H
         clear H
         obtain⟨hcz50_0,hcz50_1,hcz50_2,hcz50_3,hcz50_4,hcz50_5⟩:=cs6_ BK267.out
         obtain⟨hfz50_0,hfz50_1,hfz50_2,hfz50_3,hfz50_4,hfz50_5⟩:=fz6_ BK267.out
         go_wp2_with (first|(go_at_call 18;(with_reducible refine(spec_l1In.calls a0_4 0 8 false _ A44.out).mono ?_);rintro e w' ⟨rfl,⟨nd,rfl⟩⟩))
         go_meet
         case rel=>exact⟨_,(true),rs_,H',⟨by have:=HJ1.out;have:=HK2.out;have:=HK3.out;first|omega|exact Nat.le_refl _⟩,⟨bk BK267.out⟩,⟨bw HB.out⟩⟩
        replace c43:=Bool.eq_false_iff.mpr c43
        subst c43
        replace H:=iF_ H
        by_cases c51:a0_3=0
        ·
         rw[if_pos c51] at H
         obtain⟨c51b0,c51b1⟩:=eT_ c51
         clear c51
         (first|rw[c51b0]|(simp only[i64_w,i32_w];rw[c51b0])|skip)
         have H':=A_ H
         clear H
         obtain⟨hcz52_0,hcz52_1,hcz52_2,hcz52_3,hcz52_4,hcz52_5⟩:=cs6_ BK267.out
         obtain⟨hfz52_0,hfz52_1,hfz52_2,hfz52_3,hfz52_4,hfz52_5⟩:=fz6_ BK267.out
         go_wp2
         go_meet
         case rel=>exact⟨_,((a0_4 !=0)),rs_,H',⟨by have:=HJ1.out;have:=HK2.out;have:=HK3.out;first|omega|exact Nat.le_refl _⟩,⟨bk BK267.out⟩,⟨bw HB.out⟩⟩
        rw[if_neg c51] at H
        obtain⟨c51b0,c51b1⟩:=eF_ c51
        (first|rw[c51b0]|(simp only[i64_w,i32_w];rw[c51b0])|skip)
        have H':=A_ H
        clear H
        obtain⟨hcz53_0,hcz53_1,hcz53_2,hcz53_3,hcz53_4,hcz53_5⟩:=cs6_ BK267.out
        obtain⟨hfz53_0,hfz53_1,hfz53_2,hfz53_3,hfz53_4,hfz53_5⟩:=fz6_ BK267.out
        go_wp2
        go_meet
        case rel=>exact⟨_,(true),rs_,H',⟨by have:=HJ1.out;have:=HK2.out;have:=HK3.out;first|omega|exact Nat.le_refl _⟩,⟨bk BK267.out⟩,⟨bw HB.out⟩⟩
       case rest=>
        clear HC42
        try clear c7 c9 c9b0 c23 c23b0 hcz22_0 hcz22_1 hcz22_2 hcz22_3 hcz22_4 hcz22_5 hcz8_0 hcz8_1 hcz8_2 hcz8_3 hcz8_4 hcz8_5 hfz22_0 hfz22_1 hfz22_2 hfz22_3 hfz22_4 hfz22_5 hfz8_0 hfz8_1 hfz8_2 hfz8_3 hfz8_4 hfz8_5
        obtain⟨kq,x80_41,rfl,HA,HJ41,BK267,HB⟩:=hcut
        cases kq with
        |zero=>exact absurd HA.out (by simp[spec_GoodShape.j3])
        |succ kj41=>
         have H:=HA.out
         clear HA
         simp only[spec_GoodShape.j3] at H
         by_cases c54:x80_41=true
         ·
          subst c54
          replace H:=iT_ H
          obtain rfl:=Option.some.inj H
          clear H
          go_wp2
          go_ret
          exact⟨rr_,bw HB.out⟩
         replace c54:=Bool.eq_false_iff.mpr c54
         subst c54
         replace H:=iF_ H
         by_cases c55:a0_5=(-1)
         ·
          rw[if_pos c55] at H
          obtain⟨c55b0,c55b1⟩:=eT_ c55
          clear c55
          obtain rfl:=Option.some.inj H
          clear H
          obtain⟨hcz56_0,hcz56_1,hcz56_2,hcz56_3,hcz56_4,hcz56_5⟩:=cs6_ BK267.out
          obtain⟨hfz56_0,hfz56_1,hfz56_2,hfz56_3,hfz56_4,hfz56_5⟩:=fz6_ BK267.out
          go_wp2
          go_ret
          exact⟨rr_,bw HB.out⟩
         rw[if_neg c55] at H
         obtain⟨c55b0,c55b1⟩:=eF_ c55
         replace H:=bi_ H
         obtain⟨t276,A570,H⟩:=H
         have A57:=A_ A570
         clear A570
         by_cases c58:t276=true
         ·
          subst c58
          replace H:=iT_ H
          by_cases c59:0≤a0_5
          ·
           rw[if_pos c59] at H
           have c59b0:=decide_eq_true c59
           clear c59
           by_cases c60:a0_5<(l0_0.length:Int)
           ·
            rw[if_pos c60] at H
            have c60b0:=decide_eq_true c60
            clear c60
            by_cases c61:(((rd_T59 l0_0 a0_5).f0).length:Int)=0
            ·
             rw[if_pos c61] at H
             obtain⟨c61b0,c61b1⟩:=eT_ c61
             clear c61
             obtain rfl:=Option.some.inj H
             clear H
             obtain⟨hcz62_0,hcz62_1,hcz62_2,hcz62_3,hcz62_4,hcz62_5⟩:=cs6_ BK267.out
             obtain⟨hfz62_0,hfz62_1,hfz62_2,hfz62_3,hfz62_4,hfz62_5⟩:=fz6_ BK267.out
             go_wp2_with (first|((with_reducible refine gc_ 18 rfl ?_);refine gn_ (some 90) Try.func18 (spec_l1In.calls a0_5 0 (wrap64 ((l0_0.length:Int) - 1)) true _ A57.out) ?_;intro nd;have p277:0≤(a0_5:Int):=od_;have q277:a0_5<(l0_0.length:Int):=od_;obtain⟨ad277,A277_0,c277_0,A277_2,c277_2,A277_3,c277_3,e277,hx277_0,hx277_1,hx277_2,hx277_3,hl277_0,hi277_0,hl277_2,hi277_2,hl277_3,hi277_3⟩:=at_T59 HR0_0.out a0_5 p277 q277;cases e277;replace hx277_0:=cl_ HB.out hx277_0;replace hx277_1:=cl_ HB.out hx277_1;replace hx277_2:=cl_ HB.out hx277_2;replace hx277_3:=cl_ HB.out hx277_3;have HR277_0:=A_ hi277_0;have HC277_0:=A_ hl277_0;clear hi277_0 hl277_0;have HR277_2:=A_ hi277_2;have HC277_2:=A_ hl277_2;clear hi277_2 hl277_2;have HR277_3:=A_ hi277_3;have HC277_3:=A_ hl277_3;clear hi277_3 hl277_3;replace p277:=eq_true p277;replace q277:=eq_true q277;have p278:0≤(a0_5:Int):=od_;have q278:a0_5<(l0_0.length:Int):=od_;obtain⟨ad278,A278_0,c278_0,A278_2,c278_2,A278_3,c278_3,e278,hx278_0,hx278_1,hx278_2,hx278_3,hl278_0,hi278_0,hl278_2,hi278_2,hl278_3,hi278_3⟩:=at_T59 HR0_0.out a0_5 p278 q278;obtain rfl:ad277=ad278:=(by injection e278);replace hx278_0:=cl_ HB.out hx278_0;replace hx278_1:=cl_ HB.out hx278_1;replace hx278_2:=cl_ HB.out hx278_2;replace hx278_3:=cl_ HB.out hx278_3;have HR278_0:=A_ hi278_0;have HC278_0:=A_ hl278_0;clear hi278_0 hl278_0;have HR278_2:=A_ hi278_2;have HC278_2:=A_ hl278_2;clear hi278_2 hl278_2;have HR278_3:=A_ hi278_3;have HC278_3:=A_ hl278_3;clear hi278_3 hl278_3;replace p278:=eq_true p278;replace q278:=eq_true q278;have ea_:=Option.some.inj (hx277_0.symm.trans hx278_0);injection ea_ with ea_ en_ ec_;subst ea_;subst ec_;clear en_;have ea_:=Option.some.inj (hx277_2.symm.trans hx278_2);injection ea_ with ea_ en_ ec_;subst ea_;subst ec_;clear en_;have ea_:=Option.some.inj (hx277_3.symm.trans hx278_3);injection ea_ with ea_ en_ ec_;subst ea_;subst ec_;clear en_))
             go_ret
             exact⟨rr_,bw HB.out⟩
            rw[if_neg c61] at H
            obtain⟨c61b0,c61b1⟩:=eF_ c61
            have c61b2:¬(((rd_T59 l0_0 a0_5).f0)=[]):=fun h_=>c61 (by rw[h_];rfl)
            obtain rfl:=Option.some.inj H
            clear H
            obtain⟨hcz63_0,hcz63_1,hcz63_2,hcz63_3,hcz63_4,hcz63_5⟩:=cs6_ BK267.out
            obtain⟨hfz63_0,hfz63_1,hfz63_2,hfz63_3,hfz63_4,hfz63_5⟩:=fz6_ BK267.out
            go_wp2_with (first|((with_reducible refine gc_ 18 rfl ?_);refine gn_ (some 90) Try.func18 (spec_l1In.calls a0_5 0 (wrap64 ((l0_0.length:Int) - 1)) true _ A57.out) ?_;intro nd;have p277:0≤(a0_5:Int):=od_;have q277:a0_5<(l0_0.length:Int):=od_;obtain⟨ad277,A277_0,c277_0,A277_2,c277_2,A277_3,c277_3,e277,hx277_0,hx277_1,hx277_2,hx277_3,hl277_0,hi277_0,hl277_2,hi277_2,hl277_3,hi277_3⟩:=at_T59 HR0_0.out a0_5 p277 q277;cases e277;replace hx277_0:=cl_ HB.out hx277_0;replace hx277_1:=cl_ HB.out hx277_1;replace hx277_2:=cl_ HB.out hx277_2;replace hx277_3:=cl_ HB.out hx277_3;have HR277_0:=A_ hi277_0;have HC277_0:=A_ hl277_0;clear hi277_0 hl277_0;have HR277_2:=A_ hi277_2;have HC277_2:=A_ hl277_2;clear hi277_2 hl277_2;have HR277_3:=A_ hi277_3;have HC277_3:=A_ hl277_3;clear hi277_3 hl277_3;replace p277:=eq_true p277;replace q277:=eq_true q277))
            go_ret
            exact⟨rr_,bw HB.out⟩
           rw[if_neg c60] at H
           exact absurd H (by simp)
          rw[if_neg c59] at H
          exact absurd H (by simp)
         replace c58:=Bool.eq_false_iff.mpr c58
         subst c58
         replace H:=iF_ H
         obtain rfl:=Option.some.inj H
         clear H
         obtain⟨hcz64_0,hcz64_1,hcz64_2,hcz64_3,hcz64_4,hcz64_5⟩:=cs6_ BK267.out
         obtain⟨hfz64_0,hfz64_1,hfz64_2,hfz64_3,hfz64_4,hfz64_5⟩:=fz6_ BK267.out
         go_wp2_with (first|((with_reducible refine gc_ 18 rfl ?_);refine gn_ (some 90) Try.func18 (spec_l1In.calls a0_5 0 (wrap64 ((l0_0.length:Int) - 1)) false _ A57.out) ?_;intro nd))
         go_ret
         exact⟨rr_,bw HB.out⟩


/-! ### spec_l7S_begin: function 29 (walked by hand) -/

/-! Steps of a walk through a drawn region, each said once. -/
section
variable {P:Program} {ops:Array Oper} {Q:Exit→Act→World→Prop} {md:Region.Mode} {S:World→Prop} {ds:List Nat} {T:Bool × List (List Nat × List Nat)} {BB:List Nat} {fuel:Nat} {l:Array Bool} {a a':Act} {w:World} {oi:Oper}
theorem sS (n:Nat) (S:World→Prop) (ds:List Nat) {id:Nat} (hS:S w.drew) (hT:rtab .any ops=T) (hB:waitsOk T.2 BB=true)
  (h:S w.drew→Aside0 (rtab .any ops=T)→Aside0 (waitsOk T.2 BB=true)→wpAnyLast P .any ops Q S ds n (Array.replicate n false) a w.drew)
  (hm:P.follows .mixedOrders=true:=by kernel_rfl) (hn:ops.size=n:=by rfl):(Code.region id ops true).wp P Q a w:=
 start_ _ hm hn rfl hS (fun k=>h k ⟨hT⟩ ⟨hB⟩)
theorem pS (HT:Aside0 (rtab md ops=T)) (i:Nat) (N:Tmp) {v:Value} (h:wpAnyLast P md ops Q S ds fuel (l.setIfInBounds i true) a' w) (hi:ops[i]? =some oi:=by rfl) (hN:oi.dst=some N:=by rfl)
  (hc:anyT T l.toList (l.setIfInBounds i true).toList i=true:=by kernel_rfl) (hQ:∀ c a w,Q (.panic c) (a.put (some N) v) w→Q (.panic c) a w:=by exact fun _ _ _ h=>h)
  (hw:Region.wanted oi (yielded ops a.tmps)=true:=by rfl) (hy:∀ w,(execOp a.eval oi).run P w=.ok (.value v) w:=by intro w';go_simp;with_reducible rfl)
  (ha:a.put (some N) v=a':=by simp only[Act.put,List.setIfInBounds_toArray,List.set_cons_zero,List.set_cons_succ,i64_w,i32_w];rfl):wpAnyLast P md ops Q S ds (fuel+1) l a w:=
 pure_ _ hi hN (any_of HT.out hc) (fun c a w h=>hQ c a w (hN▸h)) (.inl ⟨hw,hy⟩) ha h
theorem pO (HT:Aside0 (rtab md ops=T)) (i:Nat) (N:Tmp) {v:Value} (hy:∀ w,(execOp a.eval oi).run P w=.ok (.value v) w) (h:wpAnyLast P md ops Q S ds fuel (l.setIfInBounds i true) a' w) (hi:ops[i]? =some oi:=by rfl) (hN:oi.dst=some N:=by rfl)
  (hc:anyT T l.toList (l.setIfInBounds i true).toList i=true:=by kernel_rfl) (hQ:∀ c a w,Q (.panic c) (a.put (some N) v) w→Q (.panic c) a w:=by exact fun _ _ _ h=>h)
  (hw:Region.wanted oi (yielded ops a.tmps)=true:=by rfl)
  (ha:a.put (some N) v=a':=by simp only[Act.put,List.setIfInBounds_toArray,List.set_cons_zero,List.set_cons_succ,i64_w,i32_w];rfl):wpAnyLast P md ops Q S ds (fuel+1) l a w:=
 pure_ _ hi hN (any_of HT.out hc) (fun c a w h=>hQ c a w (hN▸h)) (.inl ⟨hw,hy⟩) ha h
theorem pN (HT:Aside0 (rtab md ops=T)) (i:Nat) (N:Tmp) (h:wpAnyLast P md ops Q S ds fuel (l.setIfInBounds i true) a' w) (hi:ops[i]? =some oi:=by rfl) (hN:oi.dst=some N:=by rfl)
  (hc:anyT T l.toList (l.setIfInBounds i true).toList i=true:=by kernel_rfl) (hQ:∀ c a w,Q (.panic c) (a.put (some N) undef) w→Q (.panic c) a w:=by exact fun _ _ _ h=>h)
  (hw:Region.wanted oi (yielded ops a.tmps)=false:=by rfl)
  (ha:a.put (some N) undef=a':=by simp only[Act.put,List.setIfInBounds_toArray,List.set_cons_zero,List.set_cons_succ,i64_w,i32_w];rfl):wpAnyLast P md ops Q S ds (fuel+1) l a w:=
 pure_ _ hi hN (any_of HT.out hc) (fun c a w h=>hQ c a w (hN▸h)) (.inr ⟨hw,rfl⟩) ha h
theorem tS (HT:Aside0 (rtab md ops=T)) (HW:Aside0 (waitsOk T.2 BB=true)) (i:Nat) (N:Tmp) {v:Value} (hS:S w) (h:wpAnyLast P md ops Q S ds fuel (l.setIfInBounds i true) a' w) (hi:ops[i]? =some oi:=by rfl) (hN:oi.dst=some N:=by rfl)
  (hc:takeW T BB ds l.toList (l.setIfInBounds i true).toList i=true:=by kernel_rfl) (hQ:∀ c a w,Q (.panic c) (a.put (some N) v) w→Q (.panic c) a w:=by exact fun _ _ _ h=>h)
  (hw:Region.wanted oi (yielded ops a.tmps)=true:=by rfl) (hy:∀ w,S w→(execOp a.eval oi).run P w=.ok (.value v) w:=by intro w' hs_;(try dsimp only at hs_);go_simp;with_reducible rfl)
  (ha:a.put (some N) v=a':=by simp only[Act.put,List.setIfInBounds_toArray,List.set_cons_zero,List.set_cons_succ,i64_w,i32_w];rfl):wpAnyLast P md ops Q S ds (fuel+1) l a w:=
 take_ _ hi hN (take_ofW HT.out HW.out hc) (fun c a w h=>hQ c a w (hN▸h)) (.inl ⟨hw,hy⟩) hS ha h
theorem oS (HT:Aside0 (rtab md ops=T)) (i:Nat) (N:Option Tmp)
  (h:∀ K:Act→World→Prop,Shut (∀ a' w',S w'→(S w'→wpAnyLast P md ops Q S ds fuel (l.setIfInBounds i true) a' w')→K a' w')→if Region.wanted oi (yielded ops a.tmps)=true then Oper.wp P oi a w K Q else K (a.put N undef) w)
  (hi:ops[i]? =some oi:=by rfl) (hN:oi.dst=N:=by rfl) (hc:(readyT T.2 l.toList==[i] && l.toList.set i true==(l.setIfInBounds i true).toList)=true:=by kernel_rfl) (hd:i∉ds:=by decide):wpAnyLast P md ops Q S ds (fuel+1) l a w:=
 one_ _ hi hN (one_of HT.out hc) hd h
theorem lS (HT:Aside0 (rtab md ops=T)) (i:Nat) (N:Option Tmp)
  (h:∀ K:Act→World→Prop,Shut (∀ a' w',wpAnyLast P md ops Q S ds fuel (l.setIfInBounds i true) a' w'→K a' w')→if Region.wanted oi (yielded ops a.tmps)=true then Oper.wp P oi a w K Q else K (a.put N undef) w)
  (hi:ops[i]? =some oi:=by rfl) (hN:oi.dst=N:=by rfl) (hc:(readyT T.2 l.toList==[i] && l.toList.set i true==(l.setIfInBounds i true).toList)=true:=by kernel_rfl) (hd:i∈ds:=by decide):wpAnyLast P md ops Q S ds (fuel+1) l a w:=
 last_ _ hi hN (one_of HT.out hc) hd h
theorem nS (N:Option Tmp) {v:Value} (h:wpAnyLast P md ops Q S ds fuel l a' w) (ha:a.put N v=a':=by simp only[Act.put,List.setIfInBounds_toArray,List.set_cons_zero,List.set_cons_succ,i64_w,i32_w];rfl):wpAnyLast P md ops Q S ds fuel l (a.put N v) w:=norm_ ha h
theorem dS (HT:Aside0 (rtab md ops=T)) {n:Nat} (h:Q .normal a w) (hc:(readyT T.2 l.toList==[])=true:=by kernel_rfl):wpAnyLast P md ops Q S ds n l a w:=done_ (done_of HT.out hc) h
end
/-! Rows of one's own: cut, and beside other blocks. -/
theorem Reps.cut_ {α:Type} {R:α→List Value→Prop} {sz:Nat} {ps:List α} {cs:List Value} (h:Reps R sz ps cs) (k:Nat):Reps R sz (ps.take k) (cs.take (k*sz)):=by
 refine⟨?_,fun j p hj=>?_⟩
 ·
  rw[List.length_take,List.length_take,h.1]
  rcases Nat.le_total k ps.length with hk|hk
  ·
   rw[Nat.min_eq_left hk,Nat.min_eq_left (Nat.mul_le_mul_right _ hk)]
  rw[Nat.min_eq_right hk,Nat.min_eq_right (Nat.mul_le_mul_right _ hk)]
 rw[List.getElem?_take] at hj
 split at hj
 ·
  next hlt=>
  have h1:=h.2 j p hj
  have e:((cs.take (k*sz)).drop (j*sz)).take sz=(cs.drop (j*sz)).take sz:=by
   rw[List.drop_take,List.take_take]
   congr 1
   have:(j+1)*sz≤k*sz:=Nat.mul_le_mul_right _ hlt
   rw[Nat.succ_mul] at this
   omega
  rw[e];exact h1
 cases hj
theorem R_cut {α:Type} {d:Kd α} {e:Nat} {w:World} {base:Nat} {ok:Nat→Prop} {A:Option Addr} {n cap:Nat} {xs:List α} (h:d.R e w base ok (.slice A n cap) xs) (k:Nat) (hk:k≤n):d.R e w base ok (.slice A k cap) (xs.take k):=by
 obtain⟨hn,_,_⟩:=Kd.R_reads' h
 obtain⟨h0,inner,⟨hl,ho⟩,hr⟩:=h
 have hkl:(xs.take k).length=k:=by rw[List.length_take];omega
 have hown:∀ m,Value.ownBlock (.slice A m cap)=Value.ownBlock (.slice A n cap):=fun m=>by cases A<;>rfl
 have hsz:(inner.take (k*d.sz)).length=k*d.sz:=by
  rw[List.length_take,hl,←hn]
  exact Nat.min_eq_left (Nat.mul_le_mul_right _ hk)
 refine⟨fun q hq=>h0 q (by rw[←hown k];exact hq),inner.take (k*d.sz),⟨by rw[hkl];exact hsz,?_⟩,?_⟩
 ·
  rw[hkl]
  rcases ho with ⟨hv,h2⟩|⟨g,c,cur,hv,hb,hg,hnc,hc,hcs,ht⟩
  ·
   injection hv with hA hn0 hcap
   subst hA hcap
   obtain rfl:k=0:=by omega
   exact .inl ⟨rfl,rfl⟩
  injection hv with hA hn0 hcap
  subst hA hcap
  refine .inr ⟨g,cap,cur,rfl,hb,hg,by omega,hc,hcs,?_⟩
  rw[←ht,List.take_take,Nat.min_eq_left (Nat.mul_le_mul_right _ (by omega))]
 rw[hown k];exact Reps.cut_ hr k
theorem R_set1 {α:Type} {d:Kd α} {e:Nat} {w:World} {base:Nat} {v:Value} {xs:List α} (h:d.R e w base (fun _=>True) v xs) (hE:d.E=[]) {g t:Nat} {cells:Array Value} (hb:w.heap[g]? =some (.cells cells t (0,0))) (ht:e≠t) (i:Nat) (u:Value):d.R e (w.setCell ⟨g,i,none⟩ u) base (fun _=>True) v xs:=
 Kd.R_mono (Kd.R_far (Kd.R_far1 h hE (Kd.R_ne h hb ht)) (fun k hk=>hk.2) u) (fun _ _=>trivial)
section
variable {α:Type} {d:Kd α} {e:Nat} {w:World} {base:Nat} {ok:Nat→Prop}
theorem R_typed {v:Value} {xs:List α} (h:d.R e w base ok v xs) {g:Nat} (hv:v.ownBlock=some g):base≤g∧∃ cells,w.heap[g]? =some (.cells cells e (0,0)):=by
 obtain⟨_,inner,⟨_,ho⟩,_⟩:=h
 rcases ho with ⟨rfl,_⟩|⟨g',c,cur,rfl,hb,hg,_⟩
 ·
  cases hv
 obtain rfl:=Option.some.inj hv
 exact⟨hb,cur,hg⟩
theorem R_shape {A:Option Addr} {n cap:Nat} {xs:List α} (h:d.R e w base ok (.slice A n cap) xs):(A=none∧n=0∧cap=0)∨∃ gA,A=some ⟨gA,0,none⟩:=by
 obtain⟨_,inner,⟨_,ho⟩,_⟩:=h
 rcases ho with ⟨hv,_⟩|⟨g',c,cur,hv,hb,hg,_⟩
 ·
  injection hv with h1 h2 h3
  exact .inl ⟨h1,h2,h3⟩
 injection hv with h1 h2 h3
 exact .inr ⟨g',h1⟩
end
theorem keep_other {w w1:World} {g gn:Nat} {row:Option Nat} (h:KeepBut w w1 g row) (hg:w.heap.size≤gn) (j:Nat) (u:Value):KeepBut w (w1.setCell ⟨gn,j,none⟩ u) g row:=
 ⟨by have:=(KeepBut.set_ (KeepBut.refl w1 gn none) j u).1;exact Nat.le_trans h.1 this,fun i hi h1 h2=>(Below.heap_setCell w1 ⟨gn,j,none⟩ u i (by show i≠gn;omega)).trans (h.2 i hi h1 h2)⟩
structure CS (β:Type) where
 st:List Int
 sp:List β
 hi:Int
 fa:Int
def CS.fail {β:Type} (c:CS β) (k:Int):CS β:=if c.fa=0 then {c with fa:=k} else c
theorem fail_st {β:Type} (c:CS β) (k:Int):(c.fail k).st=c.st∧(c.fail k).sp=c.sp:=by unfold CS.fail;split<;>exact⟨rfl,rfl⟩
theorem drewN_two (w:World) (a b:Nat):∃ n,(w.drewN a).drewN b=w.drewN n:=⟨a+b,by simp[World.drewN,Nat.add_assoc]⟩
theorem ck_w (n:Int) (h:-9223372036854775808≤n∧n≤9223372036854775807):IntKind.i64.wrap n=n:=IntWalk.i64_in _ h
def CS.put {β:Type} (c:CS β) (k:Int):Option (CS β):=if k=64 then some c else if c.st.length<17592186044416 then some {c with st:=c.st++[k],hi:=if c.hi<(c.st.length:Int)+1 then (c.st.length:Int)+1 else c.hi} else none
/-! #### the program's spans: struct type 82 -/
structure S82 where
 f0:Int
 f1:Int
 f2:Int
 f3:Bool
 f4:Bool
def z82:S82:=⟨(0:Int),(0:Int),(0:Int),false,false⟩
def k82:Kd S82:=Kd.iso (Kd.pair (Kd.int .i64) (Kd.pair (Kd.int .i64) (Kd.pair (Kd.int .i64) (Kd.pair Kd.bool Kd.bool)))) (fun x:S82=>(x.f0,x.f1,x.f2,x.f3,x.f4))
theorem k82_open {w:World} {x:S82} {cs:List Value} (h:k82.K w x cs):cs=[.int .i64 x.f0,.int .i64 x.f1,.int .i64 x.f2,.bool x.f3,.bool x.f4]:=by
 obtain⟨_,_,rfl,rfl,⟨_,_,rfl,rfl,⟨_,_,rfl,rfl,⟨_,_,rfl,rfl,rfl⟩⟩⟩⟩:=h
 exact rfl
theorem k82_openM {w:World} {base:Nat} {ok:Nat→Prop} {x:S82} {cs:List Value} (h:k82.M w base ok x cs):cs=[.int .i64 x.f0,.int .i64 x.f1,.int .i64 x.f2,.bool x.f3,.bool x.f4]:=by
 obtain⟨_,_,rfl,rfl,⟨_,_,rfl,rfl,⟨_,_,rfl,rfl,⟨_,_,rfl,rfl,rfl⟩⟩⟩⟩:=h
 exact rfl
theorem k82_mk (w:World) (x:S82):k82.K w x [.int .i64 x.f0,.int .i64 x.f1,.int .i64 x.f2,.bool x.f3,.bool x.f4]:=⟨[.int .i64 x.f0],[.int .i64 x.f1,.int .i64 x.f2,.bool x.f3,.bool x.f4],rfl,rfl,⟨[.int .i64 x.f1],[.int .i64 x.f2,.bool x.f3,.bool x.f4],rfl,rfl,⟨[.int .i64 x.f2],[.bool x.f3,.bool x.f4],rfl,rfl,⟨[.bool x.f3],[.bool x.f4],rfl,rfl,rfl⟩⟩⟩⟩
theorem k82_mkM (w:World) (base:Nat) (ok:Nat→Prop) (x:S82):k82.M w base ok x [.int .i64 x.f0,.int .i64 x.f1,.int .i64 x.f2,.bool x.f3,.bool x.f4]:=⟨[.int .i64 x.f0],[.int .i64 x.f1,.int .i64 x.f2,.bool x.f3,.bool x.f4],rfl,rfl,⟨[.int .i64 x.f1],[.int .i64 x.f2,.bool x.f3,.bool x.f4],rfl,rfl,⟨[.int .i64 x.f2],[.bool x.f3,.bool x.f4],rfl,rfl,⟨[.bool x.f3],[.bool x.f4],rfl,rfl,rfl⟩⟩⟩⟩
def rd_T82 (xs:List S82) (i:Int):S82:=xs.getD i.toNat z82
theorem at_T82 {w:World} {A:Option Addr} {n:Nat} {xs:List S82} (h:Kd.C k82 w A n xs) (i:Int) (h0:0≤i) (h1:i<n):∃ ad,A=some ad∧w.cell? (ad.add (i.toNat*5))=some (.int .i64 (rd_T82 xs i).f0)∧w.cell? ⟨(ad.add (i.toNat*5)).block,(ad.add (i.toNat*5)).off+1,none⟩=some (.int .i64 (rd_T82 xs i).f1)∧w.cell? ⟨(ad.add (i.toNat*5)).block,(ad.add (i.toNat*5)).off+2,none⟩=some (.int .i64 (rd_T82 xs i).f2)∧w.cell? ⟨(ad.add (i.toNat*5)).block,(ad.add (i.toNat*5)).off+3,none⟩=some (.bool (rd_T82 xs i).f3)∧w.cell? ⟨(ad.add (i.toNat*5)).block,(ad.add (i.toNat*5)).off+4,none⟩=some (.bool (rd_T82 xs i).f4):=by
 obtain⟨ad,c,e,_,hK,hc0⟩:=Kd.C_get h z82 i h0 h1
 have hc:∀ j u,c[j]? =some u→w.cell? (ad.add (i.toNat*5+j))=some u:=hc0
 obtain rfl:=k82_open hK
 exact⟨ad,e,hc 0 _ rfl,by rw[←add_field _ _ 1 (by omega)];exact hc 1 _ rfl,by rw[←add_field _ _ 2 (by omega)];exact hc 2 _ rfl,by rw[←add_field _ _ 3 (by omega)];exact hc 3 _ rfl,by rw[←add_field _ _ 4 (by omega)];exact hc 4 _ rfl⟩
theorem info82:(Try.prog.info? 82).map (fun i=>(i.zero,i.size,i.bytes))=some (some (.agg #[(.int .i64 0),(.int .i64 0),(.int .i64 0),(.bool false),(.bool false)]),5,32):=by kernel_rfl

/-! The state Ck: a block of type 80. -/
def Ck (w0 w:World) (g:Nat) (q:Nat→Value) (c:CS S82) (A:Option Addr) (n1:Nat) (B:Option Addr) (n2:Nat):Prop:=
 w0.heap.size≤g∧Below w0.heap.size w0 w∧w.heap[g]? =some (.cells #[q 0,q 1,.slice A c.st.length n1,.slice B c.sp.length n2,.int .i64 c.hi,.int .i64 c.fa] 80 (0,0))∧Kd.R (Kd.int .i64) 3 w w0.heap.size (fun _=>True) (.slice A c.st.length n1) c.st∧Kd.R k82 82 w w0.heap.size (fun _=>True) (.slice B c.sp.length n2) c.sp
def CkE (w0 w:World) (g:Nat) (q:Nat→Value) (c:CS S82):Prop:=∃ A n1 B n2,Ck w0 w g q c A n1 B n2
section
variable {w0 w w1:World} {g:Nat} {q:Nat→Value} {c:CS S82} {A:Option Addr} {n1:Nat} {B:Option Addr} {n2:Nat}
theorem Ck.below (h:Ck w0 w g q c A n1 B n2) (hb:Below w.heap.size w w1):Ck w0 w1 g q c A n1 B n2:=
 ⟨h.1,below_weaken h.2.1 h.2.1.size hb,blk_below h.2.2.1 hb,Kd.R_below h.2.2.2.1 hb,Kd.R_below h.2.2.2.2 hb⟩
theorem CkE.below (h:CkE w0 w g q c) (hb:Below w.heap.size w w1):CkE w0 w1 g q c:=by
 obtain⟨A,n1,B,n2,h⟩:=h
 exact⟨A,n1,B,n2,h.below hb⟩
theorem Ck.cell0 (h:Ck w0 w g q c A n1 B n2):w.cell? ⟨g,0,none⟩=some (q 0):=(blk_cell h.2.2.1 0).trans rfl
theorem Ck.cell1 (h:Ck w0 w g q c A n1 B n2):w.cell? ⟨g,1,none⟩=some (q 1):=(blk_cell h.2.2.1 1).trans rfl
theorem Ck.cell2 (h:Ck w0 w g q c A n1 B n2):w.cell? ⟨g,2,none⟩=some (.slice A c.st.length n1):=(blk_cell h.2.2.1 2).trans rfl
theorem Ck.cell3 (h:Ck w0 w g q c A n1 B n2):w.cell? ⟨g,3,none⟩=some (.slice B c.sp.length n2):=(blk_cell h.2.2.1 3).trans rfl
theorem Ck.cell4 (h:Ck w0 w g q c A n1 B n2):w.cell? ⟨g,4,none⟩=some (.int .i64 c.hi):=(blk_cell h.2.2.1 4).trans rfl
theorem Ck.cell5 (h:Ck w0 w g q c A n1 B n2):w.cell? ⟨g,5,none⟩=some (.int .i64 c.fa):=(blk_cell h.2.2.1 5).trans rfl
theorem Ck.frozen (h:Ck w0 w g q c A n1 B n2) (i:Nat):w.frozen? ⟨g,i,none⟩=false:=blk_frozen h.2.2.1 i
theorem Ck.setH (h:Ck w0 w g q c A n1 B n2) (x:Int):Ck w0 (w.setCell ⟨g,4,none⟩ (.int .i64 x)) g q {c with hi:=x} A n1 B n2:=
 ⟨h.1,below_set h.2.1 h.1,blk_put h.2.2.1 4 _ rfl,R_set1 h.2.2.2.1 rfl h.2.2.1 (by decide) _ _,R_set1 h.2.2.2.2 rfl h.2.2.1 (by decide) _ _⟩
theorem Ck.setF (h:Ck w0 w g q c A n1 B n2) (x:Int):Ck w0 (w.setCell ⟨g,5,none⟩ (.int .i64 x)) g q {c with fa:=x} A n1 B n2:=
 ⟨h.1,below_set h.2.1 h.1,blk_put h.2.2.1 5 _ rfl,R_set1 h.2.2.2.1 rfl h.2.2.1 (by decide) _ _,R_set1 h.2.2.2.2 rfl h.2.2.1 (by decide) _ _⟩
theorem Ck.cutS (h:Ck w0 w g q c A n1 B n2) (k:Nat) (hk:k≤c.st.length):Ck w0 (w.setCell ⟨g,2,none⟩ (.slice A k n1)) g q {c with st:=c.st.take k} A n1 B n2:=by
 have e:(c.st.take k).length=k:=by rw[List.length_take];omega
 have h1:=R_set1 (R_cut h.2.2.2.1 k hk) rfl h.2.2.1 (by decide) 2 (.slice A k n1)
 refine⟨h.1,below_set h.2.1 h.1,blk_put h.2.2.1 2 _ (by simp only[e];rfl),?_,R_set1 h.2.2.2.2 rfl h.2.2.1 (by decide) _ _⟩
 simp only[e];exact h1
theorem Ck.cutP (h:Ck w0 w g q c A n1 B n2) (k:Nat) (hk:k≤c.sp.length):Ck w0 (w.setCell ⟨g,3,none⟩ (.slice B k n2)) g q {c with sp:=c.sp.take k} A n1 B n2:=by
 have e:(c.sp.take k).length=k:=by rw[List.length_take];omega
 have h1:=R_set1 (R_cut h.2.2.2.2 k hk) rfl h.2.2.1 (by decide) 3 (.slice B k n2)
 refine⟨h.1,below_set h.2.1 h.1,blk_put h.2.2.1 3 _ (by simp only[e];rfl),R_set1 h.2.2.2.1 rfl h.2.2.1 (by decide) _ _,?_⟩
 simp only[e];exact h1
theorem Ck.fresh_ne (h:Ck w0 w g q c A n1 B n2) {gn:Nat} (hg:gn=w.heap.size):gn≠g∧(∀ a,A=some a→a.block≠gn)∧(∀ a,B=some a→a.block≠gn):=by
 subst hg
 refine⟨?_,?_,?_⟩
 ·
  have:=blk_lt h.2.2.1;omega
 ·
  rintro a rfl
  obtain⟨_,cells,hc⟩:=R_typed h.2.2.2.1 (g:=a.block) rfl
  have:=blk_lt hc;omega
 rintro a rfl
 obtain⟨_,cells,hc⟩:=R_typed h.2.2.2.2 (g:=a.block) rfl
 have:=blk_lt hc;omega
theorem Ck.other {gn:Nat} (h:Ck w0 w g q c A n1 B n2) (hge:w0.heap.size≤gn) (hn:gn≠g∧(∀ a,A=some a→a.block≠gn)∧(∀ a,B=some a→a.block≠gn)) (i:Nat) (u:Value):Ck w0 (w.setCell ⟨gn,i,none⟩ u) g q c A n1 B n2:=by
 have hA:some gn≠Value.ownBlock (.slice A c.st.length n1):=by
  intro e
  cases A with
  |none=>cases e
  |some a=>exact hn.2.1 a rfl (Option.some.inj e).symm
 have hB:some gn≠Value.ownBlock (.slice B c.sp.length n2):=by
  intro e
  cases B with
  |none=>cases e
  |some a=>exact hn.2.2 a rfl (Option.some.inj e).symm
 exact⟨h.1,below_set h.2.1 hge,(Below.heap_setCell w ⟨gn,i,none⟩ u g (fun e=>hn.1 e.symm)).trans h.2.2.1,
  Kd.R_mono (Kd.R_far (Kd.R_far1 h.2.2.2.1 rfl hA) (fun k hk=>hk.2) u) (fun _ _=>trivial),Kd.R_mono (Kd.R_far (Kd.R_far1 h.2.2.2.2 rfl hB) (fun k hk=>hk.2) u) (fun _ _=>trivial)⟩
/-- Behind an append to the stack: the block stands, and the spans. -/
theorem Ck.appS (h:Ck w0 w g q c A n1 B n2) {v1:Value} {x:Int} (hv:Kd.R (Kd.int .i64) 3 w1 w0.heap.size (fun _=>True) v1 (c.st++[x])) (hb:Below w0.heap.size w0 w1) (hg:w.grownBy w1 (Value.ownBlock (.slice A c.st.length n1))):
  w1.heap[g]? =some (.cells #[q 0,q 1,.slice A c.st.length n1,.slice B c.sp.length n2,.int .i64 c.hi,.int .i64 c.fa] 80 (0,0))∧∃ A' n',v1=.slice A' (c.st.length+1) n'∧Ck w0 (w1.setCell ⟨g,2,none⟩ v1) g q {c with st:=c.st++[x]} A' n' B n2:=by
 have hne:=Kd.R_ne h.2.2.2.1 h.2.2.1 (by decide)
 have hblk:=blk_grown h.2.2.1 hg hne
 have hsp:Kd.R k82 82 w1 w0.heap.size (fun _=>True) (.slice B c.sp.length n2) c.sp:=Kd.R_grown2 h.2.2.2.2 rfl hg (fun k hk=>by
  obtain⟨_,cells,hc⟩:=R_typed h.2.2.2.1 hk
  exact Kd.R_ne h.2.2.2.2 hc (by decide))
 obtain⟨A',n',e⟩:=Kd.R_slice hv
 subst e
 rw[List.length_append,List.length_singleton] at hv
 refine⟨hblk,A',n',by rw[List.length_append,List.length_singleton],?_⟩
 have e:(c.st++[x]).length=c.st.length+1:=by rw[List.length_append,List.length_singleton]
 have h1:=R_set1 hv rfl hblk (by decide) 2 (.slice A' (c.st++[x]).length n')
 refine⟨h.1,below_set hb h.1,blk_put hblk 2 _ rfl,?_,R_set1 hsp rfl hblk (by decide) _ _⟩
 simp only[e] at h1 ⊢;exact h1
theorem Ck.appP (h:Ck w0 w g q c A n1 B n2) {v1:Value} {x:S82} (hv:Kd.R k82 82 w1 w0.heap.size (fun _=>True) v1 (c.sp++[x])) (hb:Below w0.heap.size w0 w1) (hg:w.grownBy w1 (Value.ownBlock (.slice B c.sp.length n2))):
  w1.heap[g]? =some (.cells #[q 0,q 1,.slice A c.st.length n1,.slice B c.sp.length n2,.int .i64 c.hi,.int .i64 c.fa] 80 (0,0))∧∃ B' n',v1=.slice B' (c.sp.length+1) n'∧Ck w0 (w1.setCell ⟨g,3,none⟩ v1) g q {c with sp:=c.sp++[x]} A n1 B' n':=by
 have hne:=Kd.R_ne h.2.2.2.2 h.2.2.1 (by decide)
 have hblk:=blk_grown h.2.2.1 hg hne
 have hst:Kd.R (Kd.int .i64) 3 w1 w0.heap.size (fun _=>True) (.slice A c.st.length n1) c.st:=Kd.R_grown2 h.2.2.2.1 rfl hg (fun k hk=>by
  obtain⟨_,cells,hc⟩:=R_typed h.2.2.2.2 hk
  exact Kd.R_ne h.2.2.2.1 hc (by decide))
 obtain⟨B',n',e⟩:=Kd.R_slice hv
 subst e
 rw[List.length_append,List.length_singleton] at hv
 refine⟨hblk,B',n',by rw[List.length_append,List.length_singleton],?_⟩
 have e:(c.sp++[x]).length=c.sp.length+1:=by rw[List.length_append,List.length_singleton]
 have h1:=R_set1 hv rfl hblk (by decide) 3 (.slice B' (c.sp++[x]).length n')
 refine⟨h.1,below_set hb h.1,blk_put hblk 3 _ rfl,R_set1 hst rfl hblk (by decide) _ _,?_⟩
 simp only[e] at h1 ⊢;exact h1
theorem Ck.stk (h:Ck w0 w g q c A n1 B n2) (j:Nat) (x:Int) (hx:c.st[j]? =some x):∃ gA,A=some ⟨gA,0,none⟩∧w.cell? ⟨gA,j,none⟩=some (.int .i64 x):=by
 have hj:j<c.st.length:=(List.getElem?_eq_some_iff.1 hx).1
 obtain⟨gA,cap,e,gb,gl,cells,hc⟩:=Kd.R_form h.2.2.2.1 (by omega)
 injection e with eA e2 e3
 subst eA
 have h1:=(Kd.R_celln 0 h.2.2.2.1 (j:Int) (by omega) (by omega)).1
 rw[Int.toNat_natCast] at h1
 refine⟨gA,rfl,h1.trans ?_⟩
 unfold rdOf
 rw[Int.toNat_natCast,List.getD_eq_getElem?_getD,hx]
 rfl
theorem Ck.lenS (h:Ck w0 w g q c A n1 B n2):c.st.length≤9223372036854775807∧c.st.length≤n1:=⟨Kd.C_max (Kd.R_reads' h.2.2.2.1).2.2,(Kd.R_reads' h.2.2.2.1).2.1⟩
theorem Ck.lenP (h:Ck w0 w g q c A n1 B n2):c.sp.length≤9223372036854775807∧c.sp.length≤n2:=⟨Kd.C_max (Kd.R_reads' h.2.2.2.2).2.2,(Kd.R_reads' h.2.2.2.2).2.1⟩
theorem Ck.drewN (h:Ck w0 w g q c A n1 B n2) (n:Nat):Ck w0 (w.drewN n) g q c A n1 B n2:=h.below (pw_below_drewN (Below.refl _ _) n)
theorem Ck.drew (h:Ck w0 w g q c A n1 B n2):Ck w0 w.drew g q c A n1 B n2:=h.below (below_drew (Below.refl _ _))
/-- The j-th span. -/
theorem Ck.span (h:Ck w0 w g q c A n1 B n2) (j:Nat) (x:S82) (hx:c.sp[j]? =some x):∃ gB,B=some ⟨gB,0,none⟩∧w0.heap.size≤gB∧w.cell? ⟨gB,j*5,none⟩=some (.int .i64 x.f0)∧w.cell? ⟨gB,j*5+1,none⟩=some (.int .i64 x.f1)∧w.cell? ⟨gB,j*5+2,none⟩=some (.int .i64 x.f2)∧w.cell? ⟨gB,j*5+3,none⟩=some (.bool x.f3)∧w.cell? ⟨gB,j*5+4,none⟩=some (.bool x.f4)∧∀ i,w.frozen? ⟨gB,i,none⟩=false:=by
 have hj:j<c.sp.length:=(List.getElem?_eq_some_iff.1 hx).1
 obtain⟨gB,cap,e,gb,gl,cells,hc⟩:=Kd.R_form h.2.2.2.2 (by omega)
 injection e with eA e2 e3
 subst eA
 have hR:=h.2.2.2.2
 obtain⟨cs,hl,hM,hcc,_⟩:=Kd.R_elem hR z82 (j:Int) (by omega) (by omega)
 rw[Int.toNat_natCast,List.getD_eq_getElem?_getD,hx] at hM
 rw[Int.toNat_natCast] at hcc
 obtain rfl:=k82_openM hM
 have h5:∀ i u,[Value.int .i64 x.f0,.int .i64 x.f1,.int .i64 x.f2,.bool x.f3,.bool x.f4][i]? =some u→w.cell? ⟨gB,j*5+i,none⟩=some u:=hcc
 exact⟨gB,rfl,gb,h5 0 _ rfl,h5 1 _ rfl,h5 2 _ rfl,h5 3 _ rfl,h5 4 _ rfl,fun i=>blk_frozen hc i⟩
/-- A field of the j-th span is written. -/
theorem Ck.flag (gB:Nat) (h:Ck w0 w g q c A n1 (some ⟨gB,0,none⟩) n2) (j:Nat) (x:S82) (hx:c.sp[j]? =some x) (b:Bool):Ck w0 (w.setCell ⟨gB,j*5+3,none⟩ (.bool b)) g q {c with sp:=c.sp.set j {x with f3:=b}} A n1 (some ⟨gB,0,none⟩) n2∧Ck w0 (w.setCell ⟨gB,j*5+4,none⟩ (.bool b)) g q {c with sp:=c.sp.set j {x with f4:=b}} A n1 (some ⟨gB,0,none⟩) n2:=by
 have hj:j<c.sp.length:=(List.getElem?_eq_some_iff.1 hx).1
 have hR:=h.2.2.2.2
 obtain⟨gb,cells,hc⟩:=R_typed hR (g:=gB) rfl
 obtain⟨cs,hl,hM,hcc,_⟩:=Kd.R_elem hR z82 (j:Int) (by omega) (by omega)
 rw[Int.toNat_natCast,List.getD_eq_getElem?_getD,hx] at hM
 obtain rfl:=k82_openM hM
 have hgne:g≠gB:=by
  rintro rfl
  have h3:=h.2.2.1.symm.trans hc
  injection h3 with h3
  injection h3 with _ h3 _
  exact absurd h3 (by decide)
 have fin:∀ (i:Nat) (y:S82) (u:Value),Kd.R k82 82 (w.setCell ⟨gB,i,none⟩ u) w0.heap.size (fun _=>True) (.slice (some ⟨gB,0,none⟩) c.sp.length n2) (c.sp.set j y)→Ck w0 (w.setCell ⟨gB,i,none⟩ u) g q {c with sp:=c.sp.set j y} A n1 (some ⟨gB,0,none⟩) n2:=by
  intro i y u hR1
  have e:(c.sp.set j y).length=c.sp.length:=List.length_set
  refine⟨h.1,below_set h.2.1 gb,?_,R_set1 h.2.2.2.1 rfl hc (by decide) _ _,?_⟩
  ·
   simp only[e]
   exact(Below.heap_setCell w ⟨gB,i,none⟩ u g hgne).trans h.2.2.1
  simp only[e];exact hR1
 have s3:=(Kd.R_seg (okp:=fun k=>True∧k≠gB) hR (j:Int) (by omega) (by omega) (j:=3) (seg:=[.bool b]) (x':={x with f3:=b}) hl hcc (by show 3+1≤5;omega) (k82_mkM _ _ _ {x with f3:=b}) (fun k hk=>hk)).1
 have s4:=(Kd.R_seg (okp:=fun k=>True∧k≠gB) hR (j:Int) (by omega) (by omega) (j:=4) (seg:=[.bool b]) (x':={x with f4:=b}) hl hcc (by show 4+1≤5;omega) (k82_mkM _ _ _ {x with f4:=b}) (fun k hk=>hk)).1
 rw[Int.toNat_natCast] at s3 s4
 exact⟨fin _ _ _ s3,fin _ _ _ s4⟩
end

/-! #### struct type 91 -/
structure S91 where
 f0:Int
 f1:Int
 f2:Int
 f3:Bool
 f4:Bool
def z91:S91:=⟨(0:Int),(0:Int),(0:Int),false,false⟩
def k91:Kd S91:=Kd.iso (Kd.pair (Kd.int .i64) (Kd.pair (Kd.int .i64) (Kd.pair (Kd.int .i64) (Kd.pair Kd.bool Kd.bool)))) (fun x:S91=>(x.f0,x.f1,x.f2,x.f3,x.f4))
theorem k91_open {w:World} {x:S91} {cs:List Value} (h:k91.K w x cs):cs=[.int .i64 x.f0,.int .i64 x.f1,.int .i64 x.f2,.bool x.f3,.bool x.f4]:=by
 obtain⟨_,_,rfl,rfl,⟨_,_,rfl,rfl,⟨_,_,rfl,rfl,⟨_,_,rfl,rfl,rfl⟩⟩⟩⟩:=h
 exact rfl
theorem k91_openM {w:World} {base:Nat} {ok:Nat→Prop} {x:S91} {cs:List Value} (h:k91.M w base ok x cs):cs=[.int .i64 x.f0,.int .i64 x.f1,.int .i64 x.f2,.bool x.f3,.bool x.f4]:=by
 obtain⟨_,_,rfl,rfl,⟨_,_,rfl,rfl,⟨_,_,rfl,rfl,⟨_,_,rfl,rfl,rfl⟩⟩⟩⟩:=h
 exact rfl
theorem k91_mk (w:World) (x:S91):k91.K w x [.int .i64 x.f0,.int .i64 x.f1,.int .i64 x.f2,.bool x.f3,.bool x.f4]:=⟨[.int .i64 x.f0],[.int .i64 x.f1,.int .i64 x.f2,.bool x.f3,.bool x.f4],rfl,rfl,⟨[.int .i64 x.f1],[.int .i64 x.f2,.bool x.f3,.bool x.f4],rfl,rfl,⟨[.int .i64 x.f2],[.bool x.f3,.bool x.f4],rfl,rfl,⟨[.bool x.f3],[.bool x.f4],rfl,rfl,rfl⟩⟩⟩⟩
theorem k91_mkM (w:World) (base:Nat) (ok:Nat→Prop) (x:S91):k91.M w base ok x [.int .i64 x.f0,.int .i64 x.f1,.int .i64 x.f2,.bool x.f3,.bool x.f4]:=⟨[.int .i64 x.f0],[.int .i64 x.f1,.int .i64 x.f2,.bool x.f3,.bool x.f4],rfl,rfl,⟨[.int .i64 x.f1],[.int .i64 x.f2,.bool x.f3,.bool x.f4],rfl,rfl,⟨[.int .i64 x.f2],[.bool x.f3,.bool x.f4],rfl,rfl,⟨[.bool x.f3],[.bool x.f4],rfl,rfl,rfl⟩⟩⟩⟩
def rd_T91 (xs:List S91) (i:Int):S91:=xs.getD i.toNat z91
theorem at_T91 {w:World} {A:Option Addr} {n:Nat} {xs:List S91} (h:Kd.C k91 w A n xs) (i:Int) (h0:0≤i) (h1:i<n):∃ ad,A=some ad∧w.cell? (ad.add (i.toNat*5))=some (.int .i64 (rd_T91 xs i).f0)∧w.cell? ⟨(ad.add (i.toNat*5)).block,(ad.add (i.toNat*5)).off+1,none⟩=some (.int .i64 (rd_T91 xs i).f1)∧w.cell? ⟨(ad.add (i.toNat*5)).block,(ad.add (i.toNat*5)).off+2,none⟩=some (.int .i64 (rd_T91 xs i).f2)∧w.cell? ⟨(ad.add (i.toNat*5)).block,(ad.add (i.toNat*5)).off+3,none⟩=some (.bool (rd_T91 xs i).f3)∧w.cell? ⟨(ad.add (i.toNat*5)).block,(ad.add (i.toNat*5)).off+4,none⟩=some (.bool (rd_T91 xs i).f4):=by
 obtain⟨ad,c,e,_,hK,hc0⟩:=Kd.C_get h z91 i h0 h1
 have hc:∀ j u,c[j]? =some u→w.cell? (ad.add (i.toNat*5+j))=some u:=hc0
 obtain rfl:=k91_open hK
 exact⟨ad,e,hc 0 _ rfl,by rw[←add_field _ _ 1 (by omega)];exact hc 1 _ rfl,by rw[←add_field _ _ 2 (by omega)];exact hc 2 _ rfl,by rw[←add_field _ _ 3 (by omega)];exact hc 3 _ rfl,by rw[←add_field _ _ 4 (by omega)];exact hc 4 _ rfl⟩
theorem info91:(Try.prog.info? 91).map (fun i=>(i.zero,i.size,i.bytes))=some (some (.agg #[(.int .i64 0),(.int .i64 0),(.int .i64 0),(.bool false),(.bool false)]),5,32):=by kernel_rfl

/-! The state Cs: a block of type 68. -/
def Cs (w0 w:World) (g:Nat) (q:Nat→Value) (c:CS S91) (A:Option Addr) (n1:Nat) (B:Option Addr) (n2:Nat):Prop:=
 w0.heap.size≤g∧Below w0.heap.size w0 w∧w.heap[g]? =some (.cells #[q 0,q 1,q 2,q 3,q 4,q 5,q 6,q 7,q 8,q 9,.slice A c.st.length n1,.slice B c.sp.length n2,.int .i64 c.fa,.int .i64 c.hi,q 14] 68 (0,0))∧Kd.R (Kd.int .i64) 3 w w0.heap.size (fun _=>True) (.slice A c.st.length n1) c.st∧Kd.R k91 91 w w0.heap.size (fun _=>True) (.slice B c.sp.length n2) c.sp
def CsE (w0 w:World) (g:Nat) (q:Nat→Value) (c:CS S91):Prop:=∃ A n1 B n2,Cs w0 w g q c A n1 B n2
section
variable {w0 w w1:World} {g:Nat} {q:Nat→Value} {c:CS S91} {A:Option Addr} {n1:Nat} {B:Option Addr} {n2:Nat}
theorem Cs.below (h:Cs w0 w g q c A n1 B n2) (hb:Below w.heap.size w w1):Cs w0 w1 g q c A n1 B n2:=
 ⟨h.1,below_weaken h.2.1 h.2.1.size hb,blk_below h.2.2.1 hb,Kd.R_below h.2.2.2.1 hb,Kd.R_below h.2.2.2.2 hb⟩
theorem CsE.below (h:CsE w0 w g q c) (hb:Below w.heap.size w w1):CsE w0 w1 g q c:=by
 obtain⟨A,n1,B,n2,h⟩:=h
 exact⟨A,n1,B,n2,h.below hb⟩
theorem Cs.cell0 (h:Cs w0 w g q c A n1 B n2):w.cell? ⟨g,0,none⟩=some (q 0):=(blk_cell h.2.2.1 0).trans rfl
theorem Cs.cell1 (h:Cs w0 w g q c A n1 B n2):w.cell? ⟨g,1,none⟩=some (q 1):=(blk_cell h.2.2.1 1).trans rfl
theorem Cs.cell2 (h:Cs w0 w g q c A n1 B n2):w.cell? ⟨g,2,none⟩=some (q 2):=(blk_cell h.2.2.1 2).trans rfl
theorem Cs.cell3 (h:Cs w0 w g q c A n1 B n2):w.cell? ⟨g,3,none⟩=some (q 3):=(blk_cell h.2.2.1 3).trans rfl
theorem Cs.cell4 (h:Cs w0 w g q c A n1 B n2):w.cell? ⟨g,4,none⟩=some (q 4):=(blk_cell h.2.2.1 4).trans rfl
theorem Cs.cell5 (h:Cs w0 w g q c A n1 B n2):w.cell? ⟨g,5,none⟩=some (q 5):=(blk_cell h.2.2.1 5).trans rfl
theorem Cs.cell6 (h:Cs w0 w g q c A n1 B n2):w.cell? ⟨g,6,none⟩=some (q 6):=(blk_cell h.2.2.1 6).trans rfl
theorem Cs.cell7 (h:Cs w0 w g q c A n1 B n2):w.cell? ⟨g,7,none⟩=some (q 7):=(blk_cell h.2.2.1 7).trans rfl
theorem Cs.cell8 (h:Cs w0 w g q c A n1 B n2):w.cell? ⟨g,8,none⟩=some (q 8):=(blk_cell h.2.2.1 8).trans rfl
theorem Cs.cell9 (h:Cs w0 w g q c A n1 B n2):w.cell? ⟨g,9,none⟩=some (q 9):=(blk_cell h.2.2.1 9).trans rfl
theorem Cs.cell10 (h:Cs w0 w g q c A n1 B n2):w.cell? ⟨g,10,none⟩=some (.slice A c.st.length n1):=(blk_cell h.2.2.1 10).trans rfl
theorem Cs.cell11 (h:Cs w0 w g q c A n1 B n2):w.cell? ⟨g,11,none⟩=some (.slice B c.sp.length n2):=(blk_cell h.2.2.1 11).trans rfl
theorem Cs.cell12 (h:Cs w0 w g q c A n1 B n2):w.cell? ⟨g,12,none⟩=some (.int .i64 c.fa):=(blk_cell h.2.2.1 12).trans rfl
theorem Cs.cell13 (h:Cs w0 w g q c A n1 B n2):w.cell? ⟨g,13,none⟩=some (.int .i64 c.hi):=(blk_cell h.2.2.1 13).trans rfl
theorem Cs.cell14 (h:Cs w0 w g q c A n1 B n2):w.cell? ⟨g,14,none⟩=some (q 14):=(blk_cell h.2.2.1 14).trans rfl
theorem Cs.frozen (h:Cs w0 w g q c A n1 B n2) (i:Nat):w.frozen? ⟨g,i,none⟩=false:=blk_frozen h.2.2.1 i
theorem Cs.setH (h:Cs w0 w g q c A n1 B n2) (x:Int):Cs w0 (w.setCell ⟨g,13,none⟩ (.int .i64 x)) g q {c with hi:=x} A n1 B n2:=
 ⟨h.1,below_set h.2.1 h.1,blk_put h.2.2.1 13 _ rfl,R_set1 h.2.2.2.1 rfl h.2.2.1 (by decide) _ _,R_set1 h.2.2.2.2 rfl h.2.2.1 (by decide) _ _⟩
theorem Cs.setF (h:Cs w0 w g q c A n1 B n2) (x:Int):Cs w0 (w.setCell ⟨g,12,none⟩ (.int .i64 x)) g q {c with fa:=x} A n1 B n2:=
 ⟨h.1,below_set h.2.1 h.1,blk_put h.2.2.1 12 _ rfl,R_set1 h.2.2.2.1 rfl h.2.2.1 (by decide) _ _,R_set1 h.2.2.2.2 rfl h.2.2.1 (by decide) _ _⟩
theorem Cs.cutS (h:Cs w0 w g q c A n1 B n2) (k:Nat) (hk:k≤c.st.length):Cs w0 (w.setCell ⟨g,10,none⟩ (.slice A k n1)) g q {c with st:=c.st.take k} A n1 B n2:=by
 have e:(c.st.take k).length=k:=by rw[List.length_take];omega
 have h1:=R_set1 (R_cut h.2.2.2.1 k hk) rfl h.2.2.1 (by decide) 10 (.slice A k n1)
 refine⟨h.1,below_set h.2.1 h.1,blk_put h.2.2.1 10 _ (by simp only[e];rfl),?_,R_set1 h.2.2.2.2 rfl h.2.2.1 (by decide) _ _⟩
 simp only[e];exact h1
theorem Cs.cutP (h:Cs w0 w g q c A n1 B n2) (k:Nat) (hk:k≤c.sp.length):Cs w0 (w.setCell ⟨g,11,none⟩ (.slice B k n2)) g q {c with sp:=c.sp.take k} A n1 B n2:=by
 have e:(c.sp.take k).length=k:=by rw[List.length_take];omega
 have h1:=R_set1 (R_cut h.2.2.2.2 k hk) rfl h.2.2.1 (by decide) 11 (.slice B k n2)
 refine⟨h.1,below_set h.2.1 h.1,blk_put h.2.2.1 11 _ (by simp only[e];rfl),R_set1 h.2.2.2.1 rfl h.2.2.1 (by decide) _ _,?_⟩
 simp only[e];exact h1
theorem Cs.fresh_ne (h:Cs w0 w g q c A n1 B n2) {gn:Nat} (hg:gn=w.heap.size):gn≠g∧(∀ a,A=some a→a.block≠gn)∧(∀ a,B=some a→a.block≠gn):=by
 subst hg
 refine⟨?_,?_,?_⟩
 ·
  have:=blk_lt h.2.2.1;omega
 ·
  rintro a rfl
  obtain⟨_,cells,hc⟩:=R_typed h.2.2.2.1 (g:=a.block) rfl
  have:=blk_lt hc;omega
 rintro a rfl
 obtain⟨_,cells,hc⟩:=R_typed h.2.2.2.2 (g:=a.block) rfl
 have:=blk_lt hc;omega
theorem Cs.other {gn:Nat} (h:Cs w0 w g q c A n1 B n2) (hge:w0.heap.size≤gn) (hn:gn≠g∧(∀ a,A=some a→a.block≠gn)∧(∀ a,B=some a→a.block≠gn)) (i:Nat) (u:Value):Cs w0 (w.setCell ⟨gn,i,none⟩ u) g q c A n1 B n2:=by
 have hA:some gn≠Value.ownBlock (.slice A c.st.length n1):=by
  intro e
  cases A with
  |none=>cases e
  |some a=>exact hn.2.1 a rfl (Option.some.inj e).symm
 have hB:some gn≠Value.ownBlock (.slice B c.sp.length n2):=by
  intro e
  cases B with
  |none=>cases e
  |some a=>exact hn.2.2 a rfl (Option.some.inj e).symm
 exact⟨h.1,below_set h.2.1 hge,(Below.heap_setCell w ⟨gn,i,none⟩ u g (fun e=>hn.1 e.symm)).trans h.2.2.1,
  Kd.R_mono (Kd.R_far (Kd.R_far1 h.2.2.2.1 rfl hA) (fun k hk=>hk.2) u) (fun _ _=>trivial),Kd.R_mono (Kd.R_far (Kd.R_far1 h.2.2.2.2 rfl hB) (fun k hk=>hk.2) u) (fun _ _=>trivial)⟩
/-- Behind an append to the stack: the block stands, and the spans. -/
theorem Cs.appS (h:Cs w0 w g q c A n1 B n2) {v1:Value} {x:Int} (hv:Kd.R (Kd.int .i64) 3 w1 w0.heap.size (fun _=>True) v1 (c.st++[x])) (hb:Below w0.heap.size w0 w1) (hg:w.grownBy w1 (Value.ownBlock (.slice A c.st.length n1))):
  w1.heap[g]? =some (.cells #[q 0,q 1,q 2,q 3,q 4,q 5,q 6,q 7,q 8,q 9,.slice A c.st.length n1,.slice B c.sp.length n2,.int .i64 c.fa,.int .i64 c.hi,q 14] 68 (0,0))∧∃ A' n',v1=.slice A' (c.st.length+1) n'∧Cs w0 (w1.setCell ⟨g,10,none⟩ v1) g q {c with st:=c.st++[x]} A' n' B n2:=by
 have hne:=Kd.R_ne h.2.2.2.1 h.2.2.1 (by decide)
 have hblk:=blk_grown h.2.2.1 hg hne
 have hsp:Kd.R k91 91 w1 w0.heap.size (fun _=>True) (.slice B c.sp.length n2) c.sp:=Kd.R_grown2 h.2.2.2.2 rfl hg (fun k hk=>by
  obtain⟨_,cells,hc⟩:=R_typed h.2.2.2.1 hk
  exact Kd.R_ne h.2.2.2.2 hc (by decide))
 obtain⟨A',n',e⟩:=Kd.R_slice hv
 subst e
 rw[List.length_append,List.length_singleton] at hv
 refine⟨hblk,A',n',by rw[List.length_append,List.length_singleton],?_⟩
 have e:(c.st++[x]).length=c.st.length+1:=by rw[List.length_append,List.length_singleton]
 have h1:=R_set1 hv rfl hblk (by decide) 10 (.slice A' (c.st++[x]).length n')
 refine⟨h.1,below_set hb h.1,blk_put hblk 10 _ rfl,?_,R_set1 hsp rfl hblk (by decide) _ _⟩
 simp only[e] at h1 ⊢;exact h1
theorem Cs.appP (h:Cs w0 w g q c A n1 B n2) {v1:Value} {x:S91} (hv:Kd.R k91 91 w1 w0.heap.size (fun _=>True) v1 (c.sp++[x])) (hb:Below w0.heap.size w0 w1) (hg:w.grownBy w1 (Value.ownBlock (.slice B c.sp.length n2))):
  w1.heap[g]? =some (.cells #[q 0,q 1,q 2,q 3,q 4,q 5,q 6,q 7,q 8,q 9,.slice A c.st.length n1,.slice B c.sp.length n2,.int .i64 c.fa,.int .i64 c.hi,q 14] 68 (0,0))∧∃ B' n',v1=.slice B' (c.sp.length+1) n'∧Cs w0 (w1.setCell ⟨g,11,none⟩ v1) g q {c with sp:=c.sp++[x]} A n1 B' n':=by
 have hne:=Kd.R_ne h.2.2.2.2 h.2.2.1 (by decide)
 have hblk:=blk_grown h.2.2.1 hg hne
 have hst:Kd.R (Kd.int .i64) 3 w1 w0.heap.size (fun _=>True) (.slice A c.st.length n1) c.st:=Kd.R_grown2 h.2.2.2.1 rfl hg (fun k hk=>by
  obtain⟨_,cells,hc⟩:=R_typed h.2.2.2.2 hk
  exact Kd.R_ne h.2.2.2.1 hc (by decide))
 obtain⟨B',n',e⟩:=Kd.R_slice hv
 subst e
 rw[List.length_append,List.length_singleton] at hv
 refine⟨hblk,B',n',by rw[List.length_append,List.length_singleton],?_⟩
 have e:(c.sp++[x]).length=c.sp.length+1:=by rw[List.length_append,List.length_singleton]
 have h1:=R_set1 hv rfl hblk (by decide) 11 (.slice B' (c.sp++[x]).length n')
 refine⟨h.1,below_set hb h.1,blk_put hblk 11 _ rfl,R_set1 hst rfl hblk (by decide) _ _,?_⟩
 simp only[e] at h1 ⊢;exact h1
theorem Cs.stk (h:Cs w0 w g q c A n1 B n2) (j:Nat) (x:Int) (hx:c.st[j]? =some x):∃ gA,A=some ⟨gA,0,none⟩∧w.cell? ⟨gA,j,none⟩=some (.int .i64 x):=by
 have hj:j<c.st.length:=(List.getElem?_eq_some_iff.1 hx).1
 obtain⟨gA,cap,e,gb,gl,cells,hc⟩:=Kd.R_form h.2.2.2.1 (by omega)
 injection e with eA e2 e3
 subst eA
 have h1:=(Kd.R_celln 0 h.2.2.2.1 (j:Int) (by omega) (by omega)).1
 rw[Int.toNat_natCast] at h1
 refine⟨gA,rfl,h1.trans ?_⟩
 unfold rdOf
 rw[Int.toNat_natCast,List.getD_eq_getElem?_getD,hx]
 rfl
theorem Cs.lenS (h:Cs w0 w g q c A n1 B n2):c.st.length≤9223372036854775807∧c.st.length≤n1:=⟨Kd.C_max (Kd.R_reads' h.2.2.2.1).2.2,(Kd.R_reads' h.2.2.2.1).2.1⟩
theorem Cs.lenP (h:Cs w0 w g q c A n1 B n2):c.sp.length≤9223372036854775807∧c.sp.length≤n2:=⟨Kd.C_max (Kd.R_reads' h.2.2.2.2).2.2,(Kd.R_reads' h.2.2.2.2).2.1⟩
theorem Cs.drewN (h:Cs w0 w g q c A n1 B n2) (n:Nat):Cs w0 (w.drewN n) g q c A n1 B n2:=h.below (pw_below_drewN (Below.refl _ _) n)
theorem Cs.drew (h:Cs w0 w g q c A n1 B n2):Cs w0 w.drew g q c A n1 B n2:=h.below (below_drew (Below.refl _ _))
/-- The j-th span. -/
theorem Cs.span (h:Cs w0 w g q c A n1 B n2) (j:Nat) (x:S91) (hx:c.sp[j]? =some x):∃ gB,B=some ⟨gB,0,none⟩∧w0.heap.size≤gB∧w.cell? ⟨gB,j*5,none⟩=some (.int .i64 x.f0)∧w.cell? ⟨gB,j*5+1,none⟩=some (.int .i64 x.f1)∧w.cell? ⟨gB,j*5+2,none⟩=some (.int .i64 x.f2)∧w.cell? ⟨gB,j*5+3,none⟩=some (.bool x.f3)∧w.cell? ⟨gB,j*5+4,none⟩=some (.bool x.f4)∧∀ i,w.frozen? ⟨gB,i,none⟩=false:=by
 have hj:j<c.sp.length:=(List.getElem?_eq_some_iff.1 hx).1
 obtain⟨gB,cap,e,gb,gl,cells,hc⟩:=Kd.R_form h.2.2.2.2 (by omega)
 injection e with eA e2 e3
 subst eA
 have hR:=h.2.2.2.2
 obtain⟨cs,hl,hM,hcc,_⟩:=Kd.R_elem hR z91 (j:Int) (by omega) (by omega)
 rw[Int.toNat_natCast,List.getD_eq_getElem?_getD,hx] at hM
 rw[Int.toNat_natCast] at hcc
 obtain rfl:=k91_openM hM
 have h5:∀ i u,[Value.int .i64 x.f0,.int .i64 x.f1,.int .i64 x.f2,.bool x.f3,.bool x.f4][i]? =some u→w.cell? ⟨gB,j*5+i,none⟩=some u:=hcc
 exact⟨gB,rfl,gb,h5 0 _ rfl,h5 1 _ rfl,h5 2 _ rfl,h5 3 _ rfl,h5 4 _ rfl,fun i=>blk_frozen hc i⟩
/-- A field of the j-th span is written. -/
theorem Cs.flag (gB:Nat) (h:Cs w0 w g q c A n1 (some ⟨gB,0,none⟩) n2) (j:Nat) (x:S91) (hx:c.sp[j]? =some x) (b:Bool):Cs w0 (w.setCell ⟨gB,j*5+3,none⟩ (.bool b)) g q {c with sp:=c.sp.set j {x with f3:=b}} A n1 (some ⟨gB,0,none⟩) n2∧Cs w0 (w.setCell ⟨gB,j*5+4,none⟩ (.bool b)) g q {c with sp:=c.sp.set j {x with f4:=b}} A n1 (some ⟨gB,0,none⟩) n2:=by
 have hj:j<c.sp.length:=(List.getElem?_eq_some_iff.1 hx).1
 have hR:=h.2.2.2.2
 obtain⟨gb,cells,hc⟩:=R_typed hR (g:=gB) rfl
 obtain⟨cs,hl,hM,hcc,_⟩:=Kd.R_elem hR z91 (j:Int) (by omega) (by omega)
 rw[Int.toNat_natCast,List.getD_eq_getElem?_getD,hx] at hM
 obtain rfl:=k91_openM hM
 have hgne:g≠gB:=by
  rintro rfl
  have h3:=h.2.2.1.symm.trans hc
  injection h3 with h3
  injection h3 with _ h3 _
  exact absurd h3 (by decide)
 have fin:∀ (i:Nat) (y:S91) (u:Value),Kd.R k91 91 (w.setCell ⟨gB,i,none⟩ u) w0.heap.size (fun _=>True) (.slice (some ⟨gB,0,none⟩) c.sp.length n2) (c.sp.set j y)→Cs w0 (w.setCell ⟨gB,i,none⟩ u) g q {c with sp:=c.sp.set j y} A n1 (some ⟨gB,0,none⟩) n2:=by
  intro i y u hR1
  have e:(c.sp.set j y).length=c.sp.length:=List.length_set
  refine⟨h.1,below_set h.2.1 gb,?_,R_set1 h.2.2.2.1 rfl hc (by decide) _ _,?_⟩
  ·
   simp only[e]
   exact(Below.heap_setCell w ⟨gB,i,none⟩ u g hgne).trans h.2.2.1
  simp only[e];exact hR1
 have s3:=(Kd.R_seg (okp:=fun k=>True∧k≠gB) hR (j:Int) (by omega) (by omega) (j:=3) (seg:=[.bool b]) (x':={x with f3:=b}) hl hcc (by show 3+1≤5;omega) (k91_mkM _ _ _ {x with f3:=b}) (fun k hk=>hk)).1
 have s4:=(Kd.R_seg (okp:=fun k=>True∧k≠gB) hR (j:Int) (by omega) (by omega) (j:=4) (seg:=[.bool b]) (x':={x with f4:=b}) hl hcc (by show 4+1≤5;omega) (k91_mkM _ _ _ {x with f4:=b}) (fun k hk=>hk)).1
 rw[Int.toNat_natCast] at s3 s4
 exact⟨fin _ _ _ s3,fin _ _ _ s4⟩
end

def pushS (c:CS S91) (op k:Int):Option (CS S91):=if c.sp.length<4000000000000 then some {c with sp:=c.sp++[⟨op,k,(c.st.length:Int),false,false⟩]} else none
def spec_l7begin.T0:Bool × List (List Nat × List Nat):=(true,[([],[]),([],[]),([1],[1]),([2],[2]),([3],[3]),([],[]),([],[]),([],[]),([7],[7]),([8],[8]),([9],[9]),([10],[10]),([5,6,11],[5,6,11]),([12],[12]),([4,13],[4,13]),([0,0,1,2,3,4,5,6,7,8,9,10,11,12,13,14],[0]),([15,0,1,2,3,4,5,6,7,8,9,10,11,12,13,14],[15]),([16,14,14,0,1,2,3,4,5,6,7,8,9,10,11,12,13,14],[14,16])])
def spec_l7begin.B0:List Nat:=[0,0,2,6,14,0,0,0,128,384,896,1920,4064,8160,16382,32767,65535,131071]
theorem spec_l7begin.tab0:rtab .any (opsOf Try.f29 0)=spec_l7begin.T0:=by kernel_rfl
theorem spec_l7begin.bits0:waitsOk spec_l7begin.T0.2 spec_l7begin.B0=true:=by kernel_rfl
theorem begin_any (op kd:Int) (w0 w:World) (g:Nat) (q:Nat→Value) (c c':CS S91) (A:Option Addr) (n1:Nat) (B:Option Addr) (n2:Nat) (h:Cs w0 w g q c A n1 B n2) (hr:pushS c op kd=some c'):
  Calls Try.prog 29 #[.pointer (some ⟨g,0,none⟩),.int .i64 op,.int .i64 kd] w fun e w'=>e=.returned (.tuple #[])∧CsE w0 w' g q c':=by
 have HO:=A_ h
 have HK:=A_ (KeepBut.refl w g none)
 have hu91:=Try.underlying91
 clear h
 unfold pushS at hr
 by_cases cl:c.sp.length<4000000000000
 ·
  rw[if_pos cl] at hr
  obtain rfl:=Option.some.inj hr
  have HLP:=A_ cl
  clear cl hr
  have c3:=HO.out.cell11;have c2:=HO.out.cell10
  go_enter Try.func29,Try.ntmps29
  go_upto_region 0 with (fail)
  refine sS 18 (fun w'=>w'.cell? ⟨g,11,none⟩=some (.slice B c.sp.length n2)∧w'.cell? ⟨g,10,none⟩=some (.slice A c.st.length n1)) [17] ⟨c3,c2⟩ spec_l7begin.tab0 spec_l7begin.bits0 (fun hHeld HT_ HW_=>?_)
  have m0:=A_ HO.out.drew;have m1:=A_ (keep_drew HK.out);have m2:=m0
  clear HO HK c2 c3
  generalize w.drew=wd at*
  have HO:=m0;have HK:=m1;clear m0 m1 m2
  refine pS HT_ 0 6 ?_
  refine pS HT_ 1 7 ?_
  refine pS HT_ 2 8 ?_
  refine pS HT_ 3 9 ?_
  refine pS HT_ 5 11 ?_
  refine pS HT_ 6 12 ?_
  refine pS HT_ 7 13 ?_
  refine pS HT_ 8 14 ?_
  refine pS HT_ 9 15 ?_
  refine tS HT_ HW_ 4 10 hHeld ?_
  refine tS HT_ HW_ 10 16 hHeld ?_
  refine pS HT_ 11 17 ?_
  refine pS HT_ 12 18 ?_
  refine oS HT_ 13 (some 19) (fun K hK=>?_)
  have hHeld2:Aside0 ((wd.alloc (.cells #[.int .i64 op,.int .i64 kd,.int .i64 (c.st.length:Int),.bool false,.bool false] 91 (0,0))).cell? ⟨g,11,none⟩=some (.slice B c.sp.length n2)∧(wd.alloc (.cells #[.int .i64 op,.int .i64 kd,.int .i64 (c.st.length:Int),.bool false,.bool false] 91 (0,0))).cell? ⟨g,10,none⟩=some (.slice A c.st.length n1)):=⟨by obtain⟨s0_,s1_⟩:=hHeld;exact⟨cl_ (below_alloc (Below.refl _ _) _) s0_,cl_ (below_alloc (Below.refl _ _) _) s1_⟩⟩
  refine value_ (w1:=(wd.alloc (.cells #[.int .i64 op,.int .i64 kd,.int .i64 (c.st.length:Int),.bool false,.bool false] 91 (0,0)))) (v:=.slice (some ⟨wd.heap.size,0,none⟩) 1 1) (by rfl) rfl (by first|(go_simp;done)|(go_simp;rfl)) ?_
  clear hHeld
  refine hK.out _ _ hHeld2.out (fun hHeld=>?_)
  clear hK K
  refine nS (some 19) ?_
  refine oS HT_ 14 (some 20) (fun K hK=>?_)
  refine Kd.R_append_step k91 w0.heap.size (by rfl) (.tmp 10) (.tmp 19) 66 91 (.agg #[.int .i64 0,.int .i64 0,.int .i64 0,.bool false,.bool false]) 32 rfl Try.underlying66 info91 rfl (by decide) (by omega) (.slice B c.sp.length n2) c.sp (⟨op,kd,(c.st.length:Int),false,false⟩:S91) [.int .i64 op,.int .i64 kd,.int .i64 (c.st.length:Int),.bool false,.bool false] (fun _=>True) (fun _=>False) rfl rfl ?aP (fun _ hk=>hk.elim) (fun _ _=>trivial) HO.out.2.2.2.2 HO.out.2.1 HO.out.2.1.size ?aL ?_;(case aP=>exact k91_mkM _ _ _ (⟨op,kd,(c.st.length:Int),false,false⟩:S91));(case aL=>have:=HLP.out;omega)
  intro v1 wa hv hb hg hat
  obtain⟨hblk,B',n',e_,hN⟩:=HO.out.appP hv hb hg;subst e_;have HB:=A_ hblk;have HN:=A_ hN
  have hblk0:=A_ hblk
  clear hv hb hg hat hblk hN hHeld hHeld2
  refine hK.out _ _ ⟨(blk_cell hblk0.out 11).trans rfl,(blk_cell hblk0.out 10).trans rfl⟩ (fun hHeld=>?_)
  clear hK K
  refine nS (some 20) ?_
  refine pS HT_ 15 21 ?_
  refine pS HT_ 16 22 ?_
  refine lS HT_ 17 (none) (fun K hK=>?_)
  have ff:=blk_frozen HB.out 11
  refine skip_ (w1:=(wa.setCell ⟨g,11,none⟩ (.slice B' (c.sp.length+1) n'))) (by rfl) rfl (by first|(obtain⟨s0_,s1_⟩:=hHeld;go_simp;done)|(obtain⟨s0_,s1_⟩:=hHeld;go_simp;rfl)) ?_
  clear hHeld ff
  refine hK.out _ _ ?_
  clear hK K
  refine dS HT_ ?_
  clear HO HK
  generalize (wa.setCell ⟨g,11,none⟩ (.slice B' (c.sp.length+1) n'))=wy at*
  have HO:=HN
  go_wp2
  first|go_end0|((try simp only[Exit.inBlock,Exit.then]);refine rt_ ?_)
  exact⟨rfl,_,_,_,_,HO.out⟩
 rw[if_neg cl] at hr;cases hr


/-! ### spec_l7S_die: function 42 (walked by hand) -/
def dieS (c:CS S91):Option (CS S91):=if c.fa≠0 then some c else (c.sp[c.sp.length - 1]?).bind fun b=>if 0≤b.f2∧b.f2≤(c.st.length:Int) then some {c with st:=c.st.take b.f2.toNat,sp:=c.sp.set (c.sp.length - 1) {b with f3:=true}} else none
theorem sdie_any (w0 w:World) (g:Nat) (q:Nat→Value) (c c':CS S91) (A:Option Addr) (n1:Nat) (B:Option Addr) (n2:Nat) (h:Cs w0 w g q c A n1 B n2) (hr:dieS c=some c'):
  Calls Try.prog 42 #[.pointer (some ⟨g,0,none⟩)] w fun e w'=>e=.returned (.tuple #[])∧CsE w0 w' g q c':=by
 have HO:=A_ h
 have HK:=A_ (KeepBut.refl w g none)
 unfold dieS at hr
 have c12f:=HO.out.cell12
 by_cases kf:c.fa≠0
 ·
  rw[if_pos kf] at hr
  obtain rfl:=Option.some.inj hr
  have cf:(c.fa !=0)=true:=bne_iff_ne.2 kf
  clear h kf
  go_enter Try.func42,Try.ntmps42
  go_wp2
  first|go_end0|((try simp only[Exit.inBlock,Exit.then]);refine rt_ ?_)
  exact⟨rfl,_,_,_,_,HO.out⟩
 rw[if_neg kf] at hr
 have cf:(c.fa !=0)=false:=bne_eq_false_iff_eq.2 (Classical.not_not.1 kf)
 obtain⟨b,hb,hr1⟩:=Option.bind_eq_some_iff.1 hr
 clear hr kf
 by_cases hz:0≤b.f2∧b.f2≤(c.st.length:Int)
 ·
  rw[if_pos hz] at hr1
  obtain rfl:=Option.some.inj hr1
  obtain⟨hh,hhe⟩:=Int.eq_ofNat_of_zero_le hz.1
  have HH:=A_ hhe
  have HC:=A_ (show hh≤c.st.length by omega)
  rw[show b.f2.toNat=hh by omega]
  have hp:0<c.sp.length:=by have:=(List.getElem?_eq_some_iff.1 hb).1;omega
  have HLT:=A_ (List.getElem?_eq_some_iff.1 hb).1
  obtain⟨gB,rfl,_,_,_,s2,_,_,_⟩:=h.span _ b hb
  rw[hhe] at s2
  have HBB:=A_ hb
  have hm:=h.lenP.1
  have e1:IntKind.i64.wrap ((c.sp.length:Int) - 1)=((c.sp.length - 1:Nat):Int):=by rw[show ((c.sp.length:Int) - 1)=((c.sp.length - 1:Nat):Int) by omega];exact IntWalk.i64_in _ (by omega)
  have q1:(0:Int)≤((c.sp.length - 1:Nat):Int):=by omega
  have q2:((c.sp.length - 1:Nat):Int)<(c.sp.length:Int):=by omega
  have hsh:=R_shape h.2.2.2.1
  have hcap:=h.lenS.2
  have c11f:=HO.out.cell11
  have c10f:=HO.out.cell10
  have u10:=HO.out.frozen 10
  clear hr1 hz hhe hp hm hb h
  rcases hsh with ⟨rfl,z1,z2⟩|⟨gA,rfl⟩
  ·
   have HZ:=A_ (And.intro z1 z2)
   obtain rfl:hh=0:=by have:=HC.out;omega
   rw[z1,z2] at c10f
   clear z1 z2 hcap
   go_enter Try.func42,Try.ntmps42
   go_upto_region 2 with (fail)
   go_still_tail 16,(by kernel_rfl)
   change wpList _ _ _ _ _ w.drew
   replace HO:=A_ (HO.out.drew);replace HK:=A_ (trivial);clear c10f c11f c12f u10 s2;generalize w.drew=wa at*
   have c10f:=HO.out.cell10;have u10:=HO.out.frozen 10
   rw[HZ.out.1,HZ.out.2] at c10f
   go_upto_region 3 with (fail)
   have h9:=HO.out.cutS 0 HC.out
   rw[HZ.out.2] at h9
   replace HO:=A_ (h9);replace HK:=A_ (trivial);clear c10f u10;generalize wa.setCell ⟨g,10,none⟩ (.slice none 0 0)=wb at*
   have c11f:=HO.out.cell11
   obtain⟨_,e_,_,_,_,_,s3,_,sf⟩:=HO.out.span (c.sp.length - 1) b HBB.out;cases e_;have u3:=sf ((c.sp.length - 1)*5+3);clear sf
   clear h9
   go_wp2
   first|go_end0|((try simp only[Exit.inBlock,Exit.then]);refine rt_ ?_)
   exact⟨rfl,_,_,_,_,(HO.out.flag gB (c.sp.length - 1) b HBB.out true).1⟩
  have q3:(0:Int)≤(hh:Int):=by omega
  have q4:(hh:Int)≤(n1:Int):=by have:=HC.out;omega
  clear hcap
  go_enter Try.func42,Try.ntmps42
  go_upto_region 2 with (fail)
  go_still_tail 16,(by kernel_rfl)
  change wpList _ _ _ _ _ w.drew
  replace HO:=A_ (HO.out.drew);replace HK:=A_ (trivial);clear c10f c11f c12f u10 s2;generalize w.drew=wa at*
  have c10f:=HO.out.cell10;have u10:=HO.out.frozen 10
  go_upto_region 3 with (fail)
  replace HO:=A_ (HO.out.cutS hh HC.out);replace HK:=A_ (trivial);clear c10f u10;generalize wa.setCell ⟨g,10,none⟩ (.slice (some ⟨gA,0,none⟩) hh n1)=wb at*
  have c11f:=HO.out.cell11
  obtain⟨_,e_,_,_,_,_,s3,_,sf⟩:=HO.out.span (c.sp.length - 1) b HBB.out;cases e_;have u3:=sf ((c.sp.length - 1)*5+3);clear sf
  go_wp2
  first|go_end0|((try simp only[Exit.inBlock,Exit.then]);refine rt_ ?_)
  exact⟨rfl,_,_,_,_,(HO.out.flag gB (c.sp.length - 1) b HBB.out true).1⟩
 rw[if_neg hz] at hr1;cases hr1


end Go.Proofs.Ytghogonibanieaa.Q

