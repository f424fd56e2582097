-- Written by a program of this session; it walks the functions that the law reaches.
import Derived.Test.YtmajifnehjlncaaQx0
import Derived.Test.YtmajifnehjlncaaQx4
import Derived.Test.YtmajifnehjlncaaQx5
import Derived.Test.YtmajifnehjlncaaQx6
import Derived.Test.YtmajifnehjlncaaQx7
import Derived.Test.YtmajifnehjlncaaQx8
namespace Go.Proofs.Ytmajifnehjlncaa.Q
open Go.RowKit Go.Proofs.YtmajifnehjlncaaW.PrintWords Go.Proofs.YtmajifnehjlncaaW.PrintLast Go.Proofs.YtmajifnehjlncaaW.PrintMore
attribute [local go_sem] max2_int min2_int max_two min_two max_three min_three max_four min_four   -- for this text's walks alone
set_option linter.unusedVariables false
set_option linter.unusedSimpArgs false

/-! ### laws_FnCode: function 3 -/
mutual
def laws_FnCode.j0:Nat→List (S37)→ByteArray→Bool→Bool→Option (Bool)
 |0,_,_,_,_=>none
 |k+1,x3,x4,x5,x42=>if x42=true then (some false) else (if x5=true then ((impl_ReadCode.f k x4).bind fun bt834=>(if bt834.2=true then ((laws_sameCode.f k x3 bt834.1).bind fun t838=>(if t838=true then (laws_FnCode.j1 k x3) else (some false))) else (some false))) else (laws_FnCode.j1 k x3))
def laws_FnCode.j1:Nat→List (S37)→Option (Bool)
 |0,_=>none
 |k+1,x3=>(impl_EndsOf.f k x3).bind fun bt839=>((spec_EndsOf.f k x3).bind fun bt843=>((impl_DeepestOf.f k x3).bind fun bt847=>(if (bt839.2 !=bt843.2)=true then (laws_FnCode.j2 k x3 bt839.1 bt839.2 bt847.1 true) else (if (bt847.2 !=bt843.2)=true then (laws_FnCode.j2 k x3 bt839.1 bt839.2 bt847.1 true) else ((laws_sameInts.f k bt839.1 bt843.1).bind fun t849=>(laws_FnCode.j2 k x3 bt839.1 bt839.2 bt847.1 (!t849)))))))
def laws_FnCode.j2:Nat→List (S37)→List Int→Bool→Int→Bool→Option (Bool)
 |0,_,_,_,_,_=>none
 |k+1,x3,x10,x11,x14,x85=>if x85=true then (some false) else (laws_FnCode.l0 k x3 x10 x11 x14 1 1 x10 (x10.length:Int) 0)
def laws_FnCode.l0:Nat→List (S37)→List Int→Bool→Int→Int→Int→List Int→Int→Int→Option (Bool)
 |0,_,_,_,_,_,_,_,_,_=>none
 |k+1,x3,x10,x11,x14,x16,x17,x86,x87,x88=>if x88<x87 then (if 0≤x88 then (if x88<(x86.length:Int) then (if (rd x86 x88)<x88 then (laws_FnCode.j4 k x3 x10 x11 x14 x16 x17 x88 x86 x87 x88 true) else (if 0≤(rd x86 x88) then (if (rd x86 x88)<(x3.length:Int) then (if ((rd_T37 x3 (rd x86 x88)).f0)=11 then (if (rd x86 x88)<(x10.length:Int) then (laws_FnCode.j4 k x3 x10 x11 x14 x16 x17 x88 x86 x87 x88 ((rd x10 (rd x86 x88)) !=(rd x86 x88))) else (none)) else (laws_FnCode.j4 k x3 x10 x11 x14 x16 x17 x88 x86 x87 x88 true)) else (none)) else (none))) else (none)) else (none)) else (if x11=true then (if x14=x17 then (some (x16==0)) else (some false)) else (some true))
def laws_FnCode.j4:Nat→List (S37)→List Int→Bool→Int→Int→Int→Int→List Int→Int→Int→Bool→Option (Bool)
 |0,_,_,_,_,_,_,_,_,_,_,_=>none
 |k+1,x3,x10,x11,x14,x16,x17,x18,x86,x87,x88,x111=>if x111=true then (some false) else (if 0≤x18 then (if x18<(x3.length:Int) then (if ((rd_T37 x3 x18).f0)=2 then (laws_FnCode.j5 k x3 x10 x11 x14 x16 x17 x86 x87 x88 ((rd_T37 x3 x18).f0) (((rd_T37 x3 x18).f0)==2)) else (if ((rd_T37 x3 x18).f0)=3 then (laws_FnCode.j5 k x3 x10 x11 x14 x16 x17 x86 x87 x88 ((rd_T37 x3 x18).f0) (((rd_T37 x3 x18).f0)==3)) else (laws_FnCode.j5 k x3 x10 x11 x14 x16 x17 x86 x87 x88 ((rd_T37 x3 x18).f0) (((rd_T37 x3 x18).f0)==4)))) else (none)) else (none))
def laws_FnCode.j5:Nat→List (S37)→List Int→Bool→Int→Int→Int→List Int→Int→Int→Int→Bool→Option (Bool)
 |0,_,_,_,_,_,_,_,_,_,_,_=>none
 |k+1,x3,x10,x11,x14,x16,x17,x86,x87,x88,x116,x117=>if x117=true then (if (wrap64 (x16+1)) > x17 then (laws_FnCode.l0 k x3 x10 x11 x14 (wrap64 (x16+1)) (wrap64 (x16+1)) x86 x87 (wrap64 (x88+1))) else (laws_FnCode.l0 k x3 x10 x11 x14 (wrap64 (x16+1)) x17 x86 x87 (wrap64 (x88+1)))) else (if x116=11 then (if (wrap64 (x16 - 1)) > x17 then (laws_FnCode.l0 k x3 x10 x11 x14 (wrap64 (x16 - 1)) (wrap64 (x16 - 1)) x86 x87 (wrap64 (x88+1))) else (laws_FnCode.l0 k x3 x10 x11 x14 (wrap64 (x16 - 1)) x17 x86 x87 (wrap64 (x88+1)))) else (if x16 > x17 then (laws_FnCode.l0 k x3 x10 x11 x14 x16 x16 x86 x87 (wrap64 (x88+1))) else (laws_FnCode.l0 k x3 x10 x11 x14 x16 x17 x86 x87 (wrap64 (x88+1)))))
end
def laws_FnCode.f (k:Nat) (l0:List Int):Option (Bool):=if (l0.length:Int) > 1048576 then (some true) else ((spec_DrawCodeBytes.f k l0).bind fun t827=>((impl_CodeBytes.f k t827).bind fun bt830=>((spec_CodeBytes.f k t827).bind fun bt832=>(if (bt830.2 !=bt832.2)=true then (laws_FnCode.j0 k t827 bt830.1 bt830.2 true) else (laws_FnCode.j0 k t827 bt830.1 bt830.2 (bt830.1.toList !=bt832.1.toList))))))
set_option maxHeartbeats 8000000 in
set_option maxRecDepth 100000 in
theorem laws_FnCode.calls (k:Nat) (A0:Option Addr) (c0:Nat) (l0:List Int) (r:Bool) (w:World) (hr0:Kd.C (Kd.int .u8) w A0 l0.length l0) (hc0:l0.length≤c0) (hTrue:r=true) (h:laws_FnCode.f k l0=some r):
  Calls Try.prog 3 #[.slice A0 l0.length c0] w fun e w'=>e=.returned (.bool r)∧Below w.heap.size w w':=by
 have HR0:=A_ hr0
 have HC0:=A_ hc0
 clear hr0 hc0
 have HB:=A_ (Below.refl w.heap.size w)
 have H:(if (l0.length:Int) > 1048576 then (some true) else ((spec_DrawCodeBytes.f k l0).bind fun t827=>((impl_CodeBytes.f k t827).bind fun bt830=>((spec_CodeBytes.f k t827).bind fun bt832=>(if (bt830.2 !=bt832.2)=true then (laws_FnCode.j0 k t827 bt830.1 bt830.2 true) else (laws_FnCode.j0 k t827 bt830.1 bt830.2 (bt830.1.toList !=bt832.1.toList)))))))=some r:=h
 clear h
 have HT:=A_ hTrue
 clear hTrue
 by_cases c2:(l0.length:Int) > 1048576
 ·
  rw[if_pos c2] at H
  have c2b0:=decide_eq_true c2
  have c2b1:decide (1048576<l0.length)=true:=decide_eq_true (by omega)
  clear c2
  obtain rfl:=Option.some.inj H
  clear H
  go_enter Try.func3,Try.ntmps3
  go_wp2
  go_ret
  exact⟨rr_,bw HB.out⟩
 rw[if_neg c2] at H
 have c2b0:=decide_eq_false c2
 have c2b1:decide (1048576<l0.length)=false:=decide_eq_false (by omega)
 clear c2
 replace H:=bi_ H
 obtain⟨t827,A30,H⟩:=H
 have A3:=A_ A30
 clear A30
 replace H:=Option.bind_eq_some_iff.mp H
 obtain⟨⟨t830,t831⟩,A40,H⟩:=H
 replace H:((spec_CodeBytes.f k t827).bind fun bt832=>(if (t831 !=bt832.2)=true then (laws_FnCode.j0 k t827 t830 t831 true) else (laws_FnCode.j0 k t827 t830 t831 (t830.toList !=bt832.1.toList))))=some r:=H
 have A4:=A_ A40
 clear A40
 replace H:=Option.bind_eq_some_iff.mp H
 obtain⟨⟨t832,t833⟩,A50,H⟩:=H
 replace H:(if (t831 !=t833)=true then (laws_FnCode.j0 k t827 t830 t831 true) else (laws_FnCode.j0 k t827 t830 t831 (t830.toList !=t832.toList)))=some r:=H
 have A5:=A_ A50
 clear A50
 have HC6:=A_ H
 clear H
 go_enter Try.func3,Try.ntmps3
 go_upto_region 6 with (first|((with_reducible refine gc_ 4 rfl ?_);refine goesL_ (some 24) rfl rfl Try.func4 (by kernel_rfl) rfl #[.slice A0 l0.length c0] rfl ar ?_;(with_reducible refine(spec_DrawCodeBytes.calls k _ _ l0 t827 _ ?side1 ?side2 A3.out).mono ?_);(case side1=>repeat (first|exact HR0.out|(with_reducible refine Kd.C_alloc ?_ _)|(with_reducible refine Kd.C_drewN ?_ _)|(with_reducible refine Kd.C_drew ?_)));(case side2=>exact HC0.out);rintro e w7 ⟨v828,rfl,ho0,hb⟩;refine⟨_,rfl,?_⟩;have HO829:=A_ (Kd.R_lower ho0 (below_size (bw HB.out)));replace HB:=bs_ HB hb;(try clear hb);(try clear hb2);(try clear hk);(try clear hi);(try clear ho0);obtain⟨Ao8,co8,eo8⟩:=Kd.R_slice HO829.out;subst eo8)|((with_reducible refine gc_ 5 rfl ?_);refine goesL_ (some 27) rfl rfl Try.func5 (by kernel_rfl) rfl #[.slice Ao8 t827.length co8] rfl ar ?_;(with_reducible refine(impl_CodeBytes.calls k _ _ t827 t830 t831 _ ?side1 ?side2 A4.out).mono ?_);(case side1=>repeat (first|exact(Kd.R_reads' HO829.out).2.2|(with_reducible refine Kd.C_alloc ?_ _)|(with_reducible refine Kd.C_drewN ?_ _)|(with_reducible refine Kd.C_drew ?_)));(case side2=>exact(Kd.R_reads' HO829.out).2.1);rintro e w9 ⟨rfl,hb⟩;refine⟨_,rfl,?_⟩;replace HO829:=A_ (Kd.R_below (kr_ HO829.out) hb);replace HB:=bs_ HB hb;(try clear hb))|((with_reducible refine gc_ 6 rfl ?_);refine goesL_ (some 32) rfl rfl Try.func6 (by kernel_rfl) rfl #[.slice Ao8 t827.length co8] rfl ar ?_;(with_reducible refine(spec_CodeBytes.calls k _ _ t827 t832 t833 _ ?side1 ?side2 A5.out).mono ?_);(case side1=>repeat (first|exact(Kd.R_reads' HO829.out).2.2|(with_reducible refine Kd.C_alloc ?_ _)|(with_reducible refine Kd.C_drewN ?_ _)|(with_reducible refine Kd.C_drew ?_)));(case side2=>exact(Kd.R_reads' HO829.out).2.1);rintro e w10 ⟨rfl,hb⟩;refine⟨_,rfl,?_⟩;replace HO829:=A_ (Kd.R_below (kr_ HO829.out) hb);replace HB:=bs_ HB hb;(try clear hb)))
 (try simp only[Act.put,List.setIfInBounds_toArray,List.set_cons_zero,List.set_cons_succ])
 go_cut [42] (fun v42 wc=>∃ (kq:Nat) (x42_5:Bool),v42=.bool x42_5∧Aside0 (laws_FnCode.j0 kq t827 t830 t831 x42_5=some r)∧Aside0 (kq≤k)∧Aside0 (Kd.R k37 37 wc w.heap.size (fun _=>True) (.slice Ao8 t827.length co8) t827)∧Aside0 (Below w.heap.size w wc))
 case first=>
  have H:=HC6.out
  clear HC6
  by_cases c11:(t831 !=t833)=true
  ·
   rw[if_pos c11] at H
   have c11b0:(t831 !=t833)=true:=c11
   (try (have c11b1:decide (t831=t833)=false:=by simpa using c11))
   (try (have c11b2:(t831==t833)=false:=by simpa using c11))
   (try (have c11b3:¬(t831=t833):=by simpa using c11))
   clear c11
   (first|rw[c11b0]|(simp only[i64_w,i32_w];rw[c11b0])|skip)
   have H':=A_ H
   clear H
   go_wp2
   go_meet
   case rel=>exact⟨_,(true),rs_,H',⟨by first|omega|exact Nat.le_refl _⟩,⟨kr_ HO829.out⟩,⟨bw HB.out⟩⟩
  rw[if_neg c11] at H
  have c11b0:(t831 !=t833)=false:=by simpa using c11
  (try (have c11b1:decide (t831=t833)=true:=by simpa using c11))
  (try (have c11b2:(t831==t833)=true:=by simpa using c11))
  clear c11
  (first|rw[c11b0]|(simp only[i64_w,i32_w];rw[c11b0])|skip)
  have H':=A_ H
  clear H
  go_wp2
  go_meet
  case rel=>exact⟨_,((t830.toList !=t832.toList)),rs_,H',⟨by first|omega|exact Nat.le_refl _⟩,⟨kr_ HO829.out⟩,⟨bw HB.out⟩⟩
 case rest=>
  clear HC6
  try clear c2 c2b0 c2b1
  obtain⟨kq,x42_5,rfl,HA,HJ5,HO_3,HB⟩:=hcut
  cases kq with
  |zero=>exact absurd HA.out (by simp[laws_FnCode.j0])
  |succ kj5=>
   have H:=HA.out
   clear HA
   simp only[laws_FnCode.j0] at H
   by_cases c12:x42_5=true
   ·
    subst c12
    replace H:=iT_ H
    obtain rfl:=Option.some.inj H
    exact absurd HT.out (by decide)
   replace c12:=Bool.eq_false_iff.mpr c12
   subst c12
   replace H:=iF_ H
   have HC13:=A_ H
   clear H
   go_upto_if 43 with (fail)
   go_cut [] (fun wc=>∃ (kq:Nat),Aside0 (laws_FnCode.j1 kq t827=some r)∧Aside0 (kq≤kj5)∧Aside0 (Kd.R k37 37 wc w.heap.size (fun _=>True) (.slice Ao8 t827.length co8) t827)∧Aside0 (Below w.heap.size w wc))
   case first=>
    have H:=HC13.out
    clear HC13
    by_cases c14:t831=true
    ·
     subst c14
     replace H:=iT_ H
     replace H:=Option.bind_eq_some_iff.mp H
     obtain⟨⟨t834,t835⟩,A150,H⟩:=H
     replace H:(if t835=true then ((laws_sameCode.f kj5 t827 t834).bind fun t838=>(if t838=true then (laws_FnCode.j1 kj5 t827) else (some false))) else (some false))=some r:=H
     have A15:=A_ A150
     clear A150
     by_cases c16:t835=true
     ·
      subst c16
      replace H:=iT_ H
      replace H:=bi_ H
      obtain⟨t838,A170,H⟩:=H
      have A17:=A_ A170
      clear A170
      by_cases c18:t838=true
      ·
       subst c18
       replace H:=iT_ H
       have H':=A_ H
       clear H
       go_wp2_with (first|((with_reducible refine gc_ 7 rfl ?_);refine goesL_ (some 46) rfl rfl Try.func7 (by kernel_rfl) rfl #[.string t830] rfl ar ?_;(with_reducible refine(impl_ReadCode.calls kj5 t830 t834 true _ A15.out).mono ?_);rintro e w19 ⟨v836,rfl,ho0,hb⟩;refine⟨_,rfl,?_⟩;have HO837:=A_ (Kd.R_lower (Kd.R_new' ho0 (Kd.R_lt (kr_ HO_3.out))) (below_size (bw HB.out)));replace HO_3:=A_ (Kd.R_elder' (kr_ HO_3.out) (Kd.R_base ho0) hb);replace HB:=bs_ HB hb;(try clear hb);(try clear hb2);(try clear hk);(try clear hi);(try clear ho0);obtain⟨Ao20,co20,eo20⟩:=Kd.R_slice HO837.out;subst eo20)|(go_at_call 8;(with_reducible refine(laws_sameCode.calls kj5 _ _ t827 _ _ t834 true _ ?side1 ?side2 ?side3 ?side4 A17.out).mono ?_);(case side1=>repeat (first|exact(Kd.R_reads' HO_3.out).2.2|(with_reducible refine Kd.C_alloc ?_ _)|(with_reducible refine Kd.C_drewN ?_ _)|(with_reducible refine Kd.C_drew ?_)));(case side2=>exact(Kd.R_reads' HO_3.out).2.1);(case side3=>repeat (first|exact(Kd.R_reads' HO837.out).2.2|(with_reducible refine Kd.C_alloc ?_ _)|(with_reducible refine Kd.C_drewN ?_ _)|(with_reducible refine Kd.C_drew ?_)));(case side4=>exact(Kd.R_reads' HO837.out).2.1);rintro e w' ⟨rfl,⟨nd,rfl⟩⟩))
       go_meet
       case rel=>exact⟨_,H',⟨by have:=HJ5.out;first|omega|exact Nat.le_refl _⟩,⟨by (with_reducible repeat (first|apply Kd.R_alloc|apply Kd.R_drewN|apply Kd.R_drew));exact Kd.R_mono HO_3.out (fun _ hk=>trivial)⟩,⟨bw HB.out⟩⟩
      replace c18:=Bool.eq_false_iff.mpr c18
      subst c18
      replace H:=iF_ H
      obtain rfl:=Option.some.inj H
      exact absurd HT.out (by decide)
     replace c16:=Bool.eq_false_iff.mpr c16
     subst c16
     replace H:=iF_ H
     obtain rfl:=Option.some.inj H
     exact absurd HT.out (by decide)
    replace c14:=Bool.eq_false_iff.mpr c14
    subst c14
    replace H:=iF_ H
    have H':=A_ H
    clear H
    go_wp2
    go_meet
    case rel=>exact⟨_,H',⟨by have:=HJ5.out;first|omega|exact Nat.le_refl _⟩,⟨kr_ HO_3.out⟩,⟨bw HB.out⟩⟩
   case rest=>
    clear HC13
    try clear c2 c2b0 c2b1 c12
    obtain⟨kq,HA,HJ12,HO_3,HB⟩:=hcut
    cases kq with
    |zero=>exact absurd HA.out (by simp[laws_FnCode.j1])
    |succ kj12=>
     have H:=HA.out
     clear HA
     simp only[laws_FnCode.j1] at H
     replace H:=Option.bind_eq_some_iff.mp H
     obtain⟨⟨t839,t840⟩,A210,H⟩:=H
     replace H:((spec_EndsOf.f kj12 t827).bind fun bt843=>((impl_DeepestOf.f kj12 t827).bind fun bt847=>(if (t840 !=bt843.2)=true then (laws_FnCode.j2 kj12 t827 t839 t840 bt847.1 true) else (if (bt847.2 !=bt843.2)=true then (laws_FnCode.j2 kj12 t827 t839 t840 bt847.1 true) else ((laws_sameInts.f kj12 t839 bt843.1).bind fun t849=>(laws_FnCode.j2 kj12 t827 t839 t840 bt847.1 (!t849)))))))=some r:=H
     have A21:=A_ A210
     clear A210
     replace H:=Option.bind_eq_some_iff.mp H
     obtain⟨⟨t843,t844⟩,A220,H⟩:=H
     replace H:((impl_DeepestOf.f kj12 t827).bind fun bt847=>(if (t840 !=t844)=true then (laws_FnCode.j2 kj12 t827 t839 t840 bt847.1 true) else (if (bt847.2 !=t844)=true then (laws_FnCode.j2 kj12 t827 t839 t840 bt847.1 true) else ((laws_sameInts.f kj12 t839 t843).bind fun t849=>(laws_FnCode.j2 kj12 t827 t839 t840 bt847.1 (!t849))))))=some r:=H
     have A22:=A_ A220
     clear A220
     replace H:=Option.bind_eq_some_iff.mp H
     obtain⟨⟨t847,t848⟩,A230,H⟩:=H
     replace H:(if (t840 !=t844)=true then (laws_FnCode.j2 kj12 t827 t839 t840 t847 true) else (if (t848 !=t844)=true then (laws_FnCode.j2 kj12 t827 t839 t840 t847 true) else ((laws_sameInts.f kj12 t839 t843).bind fun t849=>(laws_FnCode.j2 kj12 t827 t839 t840 t847 (!t849)))))=some r:=H
     have A23:=A_ A230
     clear A230
     have HC24:=A_ H
     clear H
     go_upto_region 15 with (first|((with_reducible refine gc_ 9 rfl ?_);refine goesL_ (some 59) rfl rfl Try.func9 (by kernel_rfl) rfl #[.slice Ao8 t827.length co8] rfl ar ?_;(with_reducible refine(impl_EndsOf.calls kj12 _ _ t827 t839 t840 _ ?side1 ?side2 A21.out).mono ?_);(case side1=>repeat (first|exact(Kd.R_reads' HO_3.out).2.2|(with_reducible refine Kd.C_alloc ?_ _)|(with_reducible refine Kd.C_drewN ?_ _)|(with_reducible refine Kd.C_drew ?_)));(case side2=>exact(Kd.R_reads' HO_3.out).2.1);rintro e w25 ⟨v841,rfl,ho0,hb⟩;refine⟨_,rfl,?_⟩;have HO842:=A_ (Kd.R_lower ho0 (below_size (bw HB.out)));replace HO_3:=A_ (Kd.R_below (kr_ HO_3.out) hb);replace HB:=bs_ HB hb;(try clear hb);(try clear hb2);(try clear hk);(try clear hi);(try clear ho0))|((with_reducible refine gc_ 10 rfl ?_);refine goesL_ (some 64) rfl rfl Try.func10 (by kernel_rfl) rfl #[.slice Ao8 t827.length co8] rfl ar ?_;(with_reducible refine(spec_EndsOf.calls kj12 _ _ t827 t843 t844 _ ?side1 ?side2 A22.out).mono ?_);(case side1=>repeat (first|exact(Kd.R_reads' HO_3.out).2.2|(with_reducible refine Kd.C_alloc ?_ _)|(with_reducible refine Kd.C_drewN ?_ _)|(with_reducible refine Kd.C_drew ?_)));(case side2=>exact(Kd.R_reads' HO_3.out).2.1);rintro e w26 ⟨v845,rfl,ho0,hb⟩;refine⟨_,rfl,?_⟩;have HO846:=A_ (Kd.R_lower (Kd.R_new' ho0 (Kd.R_lt (kr_ HO842.out))) (below_size (bw HB.out)));replace HO_3:=A_ (Kd.R_below (kr_ HO_3.out) hb);replace HO842:=A_ (Kd.R_elder' (kr_ HO842.out) (Kd.R_base ho0) hb);replace HB:=bs_ HB hb;(try clear hb);(try clear hb2);(try clear hk);(try clear hi);(try clear ho0))|((with_reducible refine gc_ 11 rfl ?_);refine goesL_ (some 69) rfl rfl Try.func11 (by kernel_rfl) rfl #[.slice Ao8 t827.length co8] rfl ar ?_;(with_reducible refine(impl_DeepestOf.calls kj12 _ _ t827 t847 t848 _ ?side1 ?side2 A23.out).mono ?_);(case side1=>repeat (first|exact(Kd.R_reads' HO_3.out).2.2|(with_reducible refine Kd.C_alloc ?_ _)|(with_reducible refine Kd.C_drewN ?_ _)|(with_reducible refine Kd.C_drew ?_)));(case side2=>exact(Kd.R_reads' HO_3.out).2.1);rintro e w27 ⟨rfl,hb⟩;refine⟨_,rfl,?_⟩;replace HO_3:=A_ (Kd.R_below (kr_ HO_3.out) hb);replace HO842:=A_ (Kd.R_below (kr_ HO842.out) hb);replace HO846:=A_ (Kd.R_below (kr_ HO846.out) hb);replace HB:=bs_ HB hb;(try clear hb)))
     (try simp only[Act.put,List.setIfInBounds_toArray,List.set_cons_zero,List.set_cons_succ])
     go_cut [85] (fun v85 wc=>∃ (kq:Nat) (x85_23:Bool),v85=.bool x85_23∧Aside0 (laws_FnCode.j2 kq t827 t839 t840 t847 x85_23=some r)∧Aside0 (kq≤kj12)∧Aside0 (Kd.R k37 37 wc w.heap.size (fun _=>True) (.slice Ao8 t827.length co8) t827)∧Aside0 (Kd.R (Kd.int .i64) 3 wc w.heap.size (fun _=>True) v841 t839)∧Aside0 (Below w.heap.size w wc))
     case first=>
      have H:=HC24.out
      clear HC24
      by_cases c28:(t840 !=t844)=true
      ·
       rw[if_pos c28] at H
       have c28b0:(t840 !=t844)=true:=c28
       (try (have c28b1:decide (t840=t844)=false:=by simpa using c28))
       (try (have c28b2:(t840==t844)=false:=by simpa using c28))
       (try (have c28b3:¬(t840=t844):=by simpa using c28))
       clear c28
       (first|rw[c28b0]|(simp only[i64_w,i32_w];rw[c28b0])|skip)
       have H':=A_ H
       clear H
       go_wp2
       go_meet
       case rel=>exact⟨_,(true),rs_,H',⟨by have:=HJ5.out;have:=HJ12.out;first|omega|exact Nat.le_refl _⟩,⟨kr_ HO_3.out⟩,⟨by (with_reducible repeat (first|apply Kd.R_alloc|apply Kd.R_drewN|apply Kd.R_drew));exact Kd.R_mono HO842.out (fun _ hk=>trivial)⟩,⟨bw HB.out⟩⟩
      rw[if_neg c28] at H
      have c28b0:(t840 !=t844)=false:=by simpa using c28
      (try (have c28b1:decide (t840=t844)=true:=by simpa using c28))
      (try (have c28b2:(t840==t844)=true:=by simpa using c28))
      clear c28
      (first|rw[c28b0]|(simp only[i64_w,i32_w];rw[c28b0])|skip)
      by_cases c29:(t848 !=t844)=true
      ·
       rw[if_pos c29] at H
       have c29b0:(t848 !=t844)=true:=c29
       (try (have c29b1:decide (t848=t844)=false:=by simpa using c29))
       (try (have c29b2:(t848==t844)=false:=by simpa using c29))
       (try (have c29b3:¬(t848=t844):=by simpa using c29))
       clear c29
       have H':=A_ H
       clear H
       go_wp2
       go_meet
       case rel=>exact⟨_,(true),rs_,H',⟨by have:=HJ5.out;have:=HJ12.out;first|omega|exact Nat.le_refl _⟩,⟨kr_ HO_3.out⟩,⟨by (with_reducible repeat (first|apply Kd.R_alloc|apply Kd.R_drewN|apply Kd.R_drew));exact Kd.R_mono HO842.out (fun _ hk=>trivial)⟩,⟨bw HB.out⟩⟩
      rw[if_neg c29] at H
      have c29b0:(t848 !=t844)=false:=by simpa using c29
      (try (have c29b1:decide (t848=t844)=true:=by simpa using c29))
      (try (have c29b2:(t848==t844)=true:=by simpa using c29))
      clear c29
      replace H:=bi_ H
      obtain⟨t849,A300,H⟩:=H
      have A30:=A_ A300
      clear A300
      have H':=A_ H
      clear H
      obtain⟨Ao31,co31,eo31⟩:=Kd.R_slice HO842.out
      subst eo31
      obtain⟨Ao32,co32,eo32⟩:=Kd.R_slice HO846.out
      subst eo32
      go_wp2_with (first|(go_at_call 12;(with_reducible refine(laws_sameInts.calls kj12 _ _ t839 _ _ t843 t849 _ ?side1 ?side2 ?side3 ?side4 A30.out).mono ?_);(case side1=>repeat (first|exact(Kd.R_reads' HO842.out).2.2|(with_reducible refine Kd.C_alloc ?_ _)|(with_reducible refine Kd.C_drewN ?_ _)|(with_reducible refine Kd.C_drew ?_)));(case side2=>exact(Kd.R_reads' HO842.out).2.1);(case side3=>repeat (first|exact(Kd.R_reads' HO846.out).2.2|(with_reducible refine Kd.C_alloc ?_ _)|(with_reducible refine Kd.C_drewN ?_ _)|(with_reducible refine Kd.C_drew ?_)));(case side4=>exact(Kd.R_reads' HO846.out).2.1);rintro e w' ⟨rfl,⟨nd,rfl⟩⟩))
      go_meet
      case rel=>exact⟨_,(!t849),rs_,H',⟨by have:=HJ5.out;have:=HJ12.out;first|omega|exact Nat.le_refl _⟩,⟨kr_ HO_3.out⟩,⟨by (with_reducible repeat (first|apply Kd.R_alloc|apply Kd.R_drewN|apply Kd.R_drew));exact Kd.R_mono HO842.out (fun _ hk=>trivial)⟩,⟨bw HB.out⟩⟩
     case rest=>
      clear HC24
      try clear c2 c2b0 c2b1 c12
      obtain⟨kq,x85_23,rfl,HA,HJ23,HO_3,HO_10,HB⟩:=hcut
      cases kq with
      |zero=>exact absurd HA.out (by simp[laws_FnCode.j2])
      |succ kj23=>
       have H:=HA.out
       clear HA
       simp only[laws_FnCode.j2] at H
       by_cases c33:x85_23=true
       ·
        subst c33
        replace H:=iT_ H
        obtain rfl:=Option.some.inj H
        exact absurd HT.out (by decide)
       replace c33:=Bool.eq_false_iff.mpr c33
       subst c33
       replace H:=iF_ H
       have H':=A_ H
       clear H
       obtain⟨Ao34,co34,eo34⟩:=Kd.R_slice HO_10.out
       subst eo34
       go_wp2
       (try simp only[Act.put,List.setIfInBounds_toArray,List.set_cons_zero,List.set_cons_succ])
       go_loopg [16,17,88] kj23 (fun kq v16 v17 v88 w'=>∃ (x16_4:Int) (x17_4:Int) (x88_4:Int),v16=.int .i64 x16_4∧v17=.int .i64 x17_4∧v88=.int .i64 x88_4∧Aside0 (laws_FnCode.l0 kq t827 t839 t840 t847 x16_4 x17_4 t839 (t839.length:Int) x88_4=some r)∧Aside0 (kq≤kj23)∧Aside0 (Kd.R k37 37 w' w.heap.size (fun _=>True) (.slice Ao8 t827.length co8) t827)∧Aside0 (Kd.R (Kd.int .i64) 3 w' w.heap.size (fun _=>True) (.slice Ao34 t839.length co34) t839)∧Aside0 (Kd.R (Kd.int .i64) 3 w' w.heap.size (fun _=>True) (.slice Ao34 t839.length co34) t839)∧Aside0 (Below w.heap.size w w'))
       case atStart=>exact⟨(1),(1),(0),rs_,rs_,rs_,H',⟨Nat.le_refl _⟩,⟨kr_ HO_3.out⟩,⟨kr_ HO_10.out⟩,⟨kr_ HO_10.out⟩,⟨bw HB.out⟩⟩
       case round=>
        clear H'
        try clear c2 c2b0 c2b1 c12 c33
        obtain⟨x16_4,x17_4,x88_4,rfl,rfl,rfl,HA,HK4,HO_3,HO_10,HO_86,HB⟩:=hrel
        cases gk with
        |zero=>exact absurd HA.out (by simp[laws_FnCode.l0])
        |succ k4=>
         have H:=HA.out
         clear HA
         simp only[laws_FnCode.l0] at H
         by_cases c35:x88_4<(t839.length:Int)
         ·
          rw[if_pos c35] at H
          have c35b0:=decide_eq_true c35
          clear c35
          by_cases c36:0≤x88_4
          ·
           rw[if_pos c36] at H
           have c36b0:=decide_eq_true c36
           clear c36
           by_cases c37:x88_4<(t839.length:Int)
           ·
            rw[if_pos c37] at H
            have c37b0:=decide_eq_true c37
            clear c37
            have HC38:=A_ H
            clear H
            have p850:0≤(x88_4:Int):=od_
            have q850:x88_4<(t839.length:Int):=od_
            obtain⟨ad850,e850,hx850_0⟩:=Kd.at_int (Kd.R_reads' HO_86.out).2.2 x88_4 p850 q850
            cases e850
            replace p850:=eq_true p850
            replace q850:=eq_true q850
            go_upto_region 22 with (fail)
            go_cut [111] (fun v111 wc=>∃ (kq:Nat) (x111_37:Bool),v111=.bool x111_37∧Aside0 (laws_FnCode.j4 kq t827 t839 t840 t847 x16_4 x17_4 x88_4 t839 (t839.length:Int) x88_4 x111_37=some r)∧Aside0 (kq≤k4)∧Aside0 (Kd.R k37 37 wc w.heap.size (fun _=>True) (.slice Ao8 t827.length co8) t827)∧Aside0 (Kd.R (Kd.int .i64) 3 wc w.heap.size (fun _=>True) (.slice (some ad850) t839.length co34) t839)∧Aside0 (Kd.R (Kd.int .i64) 3 wc w.heap.size (fun _=>True) (.slice (some ad850) t839.length co34) t839)∧Aside0 (Below w.heap.size w wc))
            case first=>
             have H:=HC38.out
             clear HC38
             by_cases c39:(rd t839 x88_4)<x88_4
             ·
              rw[if_pos c39] at H
              have c39b0:=decide_eq_true c39
              clear c39
              (first|rw[c39b0]|(simp only[i64_w,i32_w];rw[c39b0])|skip)
              have H':=A_ H
              clear H
              go_wp2
              go_meet
              case rel=>exact⟨_,(true),rs_,H',⟨by have:=HJ5.out;have:=HJ12.out;have:=HJ23.out;have:=HK4.out;first|omega|exact Nat.le_refl _⟩,⟨kr_ HO_3.out⟩,⟨kr_ HO_10.out⟩,⟨kr_ HO_86.out⟩,⟨bw HB.out⟩⟩
             rw[if_neg c39] at H
             have c39b0:=decide_eq_false c39
             clear c39
             (first|rw[c39b0]|(simp only[i64_w,i32_w];rw[c39b0])|skip)
             by_cases c40:0≤(rd t839 x88_4)
             ·
              rw[if_pos c40] at H
              have c40b0:=decide_eq_true c40
              clear c40
              by_cases c41:(rd t839 x88_4)<(t827.length:Int)
              ·
               rw[if_pos c41] at H
               have c41b0:=decide_eq_true c41
               clear c41
               by_cases c42:((rd_T37 t827 (rd t839 x88_4)).f0)=11
               ·
                rw[if_pos c42] at H
                obtain⟨c42b0,c42b1⟩:=eT_ c42
                clear c42
                by_cases c43:(rd t839 x88_4)<(t839.length:Int)
                ·
                 rw[if_pos c43] at H
                 have c43b0:=decide_eq_true c43
                 clear c43
                 have H':=A_ H
                 clear H
                 have p851:0≤((rd t839 x88_4):Int):=od_
                 have q851:(rd t839 x88_4)<(t827.length:Int):=od_
                 obtain⟨ad851,e851,hx851_0,hx851_1⟩:=at_T37 (Kd.R_reads' HO_3.out).2.2 (rd t839 x88_4) p851 q851
                 cases e851
                 replace p851:=eq_true p851
                 replace q851:=eq_true q851
                 have p852:0≤((rd t839 x88_4):Int):=od_
                 have q852:(rd t839 x88_4)<(t839.length:Int):=od_
                 obtain⟨ad852,e852,hx852_0⟩:=Kd.at_int (Kd.R_reads' HO_10.out).2.2 (rd t839 x88_4) p852 q852
                 obtain rfl:ad850=ad852:=(by injection e852)
                 replace p852:=eq_true p852
                 replace q852:=eq_true q852
                 go_wp2
                 go_meet
                 case rel=>exact⟨_,(((rd t839 (rd t839 x88_4)) !=(rd t839 x88_4))),rs_,H',⟨by have:=HJ5.out;have:=HJ12.out;have:=HJ23.out;have:=HK4.out;first|omega|exact Nat.le_refl _⟩,⟨kr_ HO_3.out⟩,⟨kr_ HO_10.out⟩,⟨kr_ HO_86.out⟩,⟨bw HB.out⟩⟩
                rw[if_neg c43] at H
                exact absurd H (by simp)
               rw[if_neg c42] at H
               obtain⟨c42b0,c42b1⟩:=eF_ c42
               have H':=A_ H
               clear H
               have p851:0≤((rd t839 x88_4):Int):=od_
               have q851:(rd t839 x88_4)<(t827.length:Int):=od_
               obtain⟨ad851,e851,hx851_0,hx851_1⟩:=at_T37 (Kd.R_reads' HO_3.out).2.2 (rd t839 x88_4) p851 q851
               cases e851
               replace p851:=eq_true p851
               replace q851:=eq_true q851
               go_wp2
               go_meet
               case rel=>exact⟨_,(true),rs_,H',⟨by have:=HJ5.out;have:=HJ12.out;have:=HJ23.out;have:=HK4.out;first|omega|exact Nat.le_refl _⟩,⟨kr_ HO_3.out⟩,⟨kr_ HO_10.out⟩,⟨kr_ HO_86.out⟩,⟨bw HB.out⟩⟩
              rw[if_neg c41] at H
              exact absurd H (by simp)
             rw[if_neg c40] at H
             exact absurd H (by simp)
            case rest=>
             clear HC38
             try clear c2 c2b0 c2b1 c12 c33 c35 c35b0 c36 c36b0 c37 c37b0 hx850_0 p850 q850
             obtain⟨kq,x111_37,rfl,HA,HJ37,HO_3,HO_10,HO_86,HB⟩:=hcut
             cases kq with
             |zero=>exact absurd HA.out (by simp[laws_FnCode.j4])
             |succ kj37=>
              have H:=HA.out
              clear HA
              simp only[laws_FnCode.j4] at H
              by_cases c44:x111_37=true
              ·
               subst c44
               replace H:=iT_ H
               obtain rfl:=Option.some.inj H
               exact absurd HT.out (by decide)
              replace c44:=Bool.eq_false_iff.mpr c44
              subst c44
              replace H:=iF_ H
              by_cases c45:0≤x88_4
              ·
               rw[if_pos c45] at H
               have c45b0:=decide_eq_true c45
               clear c45
               by_cases c46:x88_4<(t827.length:Int)
               ·
                rw[if_pos c46] at H
                have c46b0:=decide_eq_true c46
                clear c46
                have HC47:=A_ H
                clear H
                have p853:0≤(x88_4:Int):=od_
                have q853:x88_4<(t827.length:Int):=od_
                obtain⟨ad853,e853,hx853_0,hx853_1⟩:=at_T37 (Kd.R_reads' HO_3.out).2.2 x88_4 p853 q853
                cases e853
                replace p853:=eq_true p853
                replace q853:=eq_true q853
                go_upto_if 117 with (fail)
                go_cut [117] (fun v117 wc=>∃ (kq:Nat) (x117_46:Bool),v117=.bool x117_46∧Aside0 (laws_FnCode.j5 kq t827 t839 t840 t847 x16_4 x17_4 t839 (t839.length:Int) x88_4 ((rd_T37 t827 x88_4).f0) x117_46=some r)∧Aside0 (kq≤kj37)∧Aside0 (Kd.R k37 37 wc w.heap.size (fun _=>True) (.slice (some ad853) t827.length co8) t827)∧Aside0 (Kd.R (Kd.int .i64) 3 wc w.heap.size (fun _=>True) (.slice (some ad850) t839.length co34) t839)∧Aside0 (Kd.R (Kd.int .i64) 3 wc w.heap.size (fun _=>True) (.slice (some ad850) t839.length co34) t839)∧Aside0 (Below w.heap.size w wc))
                case first=>
                 have H:=HC47.out
                 clear HC47
                 by_cases c48:((rd_T37 t827 x88_4).f0)=2
                 ·
                  rw[if_pos c48] at H
                  obtain⟨c48b0,c48b1⟩:=eT_ c48
                  clear c48
                  (first|rw[c48b0]|(simp only[i64_w,i32_w];rw[c48b0])|skip)
                  have H':=A_ H
                  clear H
                  go_wp2
                  go_meet
                  case rel=>exact⟨_,((((rd_T37 t827 x88_4).f0)==2)),rs_,H',⟨by have:=HJ5.out;have:=HJ12.out;have:=HJ23.out;have:=HK4.out;have:=HJ37.out;first|omega|exact Nat.le_refl _⟩,⟨kr_ HO_3.out⟩,⟨kr_ HO_10.out⟩,⟨kr_ HO_86.out⟩,⟨bw HB.out⟩⟩
                 rw[if_neg c48] at H
                 obtain⟨c48b0,c48b1⟩:=eF_ c48
                 (first|rw[c48b0]|(simp only[i64_w,i32_w];rw[c48b0])|skip)
                 by_cases c49:((rd_T37 t827 x88_4).f0)=3
                 ·
                  rw[if_pos c49] at H
                  obtain⟨c49b0,c49b1⟩:=eT_ c49
                  clear c49
                  have H':=A_ H
                  clear H
                  go_wp2
                  go_meet
                  case rel=>exact⟨_,((((rd_T37 t827 x88_4).f0)==3)),rs_,H',⟨by have:=HJ5.out;have:=HJ12.out;have:=HJ23.out;have:=HK4.out;have:=HJ37.out;first|omega|exact Nat.le_refl _⟩,⟨kr_ HO_3.out⟩,⟨kr_ HO_10.out⟩,⟨kr_ HO_86.out⟩,⟨bw HB.out⟩⟩
                 rw[if_neg c49] at H
                 obtain⟨c49b0,c49b1⟩:=eF_ c49
                 have H':=A_ H
                 clear H
                 go_wp2
                 go_meet
                 case rel=>exact⟨_,((((rd_T37 t827 x88_4).f0)==4)),rs_,H',⟨by have:=HJ5.out;have:=HJ12.out;have:=HJ23.out;have:=HK4.out;have:=HJ37.out;first|omega|exact Nat.le_refl _⟩,⟨kr_ HO_3.out⟩,⟨kr_ HO_10.out⟩,⟨kr_ HO_86.out⟩,⟨bw HB.out⟩⟩
                case rest=>
                 clear HC47
                 try clear c2 c2b0 c2b1 c12 c33 c35 c35b0 c36 c36b0 c37 c37b0 c44 c45 c45b0 c46 c46b0 hx850_0 hx853_0 hx853_1 p850 p853 q850 q853
                 obtain⟨kq,x117_46,rfl,HA,HJ46,HO_3,HO_10,HO_86,HB⟩:=hcut
                 cases kq with
                 |zero=>exact absurd HA.out (by simp[laws_FnCode.j5])
                 |succ kj46=>
                  have H:=HA.out
                  clear HA
                  simp only[laws_FnCode.j5] at H
                  by_cases c50:x117_46=true
                  ·
                   subst c50
                   replace H:=iT_ H
                   by_cases c51:(wrap64 (x16_4+1)) > x17_4
                   ·
                    rw[if_pos c51] at H
                    have c51b0:=decide_eq_true c51
                    clear c51
                    have H':=A_ H
                    clear H
                    go_wp2
                    go_roundg kj46
                    case measure=>have:=HJ5.out;have:=HJ12.out;have:=HJ23.out;have:=HK4.out;have:=HJ37.out;have:=HJ46.out;omega
                    case rel=>exact⟨(wrap64 (x16_4+1)),(wrap64 (x16_4+1)),(wrap64 (x88_4+1)),rs_,rs_,rs_,H',⟨by have:=HJ5.out;have:=HJ12.out;have:=HJ23.out;have:=HK4.out;have:=HJ37.out;have:=HJ46.out;omega⟩,⟨kr_ HO_3.out⟩,⟨kr_ HO_10.out⟩,⟨kr_ HO_86.out⟩,⟨bw HB.out⟩⟩
                   rw[if_neg c51] at H
                   have c51b0:=decide_eq_false c51
                   clear c51
                   have H':=A_ H
                   clear H
                   go_wp2
                   go_roundg kj46
                   case measure=>have:=HJ5.out;have:=HJ12.out;have:=HJ23.out;have:=HK4.out;have:=HJ37.out;have:=HJ46.out;omega
                   case rel=>exact⟨(wrap64 (x16_4+1)),(x17_4),(wrap64 (x88_4+1)),rs_,rs_,rs_,H',⟨by have:=HJ5.out;have:=HJ12.out;have:=HJ23.out;have:=HK4.out;have:=HJ37.out;have:=HJ46.out;omega⟩,⟨kr_ HO_3.out⟩,⟨kr_ HO_10.out⟩,⟨kr_ HO_86.out⟩,⟨bw HB.out⟩⟩
                  replace c50:=Bool.eq_false_iff.mpr c50
                  subst c50
                  replace H:=iF_ H
                  by_cases c52:((rd_T37 t827 x88_4).f0)=11
                  ·
                   rw[if_pos c52] at H
                   obtain⟨c52b0,c52b1⟩:=eT_ c52
                   clear c52
                   by_cases c53:(wrap64 (x16_4 - 1)) > x17_4
                   ·
                    rw[if_pos c53] at H
                    have c53b0:=decide_eq_true c53
                    clear c53
                    have H':=A_ H
                    clear H
                    go_wp2
                    go_roundg kj46
                    case measure=>have:=HJ5.out;have:=HJ12.out;have:=HJ23.out;have:=HK4.out;have:=HJ37.out;have:=HJ46.out;omega
                    case rel=>exact⟨(wrap64 (x16_4 - 1)),(wrap64 (x16_4 - 1)),(wrap64 (x88_4+1)),rs_,rs_,rs_,H',⟨by have:=HJ5.out;have:=HJ12.out;have:=HJ23.out;have:=HK4.out;have:=HJ37.out;have:=HJ46.out;omega⟩,⟨kr_ HO_3.out⟩,⟨kr_ HO_10.out⟩,⟨kr_ HO_86.out⟩,⟨bw HB.out⟩⟩
                   rw[if_neg c53] at H
                   have c53b0:=decide_eq_false c53
                   clear c53
                   have H':=A_ H
                   clear H
                   go_wp2
                   go_roundg kj46
                   case measure=>have:=HJ5.out;have:=HJ12.out;have:=HJ23.out;have:=HK4.out;have:=HJ37.out;have:=HJ46.out;omega
                   case rel=>exact⟨(wrap64 (x16_4 - 1)),(x17_4),(wrap64 (x88_4+1)),rs_,rs_,rs_,H',⟨by have:=HJ5.out;have:=HJ12.out;have:=HJ23.out;have:=HK4.out;have:=HJ37.out;have:=HJ46.out;omega⟩,⟨kr_ HO_3.out⟩,⟨kr_ HO_10.out⟩,⟨kr_ HO_86.out⟩,⟨bw HB.out⟩⟩
                  rw[if_neg c52] at H
                  obtain⟨c52b0,c52b1⟩:=eF_ c52
                  by_cases c54:x16_4 > x17_4
                  ·
                   rw[if_pos c54] at H
                   have c54b0:=decide_eq_true c54
                   clear c54
                   have H':=A_ H
                   clear H
                   go_wp2
                   go_roundg kj46
                   case measure=>have:=HJ5.out;have:=HJ12.out;have:=HJ23.out;have:=HK4.out;have:=HJ37.out;have:=HJ46.out;omega
                   case rel=>exact⟨(x16_4),(x16_4),(wrap64 (x88_4+1)),rs_,rs_,rs_,H',⟨by have:=HJ5.out;have:=HJ12.out;have:=HJ23.out;have:=HK4.out;have:=HJ37.out;have:=HJ46.out;omega⟩,⟨kr_ HO_3.out⟩,⟨kr_ HO_10.out⟩,⟨kr_ HO_86.out⟩,⟨bw HB.out⟩⟩
                  rw[if_neg c54] at H
                  have c54b0:=decide_eq_false c54
                  clear c54
                  have H':=A_ H
                  clear H
                  go_wp2
                  go_roundg kj46
                  case measure=>have:=HJ5.out;have:=HJ12.out;have:=HJ23.out;have:=HK4.out;have:=HJ37.out;have:=HJ46.out;omega
                  case rel=>exact⟨(x16_4),(x17_4),(wrap64 (x88_4+1)),rs_,rs_,rs_,H',⟨by have:=HJ5.out;have:=HJ12.out;have:=HJ23.out;have:=HK4.out;have:=HJ37.out;have:=HJ46.out;omega⟩,⟨kr_ HO_3.out⟩,⟨kr_ HO_10.out⟩,⟨kr_ HO_86.out⟩,⟨bw HB.out⟩⟩
               rw[if_neg c46] at H
               exact absurd H (by simp)
              rw[if_neg c45] at H
              exact absurd H (by simp)
           rw[if_neg c37] at H
           exact absurd H (by simp)
          rw[if_neg c36] at H
          exact absurd H (by simp)
         rw[if_neg c35] at H
         have c35b0:=decide_eq_false c35
         clear c35
         by_cases c55:t840=true
         ·
          subst c55
          replace H:=iT_ H
          by_cases c56:t847=x17_4
          ·
           rw[if_pos c56] at H
           obtain⟨c56b0,c56b1⟩:=eT_ c56
           clear c56
           obtain rfl:=Option.some.inj H
           clear H
           go_wp2
           go_ret
           exact⟨rr_,bw HB.out⟩
          rw[if_neg c56] at H
          obtain⟨c56b0,c56b1⟩:=eF_ c56
          obtain rfl:=Option.some.inj H
          exact absurd HT.out (by decide)
         replace c55:=Bool.eq_false_iff.mpr c55
         subst c55
         replace H:=iF_ H
         obtain rfl:=Option.some.inj H
         clear H
         go_wp2
         go_ret
         exact⟨rr_,bw HB.out⟩

/-- THE ONE PURE STATEMENT of laws_FnCode: yours. -/
def laws_FnCode.Pure:Prop:=∀ (l0:List Int),l0.length≤maxLen→l0.length*1≤140737488351232→(∀ x∈l0,(Lit.int .u8 x).wf=true)→∃ k,laws_FnCode.f k l0=some true
theorem laws_FnCode.walk (P:laws_FnCode.Pure) (a0:Option Addr) (len0 cap0:Nat) (z0:List Int) (w:World) (w0:(a0=none∧len0=0∧cap0=0∧z0=[])∨∃ x,a0=some x∧len0≤cap0∧cap0≤maxLen∧z0.length=cap0∧(∀ i,i<z0.length→w.cell? (x.add i)=some (.int .u8 (z0.getD i 0)))∧∀ n∈z0,(Lit.int .u8 n).wf=true) (y0:len0*1≤140737488351232):
  Calls Try.prog 3 #[.slice a0 len0 cap0] w fun e w'=>e=.returned (.bool true)∧Below w.heap.size w w':=by
 obtain⟨l0,rfl,hr0,hm0,hw0,hc0⟩:=ReadsInt.ofRowC w0
 obtain⟨k,h⟩:=P l0 hm0 y0 hw0
 refine(laws_FnCode.calls k _ _ l0 true w (Kd.C_of_reads (d:=(0:Int)) (h1:=fun _=>rfl) hr0) hc0 rfl h).mono ?_
 rintro e w' ⟨rfl,hd⟩
 exact⟨rfl,hd⟩

end Go.Proofs.Ytmajifnehjlncaa.Q

