-- Written by a program of this session; it walks the functions that the law reaches.
import Derived.Test.YtghogonibanieaaQx0
import Derived.Test.YtghogonibanieaaQx16
namespace Go.Proofs.Ytghogonibanieaa.Q
open Go.RowKit Go.Proofs.YtghogonibanieaaW.PrintWords Go.Proofs.YtghogonibanieaaW.PrintLast Go.Proofs.YtghogonibanieaaW.PrintMore
attribute [local go_sem] max2_int min2_int max_two min_two max_three min_three max_four min_four   -- for this text's walks alone
set_option linter.unusedVariables false
set_option linter.unusedSimpArgs false
set_option maxRecDepth 100000
set_option maxHeartbeats 8000000

/-! ### impl_usesMemory: function 58 -/
def impl_usesMemory.f (k:Nat) (a0:Int):Option (Bool):=(impl_formOf.f k a0).bind fun t326=>(if t326=4 then (some true) else (if a0=63 then (some true) else (some (a0==64))))
theorem impl_usesMemory.mono:∀ a0 k,LeO (impl_usesMemory.f k a0) (impl_usesMemory.f (k+1) a0):=by
 intro a0 k
 unfold impl_usesMemory.f
 repeat' first
   |(with_reducible exact impl_formOf.mono _ _)
   |(with_reducible exact LeO.refl _)
   |(with_reducible exact LeO.none _)
   |(with_reducible refine LeO.ite ?_ ?_)
   |(with_reducible refine LeO.bind ?_ (fun _=>?_))
   |exact impl_formOf.mono _ _
   |exact LeO.none _
   |refine LeO.ite ?_ ?_
   |refine LeO.bind ?_ (fun _=>?_)
theorem impl_usesMemory.calls (k:Nat) (a0:Int) (r:Bool) (w:World) (h:impl_usesMemory.f k a0=some r):
  Calls Try.prog 58 #[.int .i64 a0] w fun e w'=>e=.returned (.bool r)∧Drawn0 w w':=by
 have H:((impl_formOf.f k a0).bind fun t326=>(if t326=4 then (some true) else (if a0=63 then (some true) else (some (a0==64)))))=some r:=h
 clear h
 replace H:=bi_ H
 obtain⟨t326,A20,H⟩:=H
 have A2:=A_ A20
 clear A20
 by_cases c3:t326=4
 ·
  rw[if_pos c3] at H
  obtain⟨c3b0,c3b1⟩:=eT_ c3
  clear c3
  obtain rfl:=Option.some.inj H
  clear H
  go_enter Try.func58,Try.ntmps58
  go_wp2_with (first|((with_reducible refine gc_ 76 rfl ?_);refine gn_ (some 4) Try.func76 (impl_formOf.calls k a0 t326 _ A2.out) ?_;intro nd))
  go_ret
  exact⟨rs_,dr_⟩
 rw[if_neg c3] at H
 obtain⟨c3b0,c3b1⟩:=eF_ c3
 by_cases c4:a0=63
 ·
  rw[if_pos c4] at H
  obtain⟨c4b0,c4b1⟩:=eT_ c4
  clear c4
  obtain rfl:=Option.some.inj H
  clear H
  go_enter Try.func58,Try.ntmps58
  go_wp2_with (first|((with_reducible refine gc_ 76 rfl ?_);refine gn_ (some 4) Try.func76 (impl_formOf.calls k a0 t326 _ A2.out) ?_;intro nd))
  go_ret
  exact⟨rs_,dr_⟩
 rw[if_neg c4] at H
 obtain⟨c4b0,c4b1⟩:=eF_ c4
 obtain rfl:=Option.some.inj H
 clear H
 go_enter Try.func58,Try.ntmps58
 go_wp2_with (first|((with_reducible refine gc_ 76 rfl ?_);refine gn_ (some 4) Try.func76 (impl_formOf.calls k a0 t326 _ A2.out) ?_;intro nd))
 go_ret
 exact⟨rs_,dr_⟩

/-! ### impl_floatRow: function 77 -/
def impl_floatRow.f (a0:Int):Option (List Int × Int):=if a0=6 then (some ((([125]:List Int)),125)) else (if a0≥7 then (some ((([125,125]:List Int)),127)) else (some ((([125,125]:List Int)),125)))
theorem impl_floatRow.calls (a0:Int) (r1:List Int) (r2:Int) (w:World) (h:impl_floatRow.f a0=some (r1,r2)):
  Calls Try.prog 77 #[.int .i64 a0] w fun e w'=>∃ v0_:Value,e=.returned (.tuple #[v0_,.int .i64 r2])∧Kd.R (Kd.int .i64) 3 w' w.heap.size (fun _=>True) v0_ r1∧Below w.heap.size w w':=by
 have HB:=A_ (Below.refl w.heap.size w)
 have H:(if a0=6 then (some ((([125]:List Int)),125)) else (if a0≥7 then (some ((([125,125]:List Int)),127)) else (some ((([125,125]:List Int)),125))))=some (r1,r2):=h
 clear h
 by_cases c2:a0=6
 ·
  rw[if_pos c2] at H
  obtain⟨c2b0,c2b1⟩:=eT_ c2
  clear c2
  obtain⟨y327,hy327⟩:∃ y_:List Int,y_=(([125]:List Int)):=⟨_,rfl⟩
  replace H:(some (y327,125))=some (r1,r2):=by first|(rw[hy327];with_reducible exact H)|(have H2_:=(Option.bind_some _ _).symm.trans H;rw[hy327];with_reducible exact H2_)|(have H2_:=(Option.bind_some _ _).symm.trans H;with_reducible exact H2_)|with_reducible exact H|(rw[hy327];exact H)|exact H
  have Ny327:=A_ hy327
  clear hy327
  simp only[Option.some.injEq,Prod.mk.injEq] at H
  obtain⟨rfl,rfl⟩:=H
  go_enter Try.func77,Try.ntmps77
  go_wp2_with (first|((with_reducible refine gd_ 7 rfl ?_);refine Kd.R_lit (Kd.int .i64) _ 3 ?hg (N:=7) ?hd (xs:=([125]:List Int)) (inner:=[.int .i64 125]) (ok:=fun _=>True) (okp:=fun _=>True) ?hr ?hp (fun _ hk=>hk) trivial (Below.refl _ _) (Nat.le_refl _) (by simp) ?_;(case hd=>rfl);(case hg=>rfl);(case hr=>first|(go_simp;done)|(go_simp;rfl));(case hp=>exact(Reps.one (show Kd.M (Kd.int .i64) _ _ _ 125 [.int .i64 125] from rfl) (Reps.none _ _)));intro v328 w3 ho4 hb hg_ hnew_;clear hg_ hnew_;(first|rw[←Ny327.out] at ho4|(simp only[Int.reduceToNat] at ho4;rw[←Ny327.out] at ho4));have HO329:=A_ (Kd.R_lower ho4 (below_size (bw HB.out)));replace HB:=bs_ HB hb;clear hb ho4))
  go_ret2
  exact⟨_,rr_,kr_ HO329.out,bw HB.out⟩
 rw[if_neg c2] at H
 obtain⟨c2b0,c2b1⟩:=eF_ c2
 by_cases c5:a0≥7
 ·
  rw[if_pos c5] at H
  have c5b0:=decide_eq_true c5
  clear c5
  obtain⟨y330,hy330⟩:∃ y_:List Int,y_=(([125,125]:List Int)):=⟨_,rfl⟩
  replace H:(some (y330,127))=some (r1,r2):=by first|(rw[hy330];with_reducible exact H)|(have H2_:=(Option.bind_some _ _).symm.trans H;rw[hy330];with_reducible exact H2_)|(have H2_:=(Option.bind_some _ _).symm.trans H;with_reducible exact H2_)|with_reducible exact H|(rw[hy330];exact H)|exact H
  have Ny330:=A_ hy330
  clear hy330
  simp only[Option.some.injEq,Prod.mk.injEq] at H
  obtain⟨rfl,rfl⟩:=H
  go_enter Try.func77,Try.ntmps77
  go_wp2_with (first|((with_reducible refine gd_ 11 rfl ?_);refine Kd.R_lit (Kd.int .i64) _ 3 ?hg (N:=11) ?hd (xs:=([125,125]:List Int)) (inner:=[.int .i64 125,.int .i64 125]) (ok:=fun _=>True) (okp:=fun _=>True) ?hr ?hp (fun _ hk=>hk) trivial (Below.refl _ _) (Nat.le_refl _) (by simp) ?_;(case hd=>rfl);(case hg=>rfl);(case hr=>first|(go_simp;done)|(go_simp;rfl));(case hp=>exact(Reps.one (show Kd.M (Kd.int .i64) _ _ _ 125 [.int .i64 125] from rfl) (Reps.one (show Kd.M (Kd.int .i64) _ _ _ 125 [.int .i64 125] from rfl) (Reps.none _ _))));intro v331 w6 ho7 hb hg_ hnew_;clear hg_ hnew_;(first|rw[←Ny330.out] at ho7|(simp only[Int.reduceToNat] at ho7;rw[←Ny330.out] at ho7));have HO332:=A_ (Kd.R_lower ho7 (below_size (bw HB.out)));replace HB:=bs_ HB hb;clear hb ho7))
  go_ret2
  exact⟨_,rr_,kr_ HO332.out,bw HB.out⟩
 rw[if_neg c5] at H
 have c5b0:=decide_eq_false c5
 clear c5
 obtain⟨y333,hy333⟩:∃ y_:List Int,y_=(([125,125]:List Int)):=⟨_,rfl⟩
 replace H:(some (y333,125))=some (r1,r2):=by first|(rw[hy333];with_reducible exact H)|(have H2_:=(Option.bind_some _ _).symm.trans H;rw[hy333];with_reducible exact H2_)|(have H2_:=(Option.bind_some _ _).symm.trans H;with_reducible exact H2_)|with_reducible exact H|(rw[hy333];exact H)|exact H
 have Ny333:=A_ hy333
 clear hy333
 simp only[Option.some.injEq,Prod.mk.injEq] at H
 obtain⟨rfl,rfl⟩:=H
 go_enter Try.func77,Try.ntmps77
 go_wp2_with (first|((with_reducible refine gd_ 12 rfl ?_);refine Kd.R_lit (Kd.int .i64) _ 3 ?hg (N:=12) ?hd (xs:=([125,125]:List Int)) (inner:=[.int .i64 125,.int .i64 125]) (ok:=fun _=>True) (okp:=fun _=>True) ?hr ?hp (fun _ hk=>hk) trivial (Below.refl _ _) (Nat.le_refl _) (by simp) ?_;(case hd=>rfl);(case hg=>rfl);(case hr=>first|(go_simp;done)|(go_simp;rfl));(case hp=>exact(Reps.one (show Kd.M (Kd.int .i64) _ _ _ 125 [.int .i64 125] from rfl) (Reps.one (show Kd.M (Kd.int .i64) _ _ _ 125 [.int .i64 125] from rfl) (Reps.none _ _))));intro v334 w8 ho9 hb hg_ hnew_;clear hg_ hnew_;(first|rw[←Ny333.out] at ho9|(simp only[Int.reduceToNat] at ho9;rw[←Ny333.out] at ho9));have HO335:=A_ (Kd.R_lower ho9 (below_size (bw HB.out)));replace HB:=bs_ HB hb;clear hb ho9))
 go_ret2
 exact⟨_,rr_,kr_ HO335.out,bw HB.out⟩

/-! ### impl_intRow: function 78 -/
def impl_intRow.j0:Nat→Int→Int→Int→Bool→Option (List Int × Int)
 |0,_,_,_,_=>none
 |k+1,x0,x1,x6,x17=>if x17=true then (if x1≤21 then (some ((([x0,x0]:List Int)),127)) else (some ((([x0]:List Int)),127))) else (if x1≤21 then (some ((([x0,x0]:List Int)),x6)) else (some ((([x0]:List Int)),x6)))
def impl_intRow.f (k:Nat) (a0:Int) (a1:Int):Option (List Int × Int):=if a1≥16 then (if a1≤21 then (impl_intRow.j0 k a0 a1 a0 true) else (impl_intRow.j0 k a0 a1 a0 (a1==25))) else (impl_intRow.j0 k a0 a1 a0 (a1==25))
theorem impl_intRow.mono_l:∀ k,(∀ y0 y1 y2 y3,LeO (impl_intRow.j0 k y0 y1 y2 y3) (impl_intRow.j0 (k+1) y0 y1 y2 y3))
 |0=>fun _ _ _ _ r h=>by simp[impl_intRow.j0] at h
 |k+1=>by
  have ih0:=impl_intRow.mono_l k
  intro y0 y1 y2 y3
  unfold impl_intRow.j0
  repeat' first
  |(with_reducible exact ih0 _ _ _ _)
  |(with_reducible exact LeO.refl _)
  |(with_reducible exact LeO.none _)
  |(with_reducible refine LeO.ite ?_ ?_)
  |(with_reducible refine LeO.bind ?_ (fun _=>?_))
  |exact ih0 _ _ _ _
  |exact LeO.none _
  |refine LeO.ite ?_ ?_
  |refine LeO.bind ?_ (fun _=>?_)
theorem impl_intRow.mono:∀ a0 a1 k,LeO (impl_intRow.f k a0 a1) (impl_intRow.f (k+1) a0 a1):=by
 intro a0 a1 k
 have ih0:=impl_intRow.mono_l k
 unfold impl_intRow.f
 repeat' first
   |(with_reducible exact ih0 _ _ _ _)
   |(with_reducible exact LeO.refl _)
   |(with_reducible exact LeO.none _)
   |(with_reducible refine LeO.ite ?_ ?_)
   |(with_reducible refine LeO.bind ?_ (fun _=>?_))
   |exact ih0 _ _ _ _
   |exact LeO.none _
   |refine LeO.ite ?_ ?_
   |refine LeO.bind ?_ (fun _=>?_)
theorem impl_intRow.calls (k:Nat) (a0:Int) (a1:Int) (r1:List Int) (r2:Int) (w:World) (h:impl_intRow.f k a0 a1=some (r1,r2)):
  Calls Try.prog 78 #[.int .i64 a0,.int .i64 a1] w fun e w'=>∃ v0_:Value,e=.returned (.tuple #[v0_,.int .i64 r2])∧Kd.R (Kd.int .i64) 3 w' w.heap.size (fun _=>True) v0_ r1∧Below w.heap.size w w':=by
 have HB:=A_ (Below.refl w.heap.size w)
 have H:(if a1≥16 then (if a1≤21 then (impl_intRow.j0 k a0 a1 a0 true) else (impl_intRow.j0 k a0 a1 a0 (a1==25))) else (impl_intRow.j0 k a0 a1 a0 (a1==25)))=some (r1,r2):=h
 clear h
 have HC3:=A_ H
 clear H
 go_enter Try.func78,Try.ntmps78
 go_upto_region 2 with (fail)
 go_cut [17] (fun v17 wc=>∃ (kq:Nat) (x17_2:Bool),v17=.bool x17_2∧Aside0 (impl_intRow.j0 kq a0 a1 a0 x17_2=some (r1,r2))∧Aside0 (kq≤k)∧Aside0 (Below w.heap.size w wc))
 case first=>
  have H:=HC3.out
  clear HC3
  by_cases c4:a1≥16
  ·
   rw[if_pos c4] at H
   have c4b0:=decide_eq_true c4
   clear c4
   (first|rw[c4b0]|(simp only[i64_w,i32_w];rw[c4b0])|skip)
   by_cases c5:a1≤21
   ·
    rw[if_pos c5] at H
    have c5b0:=decide_eq_true c5
    clear c5
    have H':=A_ H
    clear H
    go_wp2
    go_meet
    case rel=>exact⟨_,(true),rs_,H',⟨by first|omega|exact Nat.le_refl _⟩,⟨bw HB.out⟩⟩
   rw[if_neg c5] at H
   have c5b0:=decide_eq_false c5
   clear c5
   have H':=A_ H
   clear H
   go_wp2
   go_meet
   case rel=>exact⟨_,((a1==25)),rs_,H',⟨by first|omega|exact Nat.le_refl _⟩,⟨bw HB.out⟩⟩
  rw[if_neg c4] at H
  have c4b0:=decide_eq_false c4
  clear c4
  (first|rw[c4b0]|(simp only[i64_w,i32_w];rw[c4b0])|skip)
  have H':=A_ H
  clear H
  go_wp2
  go_meet
  case rel=>exact⟨_,((a1==25)),rs_,H',⟨by first|omega|exact Nat.le_refl _⟩,⟨bw HB.out⟩⟩
 case rest=>
  clear HC3
  obtain⟨kq,x17_2,rfl,HA,HJ2,HB⟩:=hcut
  cases kq with
  |zero=>exact absurd HA.out (by simp[impl_intRow.j0])
  |succ kj2=>
   have H:=HA.out
   clear HA
   simp only[impl_intRow.j0] at H
   by_cases c6:x17_2=true
   ·
    subst c6
    replace H:=iT_ H
    by_cases c7:a1≤21
    ·
     rw[if_pos c7] at H
     have c7b0:=decide_eq_true c7
     clear c7
     obtain⟨y336,hy336⟩:∃ y_:List Int,y_=(([a0,a0]:List Int)):=⟨_,rfl⟩
     replace H:(some (y336,127))=some (r1,r2):=by first|(rw[hy336];with_reducible exact H)|(have H2_:=(Option.bind_some _ _).symm.trans H;rw[hy336];with_reducible exact H2_)|(have H2_:=(Option.bind_some _ _).symm.trans H;with_reducible exact H2_)|with_reducible exact H|(rw[hy336];exact H)|exact H
     have Ny336:=A_ hy336
     clear hy336
     simp only[Option.some.injEq,Prod.mk.injEq] at H
     obtain⟨rfl,rfl⟩:=H
     go_wp2_with (first|((with_reducible refine gd_ 22 rfl ?_);refine Kd.R_lit (Kd.int .i64) _ 3 ?hg (N:=22) ?hd (xs:=([a0,a0]:List Int)) (inner:=[.int .i64 a0,.int .i64 a0]) (ok:=fun _=>True) (okp:=fun _=>True) ?hr ?hp (fun _ hk=>hk) trivial (Below.refl _ _) (Nat.le_refl _) (by simp) ?_;(case hd=>rfl);(case hg=>rfl);(case hr=>first|(go_simp;done)|(go_simp;rfl));(case hp=>exact(Reps.one (show Kd.M (Kd.int .i64) _ _ _ a0 [.int .i64 a0] from rfl) (Reps.one (show Kd.M (Kd.int .i64) _ _ _ a0 [.int .i64 a0] from rfl) (Reps.none _ _))));intro v337 w8 ho9 hb hg_ hnew_;clear hg_ hnew_;(first|rw[←Ny336.out] at ho9|(simp only[Int.reduceToNat] at ho9;rw[←Ny336.out] at ho9));have HO338:=A_ (Kd.R_lower ho9 (below_size (bw HB.out)));replace HB:=bs_ HB hb;clear hb ho9))
     go_ret2
     exact⟨_,rr_,kr_ HO338.out,bw HB.out⟩
    rw[if_neg c7] at H
    have c7b0:=decide_eq_false c7
    clear c7
    obtain⟨y339,hy339⟩:∃ y_:List Int,y_=(([a0]:List Int)):=⟨_,rfl⟩
    replace H:(some (y339,127))=some (r1,r2):=by first|(rw[hy339];with_reducible exact H)|(have H2_:=(Option.bind_some _ _).symm.trans H;rw[hy339];with_reducible exact H2_)|(have H2_:=(Option.bind_some _ _).symm.trans H;with_reducible exact H2_)|with_reducible exact H|(rw[hy339];exact H)|exact H
    have Ny339:=A_ hy339
    clear hy339
    simp only[Option.some.injEq,Prod.mk.injEq] at H
    obtain⟨rfl,rfl⟩:=H
    go_wp2_with (first|((with_reducible refine gd_ 25 rfl ?_);refine Kd.R_lit (Kd.int .i64) _ 3 ?hg (N:=25) ?hd (xs:=([a0]:List Int)) (inner:=[.int .i64 a0]) (ok:=fun _=>True) (okp:=fun _=>True) ?hr ?hp (fun _ hk=>hk) trivial (Below.refl _ _) (Nat.le_refl _) (by simp) ?_;(case hd=>rfl);(case hg=>rfl);(case hr=>first|(go_simp;done)|(go_simp;rfl));(case hp=>exact(Reps.one (show Kd.M (Kd.int .i64) _ _ _ a0 [.int .i64 a0] from rfl) (Reps.none _ _)));intro v340 w10 ho11 hb hg_ hnew_;clear hg_ hnew_;(first|rw[←Ny339.out] at ho11|(simp only[Int.reduceToNat] at ho11;rw[←Ny339.out] at ho11));have HO341:=A_ (Kd.R_lower ho11 (below_size (bw HB.out)));replace HB:=bs_ HB hb;clear hb ho11))
    go_ret2
    exact⟨_,rr_,kr_ HO341.out,bw HB.out⟩
   replace c6:=Bool.eq_false_iff.mpr c6
   subst c6
   replace H:=iF_ H
   by_cases c12:a1≤21
   ·
    rw[if_pos c12] at H
    have c12b0:=decide_eq_true c12
    clear c12
    obtain⟨y342,hy342⟩:∃ y_:List Int,y_=(([a0,a0]:List Int)):=⟨_,rfl⟩
    replace H:(some (y342,a0))=some (r1,r2):=by first|(rw[hy342];with_reducible exact H)|(have H2_:=(Option.bind_some _ _).symm.trans H;rw[hy342];with_reducible exact H2_)|(have H2_:=(Option.bind_some _ _).symm.trans H;with_reducible exact H2_)|with_reducible exact H|(rw[hy342];exact H)|exact H
    have Ny342:=A_ hy342
    clear hy342
    simp only[Option.some.injEq,Prod.mk.injEq] at H
    obtain⟨rfl,rfl⟩:=H
    go_wp2_with (first|((with_reducible refine gd_ 22 rfl ?_);refine Kd.R_lit (Kd.int .i64) _ 3 ?hg (N:=22) ?hd (xs:=([a0,a0]:List Int)) (inner:=[.int .i64 a0,.int .i64 a0]) (ok:=fun _=>True) (okp:=fun _=>True) ?hr ?hp (fun _ hk=>hk) trivial (Below.refl _ _) (Nat.le_refl _) (by simp) ?_;(case hd=>rfl);(case hg=>rfl);(case hr=>first|(go_simp;done)|(go_simp;rfl));(case hp=>exact(Reps.one (show Kd.M (Kd.int .i64) _ _ _ a0 [.int .i64 a0] from rfl) (Reps.one (show Kd.M (Kd.int .i64) _ _ _ a0 [.int .i64 a0] from rfl) (Reps.none _ _))));intro v343 w13 ho14 hb hg_ hnew_;clear hg_ hnew_;(first|rw[←Ny342.out] at ho14|(simp only[Int.reduceToNat] at ho14;rw[←Ny342.out] at ho14));have HO344:=A_ (Kd.R_lower ho14 (below_size (bw HB.out)));replace HB:=bs_ HB hb;clear hb ho14))
    go_ret2
    exact⟨_,rr_,kr_ HO344.out,bw HB.out⟩
   rw[if_neg c12] at H
   have c12b0:=decide_eq_false c12
   clear c12
   obtain⟨y345,hy345⟩:∃ y_:List Int,y_=(([a0]:List Int)):=⟨_,rfl⟩
   replace H:(some (y345,a0))=some (r1,r2):=by first|(rw[hy345];with_reducible exact H)|(have H2_:=(Option.bind_some _ _).symm.trans H;rw[hy345];with_reducible exact H2_)|(have H2_:=(Option.bind_some _ _).symm.trans H;with_reducible exact H2_)|with_reducible exact H|(rw[hy345];exact H)|exact H
   have Ny345:=A_ hy345
   clear hy345
   simp only[Option.some.injEq,Prod.mk.injEq] at H
   obtain⟨rfl,rfl⟩:=H
   go_wp2_with (first|((with_reducible refine gd_ 25 rfl ?_);refine Kd.R_lit (Kd.int .i64) _ 3 ?hg (N:=25) ?hd (xs:=([a0]:List Int)) (inner:=[.int .i64 a0]) (ok:=fun _=>True) (okp:=fun _=>True) ?hr ?hp (fun _ hk=>hk) trivial (Below.refl _ _) (Nat.le_refl _) (by simp) ?_;(case hd=>rfl);(case hg=>rfl);(case hr=>first|(go_simp;done)|(go_simp;rfl));(case hp=>exact(Reps.one (show Kd.M (Kd.int .i64) _ _ _ a0 [.int .i64 a0] from rfl) (Reps.none _ _)));intro v346 w15 ho16 hb hg_ hnew_;clear hg_ hnew_;(first|rw[←Ny345.out] at ho16|(simp only[Int.reduceToNat] at ho16;rw[←Ny345.out] at ho16));have HO347:=A_ (Kd.R_lower ho16 (below_size (bw HB.out)));replace HB:=bs_ HB hb;clear hb ho16))
   go_ret2
   exact⟨_,rr_,kr_ HO347.out,bw HB.out⟩

/-! ### impl_row: function 60 -/
mutual
def impl_row.j0:Nat→Int→Int→Bool→Option (List Int × Int)
 |0,_,_,_=>none
 |k+1,x0,x4,x5=>if x5=true then (some ((([127]:List Int)),127)) else (if x4=41 then (impl_row.j1 k x0 x4 (x4==41)) else (if x4=177 then (impl_row.j1 k x0 x4 (x4==177)) else (impl_row.j1 k x0 x4 (x4==178))))
def impl_row.j1:Nat→Int→Int→Bool→Option (List Int × Int)
 |0,_,_,_=>none
 |k+1,x0,x4,x9=>if x9=true then (some ((([127]:List Int)),126)) else (if x4=54 then (some ((([127,127]:List Int)),64)) else (if x4=55 then (some ((([127,126]:List Int)),64)) else (if x4=63 then (impl_row.j2 k x0 x4 (x4==63)) else (impl_row.j2 k x0 x4 (x4==65)))))
def impl_row.j2:Nat→Int→Int→Bool→Option (List Int × Int)
 |0,_,_,_=>none
 |k+1,x0,x4,x20=>if x20=true then (some (([]:List Int),127)) else (if x4=66 then (some (([]:List Int),126)) else (if x4=67 then (some (([]:List Int),125)) else (if x4=176 then (some ((([126]:List Int)),127)) else (if x4=179 then (some ((([127]:List Int)),125)) else (if x4=180 then (some ((([125]:List Int)),127)) else (if x0 > 160 then (impl_row.j3 k x0 (decide (x0≤169))) else (impl_row.j3 k x0 false)))))))
def impl_row.j3:Nat→Int→Bool→Option (List Int × Int)
 |0,_,_=>none
 |k+1,x0,x36=>if x36=true then ((impl_floatRow.f (wrap64 (x0 - 160))).bind fun bt369=>(some (bt369.1,bt369.2))) else (if x0 > 128 then (impl_row.j4 k x0 (decide (x0≤155))) else (impl_row.j4 k x0 false))
def impl_row.j4:Nat→Int→Bool→Option (List Int × Int)
 |0,_,_=>none
 |k+1,x0,x48=>if x48=true then ((impl_intRow.f k 126 (wrap64 (x0 - 128))).bind fun bt373=>(some (bt373.1,bt373.2))) else (if x0 > 96 then (if x0≤123 then ((impl_intRow.f k 127 (wrap64 (x0 - 96))).bind fun bt377=>(some (bt377.1,bt377.2))) else (some (([]:List Int),64))) else (some (([]:List Int),64)))
end
def impl_row.f (k:Nat) (a0:Int):Option (List Int × Int):=if a0=40 then (impl_row.j0 k a0 a0 (a0==40)) else (impl_row.j0 k a0 a0 (a0==64))
theorem impl_row.mono_l:∀ k,(∀ y0 y1 y2,LeO (impl_row.j0 k y0 y1 y2) (impl_row.j0 (k+1) y0 y1 y2))∧(∀ y0 y1 y2,LeO (impl_row.j1 k y0 y1 y2) (impl_row.j1 (k+1) y0 y1 y2))∧(∀ y0 y1 y2,LeO (impl_row.j2 k y0 y1 y2) (impl_row.j2 (k+1) y0 y1 y2))∧(∀ y0 y1,LeO (impl_row.j3 k y0 y1) (impl_row.j3 (k+1) y0 y1))∧(∀ y0 y1,LeO (impl_row.j4 k y0 y1) (impl_row.j4 (k+1) y0 y1))
 |0=>⟨fun _ _ _ r h=>by simp[impl_row.j0] at h,fun _ _ _ r h=>by simp[impl_row.j1] at h,fun _ _ _ r h=>by simp[impl_row.j2] at h,fun _ _ r h=>by simp[impl_row.j3] at h,fun _ _ r h=>by simp[impl_row.j4] at h⟩
 |k+1=>by
  obtain⟨ih0,ih1,ih2,ih3,ih4⟩:=impl_row.mono_l k
  refine⟨?_,?_,?_,?_,?_⟩
  ·
   intro y0 y1 y2
   unfold impl_row.j0
   repeat' first
   |(with_reducible exact ih0 _ _ _)
   |(with_reducible exact ih1 _ _ _)
   |(with_reducible exact ih2 _ _ _)
   |(with_reducible exact ih3 _ _)
   |(with_reducible exact ih4 _ _)
   |(with_reducible exact impl_intRow.mono _ _ _)
   |(with_reducible exact LeO.refl _)
   |(with_reducible exact LeO.none _)
   |(with_reducible refine LeO.ite ?_ ?_)
   |(with_reducible refine LeO.bind ?_ (fun _=>?_))
   |exact ih0 _ _ _
   |exact ih1 _ _ _
   |exact ih2 _ _ _
   |exact ih3 _ _
   |exact ih4 _ _
   |exact impl_intRow.mono _ _ _
   |exact LeO.none _
   |refine LeO.ite ?_ ?_
   |refine LeO.bind ?_ (fun _=>?_)
  ·
   intro y0 y1 y2
   unfold impl_row.j1
   repeat' first
   |(with_reducible exact ih0 _ _ _)
   |(with_reducible exact ih1 _ _ _)
   |(with_reducible exact ih2 _ _ _)
   |(with_reducible exact ih3 _ _)
   |(with_reducible exact ih4 _ _)
   |(with_reducible exact impl_intRow.mono _ _ _)
   |(with_reducible exact LeO.refl _)
   |(with_reducible exact LeO.none _)
   |(with_reducible refine LeO.ite ?_ ?_)
   |(with_reducible refine LeO.bind ?_ (fun _=>?_))
   |exact ih0 _ _ _
   |exact ih1 _ _ _
   |exact ih2 _ _ _
   |exact ih3 _ _
   |exact ih4 _ _
   |exact impl_intRow.mono _ _ _
   |exact LeO.none _
   |refine LeO.ite ?_ ?_
   |refine LeO.bind ?_ (fun _=>?_)
  ·
   intro y0 y1 y2
   unfold impl_row.j2
   repeat' first
   |(with_reducible exact ih0 _ _ _)
   |(with_reducible exact ih1 _ _ _)
   |(with_reducible exact ih2 _ _ _)
   |(with_reducible exact ih3 _ _)
   |(with_reducible exact ih4 _ _)
   |(with_reducible exact impl_intRow.mono _ _ _)
   |(with_reducible exact LeO.refl _)
   |(with_reducible exact LeO.none _)
   |(with_reducible refine LeO.ite ?_ ?_)
   |(with_reducible refine LeO.bind ?_ (fun _=>?_))
   |exact ih0 _ _ _
   |exact ih1 _ _ _
   |exact ih2 _ _ _
   |exact ih3 _ _
   |exact ih4 _ _
   |exact impl_intRow.mono _ _ _
   |exact LeO.none _
   |refine LeO.ite ?_ ?_
   |refine LeO.bind ?_ (fun _=>?_)
  ·
   intro y0 y1
   unfold impl_row.j3
   repeat' first
   |(with_reducible exact ih0 _ _ _)
   |(with_reducible exact ih1 _ _ _)
   |(with_reducible exact ih2 _ _ _)
   |(with_reducible exact ih3 _ _)
   |(with_reducible exact ih4 _ _)
   |(with_reducible exact impl_intRow.mono _ _ _)
   |(with_reducible exact LeO.refl _)
   |(with_reducible exact LeO.none _)
   |(with_reducible refine LeO.ite ?_ ?_)
   |(with_reducible refine LeO.bind ?_ (fun _=>?_))
   |exact ih0 _ _ _
   |exact ih1 _ _ _
   |exact ih2 _ _ _
   |exact ih3 _ _
   |exact ih4 _ _
   |exact impl_intRow.mono _ _ _
   |exact LeO.none _
   |refine LeO.ite ?_ ?_
   |refine LeO.bind ?_ (fun _=>?_)
  intro y0 y1
  unfold impl_row.j4
  repeat' first
  |(with_reducible exact ih0 _ _ _)
  |(with_reducible exact ih1 _ _ _)
  |(with_reducible exact ih2 _ _ _)
  |(with_reducible exact ih3 _ _)
  |(with_reducible exact ih4 _ _)
  |(with_reducible exact impl_intRow.mono _ _ _)
  |(with_reducible exact LeO.refl _)
  |(with_reducible exact LeO.none _)
  |(with_reducible refine LeO.ite ?_ ?_)
  |(with_reducible refine LeO.bind ?_ (fun _=>?_))
  |exact ih0 _ _ _
  |exact ih1 _ _ _
  |exact ih2 _ _ _
  |exact ih3 _ _
  |exact ih4 _ _
  |exact impl_intRow.mono _ _ _
  |exact LeO.none _
  |refine LeO.ite ?_ ?_
  |refine LeO.bind ?_ (fun _=>?_)
theorem impl_row.mono:∀ a0 k,LeO (impl_row.f k a0) (impl_row.f (k+1) a0):=by
 intro a0 k
 obtain⟨ih0,ih1,ih2,ih3,ih4⟩:=impl_row.mono_l k
 unfold impl_row.f
 repeat' first
   |(with_reducible exact ih0 _ _ _)
   |(with_reducible exact ih1 _ _ _)
   |(with_reducible exact ih2 _ _ _)
   |(with_reducible exact ih3 _ _)
   |(with_reducible exact ih4 _ _)
   |(with_reducible exact impl_intRow.mono _ _ _)
   |(with_reducible exact LeO.refl _)
   |(with_reducible exact LeO.none _)
   |(with_reducible refine LeO.ite ?_ ?_)
   |(with_reducible refine LeO.bind ?_ (fun _=>?_))
   |exact ih0 _ _ _
   |exact ih1 _ _ _
   |exact ih2 _ _ _
   |exact ih3 _ _
   |exact ih4 _ _
   |exact impl_intRow.mono _ _ _
   |exact LeO.none _
   |refine LeO.ite ?_ ?_
   |refine LeO.bind ?_ (fun _=>?_)
theorem impl_row.calls (k:Nat) (a0:Int) (r1:List Int) (r2:Int) (w:World) (h:impl_row.f k a0=some (r1,r2)):
  Calls Try.prog 60 #[.int .i64 a0] w fun e w'=>∃ v0_:Value,e=.returned (.tuple #[v0_,.int .i64 r2])∧Kd.R (Kd.int .i64) 3 w' w.heap.size (fun _=>True) v0_ r1∧Below w.heap.size w w':=by
 have HB:=A_ (Below.refl w.heap.size w)
 have H:(if a0=40 then (impl_row.j0 k a0 a0 (a0==40)) else (impl_row.j0 k a0 a0 (a0==64)))=some (r1,r2):=h
 clear h
 have HC2:=A_ H
 clear H
 go_enter Try.func60,Try.ntmps60
 go_upto_if 5 with (fail)
 go_cut [5] (fun v5 wc=>∃ (kq:Nat) (x5_1:Bool),v5=.bool x5_1∧Aside0 (impl_row.j0 kq a0 a0 x5_1=some (r1,r2))∧Aside0 (kq≤k)∧Aside0 (Below w.heap.size w wc))
 case first=>
  have H:=HC2.out
  clear HC2
  by_cases c3:a0=40
  ·
   rw[if_pos c3] at H
   obtain⟨c3b0,c3b1⟩:=eT_ c3
   clear c3
   (first|rw[c3b0]|(simp only[i64_w,i32_w];rw[c3b0])|skip)
   have H':=A_ H
   clear H
   go_wp2
   go_meet
   case rel=>exact⟨_,((a0==40)),rs_,H',⟨by first|omega|exact Nat.le_refl _⟩,⟨bw HB.out⟩⟩
  rw[if_neg c3] at H
  obtain⟨c3b0,c3b1⟩:=eF_ c3
  (first|rw[c3b0]|(simp only[i64_w,i32_w];rw[c3b0])|skip)
  have H':=A_ H
  clear H
  go_wp2
  go_meet
  case rel=>exact⟨_,((a0==64)),rs_,H',⟨by first|omega|exact Nat.le_refl _⟩,⟨bw HB.out⟩⟩
 case rest=>
  clear HC2
  obtain⟨kq,x5_1,rfl,HA,HJ1,HB⟩:=hcut
  cases kq with
  |zero=>exact absurd HA.out (by simp[impl_row.j0])
  |succ kj1=>
   have H:=HA.out
   clear HA
   simp only[impl_row.j0] at H
   by_cases c4:x5_1=true
   ·
    subst c4
    replace H:=iT_ H
    obtain⟨y348,hy348⟩:∃ y_:List Int,y_=(([127]:List Int)):=⟨_,rfl⟩
    replace H:(some (y348,127))=some (r1,r2):=by first|(rw[hy348];with_reducible exact H)|(have H2_:=(Option.bind_some _ _).symm.trans H;rw[hy348];with_reducible exact H2_)|(have H2_:=(Option.bind_some _ _).symm.trans H;with_reducible exact H2_)|with_reducible exact H|(rw[hy348];exact H)|exact H
    have Ny348:=A_ hy348
    clear hy348
    simp only[Option.some.injEq,Prod.mk.injEq] at H
    obtain⟨rfl,rfl⟩:=H
    go_wp2_with (first|((with_reducible refine gd_ 8 rfl ?_);refine Kd.R_lit (Kd.int .i64) _ 3 ?hg (N:=8) ?hd (xs:=([127]:List Int)) (inner:=[.int .i64 127]) (ok:=fun _=>True) (okp:=fun _=>True) ?hr ?hp (fun _ hk=>hk) trivial (Below.refl _ _) (Nat.le_refl _) (by simp) ?_;(case hd=>rfl);(case hg=>rfl);(case hr=>first|(go_simp;done)|(go_simp;rfl));(case hp=>exact(Reps.one (show Kd.M (Kd.int .i64) _ _ _ 127 [.int .i64 127] from rfl) (Reps.none _ _)));intro v349 w5 ho6 hb hg_ hnew_;clear hg_ hnew_;(first|rw[←Ny348.out] at ho6|(simp only[Int.reduceToNat] at ho6;rw[←Ny348.out] at ho6));have HO350:=A_ (Kd.R_lower ho6 (below_size (bw HB.out)));replace HB:=bs_ HB hb;clear hb ho6))
    go_ret2
    exact⟨_,rr_,kr_ HO350.out,bw HB.out⟩
   replace c4:=Bool.eq_false_iff.mpr c4
   subst c4
   replace H:=iF_ H
   have HC7:=A_ H
   clear H
   go_upto_if 9 with (fail)
   go_cut [9] (fun v9 wc=>∃ (kq:Nat) (x9_6:Bool),v9=.bool x9_6∧Aside0 (impl_row.j1 kq a0 a0 x9_6=some (r1,r2))∧Aside0 (kq≤kj1)∧Aside0 (Below w.heap.size w wc))
   case first=>
    have H:=HC7.out
    clear HC7
    by_cases c8:a0=41
    ·
     rw[if_pos c8] at H
     obtain⟨c8b0,c8b1⟩:=eT_ c8
     clear c8
     (first|rw[c8b0]|(simp only[i64_w,i32_w];rw[c8b0])|skip)
     have H':=A_ H
     clear H
     go_wp2
     go_meet
     case rel=>exact⟨_,((a0==41)),rs_,H',⟨by have:=HJ1.out;first|omega|exact Nat.le_refl _⟩,⟨bw HB.out⟩⟩
    rw[if_neg c8] at H
    obtain⟨c8b0,c8b1⟩:=eF_ c8
    (first|rw[c8b0]|(simp only[i64_w,i32_w];rw[c8b0])|skip)
    by_cases c9:a0=177
    ·
     rw[if_pos c9] at H
     obtain⟨c9b0,c9b1⟩:=eT_ c9
     clear c9
     have H':=A_ H
     clear H
     go_wp2
     go_meet
     case rel=>exact⟨_,((a0==177)),rs_,H',⟨by have:=HJ1.out;first|omega|exact Nat.le_refl _⟩,⟨bw HB.out⟩⟩
    rw[if_neg c9] at H
    obtain⟨c9b0,c9b1⟩:=eF_ c9
    have H':=A_ H
    clear H
    go_wp2
    go_meet
    case rel=>exact⟨_,((a0==178)),rs_,H',⟨by have:=HJ1.out;first|omega|exact Nat.le_refl _⟩,⟨bw HB.out⟩⟩
   case rest=>
    clear HC7
    try clear c4
    obtain⟨kq,x9_6,rfl,HA,HJ6,HB⟩:=hcut
    cases kq with
    |zero=>exact absurd HA.out (by simp[impl_row.j1])
    |succ kj6=>
     have H:=HA.out
     clear HA
     simp only[impl_row.j1] at H
     by_cases c10:x9_6=true
     ·
      subst c10
      replace H:=iT_ H
      obtain⟨y351,hy351⟩:∃ y_:List Int,y_=(([127]:List Int)):=⟨_,rfl⟩
      replace H:(some (y351,126))=some (r1,r2):=by first|(rw[hy351];with_reducible exact H)|(have H2_:=(Option.bind_some _ _).symm.trans H;rw[hy351];with_reducible exact H2_)|(have H2_:=(Option.bind_some _ _).symm.trans H;with_reducible exact H2_)|with_reducible exact H|(rw[hy351];exact H)|exact H
      have Ny351:=A_ hy351
      clear hy351
      simp only[Option.some.injEq,Prod.mk.injEq] at H
      obtain⟨rfl,rfl⟩:=H
      go_wp2_with (first|((with_reducible refine gd_ 13 rfl ?_);refine Kd.R_lit (Kd.int .i64) _ 3 ?hg (N:=13) ?hd (xs:=([127]:List Int)) (inner:=[.int .i64 127]) (ok:=fun _=>True) (okp:=fun _=>True) ?hr ?hp (fun _ hk=>hk) trivial (Below.refl _ _) (Nat.le_refl _) (by simp) ?_;(case hd=>rfl);(case hg=>rfl);(case hr=>first|(go_simp;done)|(go_simp;rfl));(case hp=>exact(Reps.one (show Kd.M (Kd.int .i64) _ _ _ 127 [.int .i64 127] from rfl) (Reps.none _ _)));intro v352 w11 ho12 hb hg_ hnew_;clear hg_ hnew_;(first|rw[←Ny351.out] at ho12|(simp only[Int.reduceToNat] at ho12;rw[←Ny351.out] at ho12));have HO353:=A_ (Kd.R_lower ho12 (below_size (bw HB.out)));replace HB:=bs_ HB hb;clear hb ho12))
      go_ret2
      exact⟨_,rr_,kr_ HO353.out,bw HB.out⟩
     replace c10:=Bool.eq_false_iff.mpr c10
     subst c10
     replace H:=iF_ H
     by_cases c13:a0=54
     ·
      rw[if_pos c13] at H
      obtain⟨c13b0,c13b1⟩:=eT_ c13
      clear c13
      obtain⟨y354,hy354⟩:∃ y_:List Int,y_=(([127,127]:List Int)):=⟨_,rfl⟩
      replace H:(some (y354,64))=some (r1,r2):=by first|(rw[hy354];with_reducible exact H)|(have H2_:=(Option.bind_some _ _).symm.trans H;rw[hy354];with_reducible exact H2_)|(have H2_:=(Option.bind_some _ _).symm.trans H;with_reducible exact H2_)|with_reducible exact H|(rw[hy354];exact H)|exact H
      have Ny354:=A_ hy354
      clear hy354
      simp only[Option.some.injEq,Prod.mk.injEq] at H
      obtain⟨rfl,rfl⟩:=H
      go_wp2_with (first|((with_reducible refine gd_ 16 rfl ?_);refine Kd.R_lit (Kd.int .i64) _ 3 ?hg (N:=16) ?hd (xs:=([127,127]:List Int)) (inner:=[.int .i64 127,.int .i64 127]) (ok:=fun _=>True) (okp:=fun _=>True) ?hr ?hp (fun _ hk=>hk) trivial (Below.refl _ _) (Nat.le_refl _) (by simp) ?_;(case hd=>rfl);(case hg=>rfl);(case hr=>first|(go_simp;done)|(go_simp;rfl));(case hp=>exact(Reps.one (show Kd.M (Kd.int .i64) _ _ _ 127 [.int .i64 127] from rfl) (Reps.one (show Kd.M (Kd.int .i64) _ _ _ 127 [.int .i64 127] from rfl) (Reps.none _ _))));intro v355 w14 ho15 hb hg_ hnew_;clear hg_ hnew_;(first|rw[←Ny354.out] at ho15|(simp only[Int.reduceToNat] at ho15;rw[←Ny354.out] at ho15));have HO356:=A_ (Kd.R_lower ho15 (below_size (bw HB.out)));replace HB:=bs_ HB hb;clear hb ho15))
      go_ret2
      exact⟨_,rr_,kr_ HO356.out,bw HB.out⟩
     rw[if_neg c13] at H
     obtain⟨c13b0,c13b1⟩:=eF_ c13
     by_cases c16:a0=55
     ·
      rw[if_pos c16] at H
      obtain⟨c16b0,c16b1⟩:=eT_ c16
      clear c16
      obtain⟨y357,hy357⟩:∃ y_:List Int,y_=(([127,126]:List Int)):=⟨_,rfl⟩
      replace H:(some (y357,64))=some (r1,r2):=by first|(rw[hy357];with_reducible exact H)|(have H2_:=(Option.bind_some _ _).symm.trans H;rw[hy357];with_reducible exact H2_)|(have H2_:=(Option.bind_some _ _).symm.trans H;with_reducible exact H2_)|with_reducible exact H|(rw[hy357];exact H)|exact H
      have Ny357:=A_ hy357
      clear hy357
      simp only[Option.some.injEq,Prod.mk.injEq] at H
      obtain⟨rfl,rfl⟩:=H
      go_wp2_with (first|((with_reducible refine gd_ 19 rfl ?_);refine Kd.R_lit (Kd.int .i64) _ 3 ?hg (N:=19) ?hd (xs:=([127,126]:List Int)) (inner:=[.int .i64 127,.int .i64 126]) (ok:=fun _=>True) (okp:=fun _=>True) ?hr ?hp (fun _ hk=>hk) trivial (Below.refl _ _) (Nat.le_refl _) (by simp) ?_;(case hd=>rfl);(case hg=>rfl);(case hr=>first|(go_simp;done)|(go_simp;rfl));(case hp=>exact(Reps.one (show Kd.M (Kd.int .i64) _ _ _ 127 [.int .i64 127] from rfl) (Reps.one (show Kd.M (Kd.int .i64) _ _ _ 126 [.int .i64 126] from rfl) (Reps.none _ _))));intro v358 w17 ho18 hb hg_ hnew_;clear hg_ hnew_;(first|rw[←Ny357.out] at ho18|(simp only[Int.reduceToNat] at ho18;rw[←Ny357.out] at ho18));have HO359:=A_ (Kd.R_lower ho18 (below_size (bw HB.out)));replace HB:=bs_ HB hb;clear hb ho18))
      go_ret2
      exact⟨_,rr_,kr_ HO359.out,bw HB.out⟩
     rw[if_neg c16] at H
     obtain⟨c16b0,c16b1⟩:=eF_ c16
     have HC19:=A_ H
     clear H
     go_upto_if 20 with (fail)
     go_cut [20] (fun v20 wc=>∃ (kq:Nat) (x20_18:Bool),v20=.bool x20_18∧Aside0 (impl_row.j2 kq a0 a0 x20_18=some (r1,r2))∧Aside0 (kq≤kj6)∧Aside0 (Below w.heap.size w wc))
     case first=>
      have H:=HC19.out
      clear HC19
      by_cases c20:a0=63
      ·
       rw[if_pos c20] at H
       obtain⟨c20b0,c20b1⟩:=eT_ c20
       clear c20
       (first|rw[c20b0]|(simp only[i64_w,i32_w];rw[c20b0])|skip)
       have H':=A_ H
       clear H
       go_wp2
       go_meet
       case rel=>exact⟨_,((a0==63)),rs_,H',⟨by have:=HJ1.out;have:=HJ6.out;first|omega|exact Nat.le_refl _⟩,⟨bw HB.out⟩⟩
      rw[if_neg c20] at H
      obtain⟨c20b0,c20b1⟩:=eF_ c20
      (first|rw[c20b0]|(simp only[i64_w,i32_w];rw[c20b0])|skip)
      have H':=A_ H
      clear H
      go_wp2
      go_meet
      case rel=>exact⟨_,((a0==65)),rs_,H',⟨by have:=HJ1.out;have:=HJ6.out;first|omega|exact Nat.le_refl _⟩,⟨bw HB.out⟩⟩
     case rest=>
      clear HC19
      try clear c4 c10 c13 c13b0 c13b1 c16 c16b0 c16b1
      obtain⟨kq,x20_18,rfl,HA,HJ18,HB⟩:=hcut
      cases kq with
      |zero=>exact absurd HA.out (by simp[impl_row.j2])
      |succ kj18=>
       have H:=HA.out
       clear HA
       simp only[impl_row.j2] at H
       by_cases c21:x20_18=true
       ·
        subst c21
        replace H:=iT_ H
        simp only[Option.some.injEq,Prod.mk.injEq] at H
        obtain⟨rfl,rfl⟩:=H
        go_wp2
        go_ret2
        exact⟨_,rr_,by first|exact Kd.R_nil _ _ _ _ _|exact Kd.N_nil _ _ _ _ _|exact Kd.V_nil _ _ _ _ _|exact Kd.Q_nil _ _ _ _ _|exact Kd.S_nil _ _ _ _ _,bw HB.out⟩
       replace c21:=Bool.eq_false_iff.mpr c21
       subst c21
       replace H:=iF_ H
       by_cases c22:a0=66
       ·
        rw[if_pos c22] at H
        obtain⟨c22b0,c22b1⟩:=eT_ c22
        clear c22
        simp only[Option.some.injEq,Prod.mk.injEq] at H
        obtain⟨rfl,rfl⟩:=H
        go_wp2
        go_ret2
        exact⟨_,rr_,by first|exact Kd.R_nil _ _ _ _ _|exact Kd.N_nil _ _ _ _ _|exact Kd.V_nil _ _ _ _ _|exact Kd.Q_nil _ _ _ _ _|exact Kd.S_nil _ _ _ _ _,bw HB.out⟩
       rw[if_neg c22] at H
       obtain⟨c22b0,c22b1⟩:=eF_ c22
       by_cases c23:a0=67
       ·
        rw[if_pos c23] at H
        obtain⟨c23b0,c23b1⟩:=eT_ c23
        clear c23
        simp only[Option.some.injEq,Prod.mk.injEq] at H
        obtain⟨rfl,rfl⟩:=H
        go_wp2
        go_ret2
        exact⟨_,rr_,by first|exact Kd.R_nil _ _ _ _ _|exact Kd.N_nil _ _ _ _ _|exact Kd.V_nil _ _ _ _ _|exact Kd.Q_nil _ _ _ _ _|exact Kd.S_nil _ _ _ _ _,bw HB.out⟩
       rw[if_neg c23] at H
       obtain⟨c23b0,c23b1⟩:=eF_ c23
       by_cases c24:a0=176
       ·
        rw[if_pos c24] at H
        obtain⟨c24b0,c24b1⟩:=eT_ c24
        clear c24
        obtain⟨y360,hy360⟩:∃ y_:List Int,y_=(([126]:List Int)):=⟨_,rfl⟩
        replace H:(some (y360,127))=some (r1,r2):=by first|(rw[hy360];with_reducible exact H)|(have H2_:=(Option.bind_some _ _).symm.trans H;rw[hy360];with_reducible exact H2_)|(have H2_:=(Option.bind_some _ _).symm.trans H;with_reducible exact H2_)|with_reducible exact H|(rw[hy360];exact H)|exact H
        have Ny360:=A_ hy360
        clear hy360
        simp only[Option.some.injEq,Prod.mk.injEq] at H
        obtain⟨rfl,rfl⟩:=H
        go_wp2_with (first|((with_reducible refine gd_ 29 rfl ?_);refine Kd.R_lit (Kd.int .i64) _ 3 ?hg (N:=29) ?hd (xs:=([126]:List Int)) (inner:=[.int .i64 126]) (ok:=fun _=>True) (okp:=fun _=>True) ?hr ?hp (fun _ hk=>hk) trivial (Below.refl _ _) (Nat.le_refl _) (by simp) ?_;(case hd=>rfl);(case hg=>rfl);(case hr=>first|(go_simp;done)|(go_simp;rfl));(case hp=>exact(Reps.one (show Kd.M (Kd.int .i64) _ _ _ 126 [.int .i64 126] from rfl) (Reps.none _ _)));intro v361 w25 ho26 hb hg_ hnew_;clear hg_ hnew_;(first|rw[←Ny360.out] at ho26|(simp only[Int.reduceToNat] at ho26;rw[←Ny360.out] at ho26));have HO362:=A_ (Kd.R_lower ho26 (below_size (bw HB.out)));replace HB:=bs_ HB hb;clear hb ho26))
        go_ret2
        exact⟨_,rr_,kr_ HO362.out,bw HB.out⟩
       rw[if_neg c24] at H
       obtain⟨c24b0,c24b1⟩:=eF_ c24
       by_cases c27:a0=179
       ·
        rw[if_pos c27] at H
        obtain⟨c27b0,c27b1⟩:=eT_ c27
        clear c27
        obtain⟨y363,hy363⟩:∃ y_:List Int,y_=(([127]:List Int)):=⟨_,rfl⟩
        replace H:(some (y363,125))=some (r1,r2):=by first|(rw[hy363];with_reducible exact H)|(have H2_:=(Option.bind_some _ _).symm.trans H;rw[hy363];with_reducible exact H2_)|(have H2_:=(Option.bind_some _ _).symm.trans H;with_reducible exact H2_)|with_reducible exact H|(rw[hy363];exact H)|exact H
        have Ny363:=A_ hy363
        clear hy363
        simp only[Option.some.injEq,Prod.mk.injEq] at H
        obtain⟨rfl,rfl⟩:=H
        go_wp2_with (first|((with_reducible refine gd_ 32 rfl ?_);refine Kd.R_lit (Kd.int .i64) _ 3 ?hg (N:=32) ?hd (xs:=([127]:List Int)) (inner:=[.int .i64 127]) (ok:=fun _=>True) (okp:=fun _=>True) ?hr ?hp (fun _ hk=>hk) trivial (Below.refl _ _) (Nat.le_refl _) (by simp) ?_;(case hd=>rfl);(case hg=>rfl);(case hr=>first|(go_simp;done)|(go_simp;rfl));(case hp=>exact(Reps.one (show Kd.M (Kd.int .i64) _ _ _ 127 [.int .i64 127] from rfl) (Reps.none _ _)));intro v364 w28 ho29 hb hg_ hnew_;clear hg_ hnew_;(first|rw[←Ny363.out] at ho29|(simp only[Int.reduceToNat] at ho29;rw[←Ny363.out] at ho29));have HO365:=A_ (Kd.R_lower ho29 (below_size (bw HB.out)));replace HB:=bs_ HB hb;clear hb ho29))
        go_ret2
        exact⟨_,rr_,kr_ HO365.out,bw HB.out⟩
       rw[if_neg c27] at H
       obtain⟨c27b0,c27b1⟩:=eF_ c27
       by_cases c30:a0=180
       ·
        rw[if_pos c30] at H
        obtain⟨c30b0,c30b1⟩:=eT_ c30
        clear c30
        obtain⟨y366,hy366⟩:∃ y_:List Int,y_=(([125]:List Int)):=⟨_,rfl⟩
        replace H:(some (y366,127))=some (r1,r2):=by first|(rw[hy366];with_reducible exact H)|(have H2_:=(Option.bind_some _ _).symm.trans H;rw[hy366];with_reducible exact H2_)|(have H2_:=(Option.bind_some _ _).symm.trans H;with_reducible exact H2_)|with_reducible exact H|(rw[hy366];exact H)|exact H
        have Ny366:=A_ hy366
        clear hy366
        simp only[Option.some.injEq,Prod.mk.injEq] at H
        obtain⟨rfl,rfl⟩:=H
        go_wp2_with (first|((with_reducible refine gd_ 35 rfl ?_);refine Kd.R_lit (Kd.int .i64) _ 3 ?hg (N:=35) ?hd (xs:=([125]:List Int)) (inner:=[.int .i64 125]) (ok:=fun _=>True) (okp:=fun _=>True) ?hr ?hp (fun _ hk=>hk) trivial (Below.refl _ _) (Nat.le_refl _) (by simp) ?_;(case hd=>rfl);(case hg=>rfl);(case hr=>first|(go_simp;done)|(go_simp;rfl));(case hp=>exact(Reps.one (show Kd.M (Kd.int .i64) _ _ _ 125 [.int .i64 125] from rfl) (Reps.none _ _)));intro v367 w31 ho32 hb hg_ hnew_;clear hg_ hnew_;(first|rw[←Ny366.out] at ho32|(simp only[Int.reduceToNat] at ho32;rw[←Ny366.out] at ho32));have HO368:=A_ (Kd.R_lower ho32 (below_size (bw HB.out)));replace HB:=bs_ HB hb;clear hb ho32))
        go_ret2
        exact⟨_,rr_,kr_ HO368.out,bw HB.out⟩
       rw[if_neg c30] at H
       obtain⟨c30b0,c30b1⟩:=eF_ c30
       have HC33:=A_ H
       clear H
       go_upto_region 26 with (fail)
       go_cut [36] (fun v36 wc=>∃ (kq:Nat) (x36_32:Bool),v36=.bool x36_32∧Aside0 (impl_row.j3 kq a0 x36_32=some (r1,r2))∧Aside0 (kq≤kj18)∧Aside0 (Below w.heap.size w wc))
       case first=>
        have H:=HC33.out
        clear HC33
        by_cases c34:a0 > 160
        ·
         rw[if_pos c34] at H
         have c34b0:=decide_eq_true c34
         clear c34
         (first|rw[c34b0]|(simp only[i64_w,i32_w];rw[c34b0])|skip)
         have H':=A_ H
         clear H
         go_wp2
         go_meet
         case rel=>exact⟨_,(decide (a0≤169)),rs_,H',⟨by have:=HJ1.out;have:=HJ6.out;have:=HJ18.out;first|omega|exact Nat.le_refl _⟩,⟨bw HB.out⟩⟩
        rw[if_neg c34] at H
        have c34b0:=decide_eq_false c34
        clear c34
        (first|rw[c34b0]|(simp only[i64_w,i32_w];rw[c34b0])|skip)
        have H':=A_ H
        clear H
        go_wp2
        go_meet
        case rel=>exact⟨_,(false),rs_,H',⟨by have:=HJ1.out;have:=HJ6.out;have:=HJ18.out;first|omega|exact Nat.le_refl _⟩,⟨bw HB.out⟩⟩
       case rest=>
        clear HC33
        try clear c4 c10 c13 c13b0 c13b1 c16 c16b0 c16b1 c21 c22 c22b0 c22b1 c23 c23b0 c23b1 c24 c24b0 c24b1 c27 c27b0 c27b1 c30 c30b0 c30b1
        obtain⟨kq,x36_32,rfl,HA,HJ32,HB⟩:=hcut
        cases kq with
        |zero=>exact absurd HA.out (by simp[impl_row.j3])
        |succ kj32=>
         have H:=HA.out
         clear HA
         simp only[impl_row.j3] at H
         by_cases c35:x36_32=true
         ·
          subst c35
          replace H:=iT_ H
          replace H:=Option.bind_eq_some_iff.mp H
          obtain⟨⟨t369,t370⟩,A360,H⟩:=H
          replace H:(some (t369,t370))=some (r1,r2):=H
          have A36:=A_ A360
          clear A360
          simp only[Option.some.injEq,Prod.mk.injEq] at H
          obtain⟨rfl,rfl⟩:=H
          go_wp2_with (first|((with_reducible refine gc_ 77 rfl ?_);refine goesL_ (some 45) rfl rfl Try.func77 (by kernel_rfl) rfl #[.int .i64 (wrap64 (a0 - 160))] rfl ar ?_;(with_reducible refine(impl_floatRow.calls (wrap64 (a0 - 160)) t369 t370 _ A36.out).mono ?_);rintro e w37 ⟨v371,rfl,ho0,hb⟩;refine⟨_,rfl,?_⟩;have HO372:=A_ (Kd.R_lower ho0 (below_size (bw HB.out)));replace HB:=bs_ HB hb;(try clear hb);(try clear hb2);(try clear hk);(try clear hi);(try clear ho0)))
          go_ret2
          exact⟨_,rr_,kr_ HO372.out,bw HB.out⟩
         replace c35:=Bool.eq_false_iff.mpr c35
         subst c35
         replace H:=iF_ H
         have HC38:=A_ H
         clear H
         go_upto_region 28 with (fail)
         go_cut [48] (fun v48 wc=>∃ (kq:Nat) (x48_37:Bool),v48=.bool x48_37∧Aside0 (impl_row.j4 kq a0 x48_37=some (r1,r2))∧Aside0 (kq≤kj32)∧Aside0 (Below w.heap.size w wc))
         case first=>
          have H:=HC38.out
          clear HC38
          by_cases c39:a0 > 128
          ·
           rw[if_pos c39] at H
           have c39b0:=decide_eq_true c39
           clear c39
           (first|rw[c39b0]|(simp only[i64_w,i32_w];rw[c39b0])|skip)
           have H':=A_ H
           clear H
           go_wp2
           go_meet
           case rel=>exact⟨_,(decide (a0≤155)),rs_,H',⟨by have:=HJ1.out;have:=HJ6.out;have:=HJ18.out;have:=HJ32.out;first|omega|exact Nat.le_refl _⟩,⟨bw HB.out⟩⟩
          rw[if_neg c39] at H
          have c39b0:=decide_eq_false c39
          clear c39
          (first|rw[c39b0]|(simp only[i64_w,i32_w];rw[c39b0])|skip)
          have H':=A_ H
          clear H
          go_wp2
          go_meet
          case rel=>exact⟨_,(false),rs_,H',⟨by have:=HJ1.out;have:=HJ6.out;have:=HJ18.out;have:=HJ32.out;first|omega|exact Nat.le_refl _⟩,⟨bw HB.out⟩⟩
         case rest=>
          clear HC38
          try clear c4 c10 c13 c13b0 c13b1 c16 c16b0 c16b1 c21 c22 c22b0 c22b1 c23 c23b0 c23b1 c24 c24b0 c24b1 c27 c27b0 c27b1 c30 c30b0 c30b1 c35
          obtain⟨kq,x48_37,rfl,HA,HJ37,HB⟩:=hcut
          cases kq with
          |zero=>exact absurd HA.out (by simp[impl_row.j4])
          |succ kj37=>
           have H:=HA.out
           clear HA
           simp only[impl_row.j4] at H
           by_cases c40:x48_37=true
           ·
            subst c40
            replace H:=iT_ H
            replace H:=Option.bind_eq_some_iff.mp H
            obtain⟨⟨t373,t374⟩,A410,H⟩:=H
            replace H:(some (t373,t374))=some (r1,r2):=H
            have A41:=A_ A410
            clear A410
            simp only[Option.some.injEq,Prod.mk.injEq] at H
            obtain⟨rfl,rfl⟩:=H
            go_wp2_with (first|((with_reducible refine gc_ 78 rfl ?_);refine goesL_ (some 57) rfl rfl Try.func78 (by kernel_rfl) rfl #[.int .i64 126,.int .i64 (wrap64 (a0 - 128))] rfl ar ?_;(with_reducible refine(impl_intRow.calls kj37 126 (wrap64 (a0 - 128)) t373 t374 _ A41.out).mono ?_);rintro e w42 ⟨v375,rfl,ho0,hb⟩;refine⟨_,rfl,?_⟩;have HO376:=A_ (Kd.R_lower ho0 (below_size (bw HB.out)));replace HB:=bs_ HB hb;(try clear hb);(try clear hb2);(try clear hk);(try clear hi);(try clear ho0)))
            go_ret2
            exact⟨_,rr_,kr_ HO376.out,bw HB.out⟩
           replace c40:=Bool.eq_false_iff.mpr c40
           subst c40
           replace H:=iF_ H
           by_cases c43:a0 > 96
           ·
            rw[if_pos c43] at H
            have c43b0:=decide_eq_true c43
            clear c43
            by_cases c44:a0≤123
            ·
             rw[if_pos c44] at H
             have c44b0:=decide_eq_true c44
             clear c44
             replace H:=Option.bind_eq_some_iff.mp H
             obtain⟨⟨t377,t378⟩,A450,H⟩:=H
             replace H:(some (t377,t378))=some (r1,r2):=H
             have A45:=A_ A450
             clear A450
             simp only[Option.some.injEq,Prod.mk.injEq] at H
             obtain⟨rfl,rfl⟩:=H
             go_wp2_with (first|((with_reducible refine gc_ 78 rfl ?_);refine goesL_ (some 69) rfl rfl Try.func78 (by kernel_rfl) rfl #[.int .i64 127,.int .i64 (wrap64 (a0 - 96))] rfl ar ?_;(with_reducible refine(impl_intRow.calls kj37 127 (wrap64 (a0 - 96)) t377 t378 _ A45.out).mono ?_);rintro e w46 ⟨v379,rfl,ho0,hb⟩;refine⟨_,rfl,?_⟩;have HO380:=A_ (Kd.R_lower ho0 (below_size (bw HB.out)));replace HB:=bs_ HB hb;(try clear hb);(try clear hb2);(try clear hk);(try clear hi);(try clear ho0)))
             go_ret2
             exact⟨_,rr_,kr_ HO380.out,bw HB.out⟩
            rw[if_neg c44] at H
            have c44b0:=decide_eq_false c44
            clear c44
            simp only[Option.some.injEq,Prod.mk.injEq] at H
            obtain⟨rfl,rfl⟩:=H
            go_wp2
            go_ret2
            exact⟨_,rr_,by first|exact Kd.R_nil _ _ _ _ _|exact Kd.N_nil _ _ _ _ _|exact Kd.V_nil _ _ _ _ _|exact Kd.Q_nil _ _ _ _ _|exact Kd.S_nil _ _ _ _ _,bw HB.out⟩
           rw[if_neg c43] at H
           have c43b0:=decide_eq_false c43
           clear c43
           simp only[Option.some.injEq,Prod.mk.injEq] at H
           obtain⟨rfl,rfl⟩:=H
           go_wp2
           go_ret2
           exact⟨_,rr_,by first|exact Kd.R_nil _ _ _ _ _|exact Kd.N_nil _ _ _ _ _|exact Kd.V_nil _ _ _ _ _|exact Kd.Q_nil _ _ _ _ _|exact Kd.S_nil _ _ _ _ _,bw HB.out⟩

end Go.Proofs.Ytghogonibanieaa.Q

