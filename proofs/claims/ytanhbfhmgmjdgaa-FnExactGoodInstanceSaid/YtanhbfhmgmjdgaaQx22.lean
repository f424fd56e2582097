-- Written by a program of this session; it walks the functions that the law reaches.
import Derived.Test.YtanhbfhmgmjdgaaQx0
namespace Go.Proofs.Ytanhbfhmgmjdgaa.Q
open Go.RowKit Go.Proofs.YtanhbfhmgmjdgaaW.PrintWords Go.Proofs.YtanhbfhmgmjdgaaW.PrintLast Go.Proofs.YtanhbfhmgmjdgaaW.PrintMore
attribute [local go_sem] max2_int min2_int max_two min_two max_three min_three max_four min_four   -- for this text's walks alone
set_option linter.unusedVariables false
set_option linter.unusedSimpArgs false
set_option maxRecDepth 100000
set_option maxHeartbeats 8000000

/-! ### impl_floatRow: function 90 -/
def impl_floatRow.f (a0:Int):Option (List Int × Int):=if a0=6 then (some ((([125]:List Int)),125)) else (if a0≥7 then (some ((([125,125]:List Int)),127)) else (some ((([125,125]:List Int)),125)))
theorem impl_floatRow.calls (a0:Int) (r1:List Int) (r2:Int) (w:World) (h:impl_floatRow.f a0=some (r1,r2)):
  Calls Try.prog 90 #[.int .i64 a0] w fun e w'=>∃ v0_:Value,e=.returned (.tuple #[v0_,.int .i64 r2])∧Kd.R (Kd.int .i64) 3 w' w.heap.size (fun _=>True) v0_ r1∧Below w.heap.size w w':=by
 have HB:=A_ (Below.refl w.heap.size w)
 have H:(if a0=6 then (some ((([125]:List Int)),125)) else (if a0≥7 then (some ((([125,125]:List Int)),127)) else (some ((([125,125]:List Int)),125))))=some (r1,r2):=h
 clear h
 revert H
 refine iE_ (fun c2b0 c2b1 H=>?_) (fun c2 c2b0 c2b1 H=>?_)
 ·
  obtain⟨y369,hy369⟩:∃ y_:List Int,y_=(([125]:List Int)):=⟨_,rfl⟩
  rw[←hy369] at H
  have Ny369:=A_ hy369
  clear hy369
  simp only[Option.some.injEq,Prod.mk.injEq] at H
  obtain⟨rfl,rfl⟩:=H
  go_enter Try.func90,Try.ntmps90
  go_wp2_with (first|((with_reducible refine gd_ 7 rfl ?_);refine Kd.R_lit (Kd.int .i64) _ 3 ?hg (N:=7) ?hd (xs:=([125]:List Int)) (inner:=[.int .i64 125]) (ok:=fun _=>True) (okp:=fun _=>True) ?hr ?hp (fun _ hk=>hk) trivial (Below.refl _ _) (Nat.le_refl _) (by simp) ?_;(case hd=>rfl);(case hg=>rfl);(case hr=>first|(go_simp;done)|(go_simp;rfl));(case hp=>exact(Reps.one (show Kd.M (Kd.int .i64) _ _ _ 125 [.int .i64 125] from rfl) (Reps.none _ _)));intro v370 w3 ho4 hb hg_ hnew_;clear hg_ hnew_;(first|rw[←Ny369.out] at ho4|(simp only[Int.reduceToNat] at ho4;rw[←Ny369.out] at ho4));have HO371:=A_ (Kd.R_lower ho4 (below_size (bw HB.out)));replace HB:=bs_ HB hb;clear hb ho4))
  go_ret2
  exact⟨_,rr_,kr_ HO371.out,bw HB.out⟩
 revert H
 refine iL_ (fun c5b0 H=>?_) (fun c5b0 H=>?_)
 ·
  obtain⟨y372,hy372⟩:∃ y_:List Int,y_=(([125,125]:List Int)):=⟨_,rfl⟩
  rw[←hy372] at H
  have Ny372:=A_ hy372
  clear hy372
  simp only[Option.some.injEq,Prod.mk.injEq] at H
  obtain⟨rfl,rfl⟩:=H
  go_enter Try.func90,Try.ntmps90
  go_wp2_with (first|((with_reducible refine gd_ 11 rfl ?_);refine Kd.R_lit (Kd.int .i64) _ 3 ?hg (N:=11) ?hd (xs:=([125,125]:List Int)) (inner:=[.int .i64 125,.int .i64 125]) (ok:=fun _=>True) (okp:=fun _=>True) ?hr ?hp (fun _ hk=>hk) trivial (Below.refl _ _) (Nat.le_refl _) (by simp) ?_;(case hd=>rfl);(case hg=>rfl);(case hr=>first|(go_simp;done)|(go_simp;rfl));(case hp=>exact(Reps.one (show Kd.M (Kd.int .i64) _ _ _ 125 [.int .i64 125] from rfl) (Reps.one (show Kd.M (Kd.int .i64) _ _ _ 125 [.int .i64 125] from rfl) (Reps.none _ _))));intro v373 w6 ho7 hb hg_ hnew_;clear hg_ hnew_;(first|rw[←Ny372.out] at ho7|(simp only[Int.reduceToNat] at ho7;rw[←Ny372.out] at ho7));have HO374:=A_ (Kd.R_lower ho7 (below_size (bw HB.out)));replace HB:=bs_ HB hb;clear hb ho7))
  go_ret2
  exact⟨_,rr_,kr_ HO374.out,bw HB.out⟩
 obtain⟨y375,hy375⟩:∃ y_:List Int,y_=(([125,125]:List Int)):=⟨_,rfl⟩
 rw[←hy375] at H
 have Ny375:=A_ hy375
 clear hy375
 simp only[Option.some.injEq,Prod.mk.injEq] at H
 obtain⟨rfl,rfl⟩:=H
 go_enter Try.func90,Try.ntmps90
 go_wp2_with (first|((with_reducible refine gd_ 12 rfl ?_);refine Kd.R_lit (Kd.int .i64) _ 3 ?hg (N:=12) ?hd (xs:=([125,125]:List Int)) (inner:=[.int .i64 125,.int .i64 125]) (ok:=fun _=>True) (okp:=fun _=>True) ?hr ?hp (fun _ hk=>hk) trivial (Below.refl _ _) (Nat.le_refl _) (by simp) ?_;(case hd=>rfl);(case hg=>rfl);(case hr=>first|(go_simp;done)|(go_simp;rfl));(case hp=>exact(Reps.one (show Kd.M (Kd.int .i64) _ _ _ 125 [.int .i64 125] from rfl) (Reps.one (show Kd.M (Kd.int .i64) _ _ _ 125 [.int .i64 125] from rfl) (Reps.none _ _))));intro v376 w8 ho9 hb hg_ hnew_;clear hg_ hnew_;(first|rw[←Ny375.out] at ho9|(simp only[Int.reduceToNat] at ho9;rw[←Ny375.out] at ho9));have HO377:=A_ (Kd.R_lower ho9 (below_size (bw HB.out)));replace HB:=bs_ HB hb;clear hb ho9))
 go_ret2
 exact⟨_,rr_,kr_ HO377.out,bw HB.out⟩

/-! ### impl_intRow: function 91 -/
def impl_intRow.j0:Nat→Int→Int→Int→Bool→Option (List Int × Int)
 |0,_,_,_,_=>none
 |k+1,x0,x1,x6,x17=>if x17=true then (if x1≤21 then (some ((([x0,x0]:List Int)),127)) else (some ((([x0]:List Int)),127))) else (if x1≤21 then (some ((([x0,x0]:List Int)),x6)) else (some ((([x0]:List Int)),x6)))
def impl_intRow.f (k:Nat) (a0:Int) (a1:Int):Option (List Int × Int):=if a1≥16 then (if a1≤21 then (impl_intRow.j0 k a0 a1 a0 true) else (impl_intRow.j0 k a0 a1 a0 (a1==25))) else (impl_intRow.j0 k a0 a1 a0 (a1==25))
theorem impl_intRow.mono_l:∀ k,(∀ y0 y1 y2 y3,LeO (impl_intRow.j0 k y0 y1 y2 y3) (impl_intRow.j0 (k+1) y0 y1 y2 y3))
 |0=>fun _ _ _ _ r h=>by simp[impl_intRow.j0] at h
 |k+1=>by
  have ih0:=impl_intRow.mono_l k
  intro y0 y1 y2 y3
  unfold impl_intRow.j0
  repeat' first
  |(with_reducible exact ih0 _ _ _ _)
  |(with_reducible exact LeO.refl _)
  |(with_reducible exact LeO.none _)
  |(with_reducible refine LeO.ite ?_ ?_)
  |(with_reducible refine LeO.bind ?_ (fun _=>?_))
  |exact ih0 _ _ _ _
  |exact LeO.none _
  |refine LeO.ite ?_ ?_
  |refine LeO.bind ?_ (fun _=>?_)
theorem impl_intRow.mono:∀ a0 a1 k,LeO (impl_intRow.f k a0 a1) (impl_intRow.f (k+1) a0 a1):=by
 intro a0 a1 k
 have ih0:=impl_intRow.mono_l k
 unfold impl_intRow.f
 repeat' first
  |(with_reducible exact ih0 _ _ _ _)
  |(with_reducible exact LeO.refl _)
  |(with_reducible exact LeO.none _)
  |(with_reducible refine LeO.ite ?_ ?_)
  |(with_reducible refine LeO.bind ?_ (fun _=>?_))
  |exact ih0 _ _ _ _
  |exact LeO.none _
  |refine LeO.ite ?_ ?_
  |refine LeO.bind ?_ (fun _=>?_)
theorem impl_intRow.calls (k:Nat) (a0:Int) (a1:Int) (r1:List Int) (r2:Int) (w:World) (h:impl_intRow.f k a0 a1=some (r1,r2)):
  Calls Try.prog 91 #[.int .i64 a0,.int .i64 a1] w fun e w'=>∃ v0_:Value,e=.returned (.tuple #[v0_,.int .i64 r2])∧Kd.R (Kd.int .i64) 3 w' w.heap.size (fun _=>True) v0_ r1∧Below w.heap.size w w':=by
 have HB:=A_ (Below.refl w.heap.size w)
 have H:(if a1≥16 then (if a1≤21 then (impl_intRow.j0 k a0 a1 a0 true) else (impl_intRow.j0 k a0 a1 a0 (a1==25))) else (impl_intRow.j0 k a0 a1 a0 (a1==25)))=some (r1,r2):=h
 clear h
 have HC3:=A_ H
 clear H
 go_enter Try.func91,Try.ntmps91
 go_upto_region 2 with (fail)
 go_cut [17] (fun v17 wc=>∃ (kq:Nat) (x17_2:Bool),v17=.bool x17_2∧Aside0 (impl_intRow.j0 kq a0 a1 a0 x17_2=some (r1,r2))∧Aside0 (kq≤k)∧Aside0 (Below w.heap.size w wc))
 case first=>
  have H:=HC3.out
  clear HC3
  revert H
  refine iL_ (fun c4b0 H=>?_) (fun c4b0 H=>?_)
  ·
   (first|rw[c4b0]|(simp only[i64_w,i32_w];rw[c4b0])|skip)
   revert H
   refine iL_ (fun c5b0 H=>?_) (fun c5b0 H=>?_)
   ·
    have H':=A_ H
    clear H
    go_wp2
    go_meet
    case rel=>exact⟨_,(true),rs_,H',⟨by first|omega|exact Nat.le_refl _⟩,⟨bw HB.out⟩⟩
   have H':=A_ H
   clear H
   go_wp2
   go_meet
   case rel=>exact⟨_,((a1==25)),rs_,H',⟨by first|omega|exact Nat.le_refl _⟩,⟨bw HB.out⟩⟩
  (first|rw[c4b0]|(simp only[i64_w,i32_w];rw[c4b0])|skip)
  have H':=A_ H
  clear H
  go_wp2
  go_meet
  case rel=>exact⟨_,((a1==25)),rs_,H',⟨by first|omega|exact Nat.le_refl _⟩,⟨bw HB.out⟩⟩
 case rest=>
  clear HC3
  obtain⟨kq,x17_2,rfl,HA,HJ2,HB⟩:=hcut
  cases kq with
  |zero=>exact absurd HA.out (by simp[impl_intRow.j0])
  |succ kj2=>
   have H:=HA.out
   clear HA
   simp only[impl_intRow.j0] at H
   revert H
   refine iB_ (fun c6 H=>?_) (fun c6 H=>?_)<;>subst c6
   ·
    revert H
    refine iL_ (fun c7b0 H=>?_) (fun c7b0 H=>?_)
    ·
     obtain⟨y378,hy378⟩:∃ y_:List Int,y_=(([a0,a0]:List Int)):=⟨_,rfl⟩
     rw[←hy378] at H
     have Ny378:=A_ hy378
     clear hy378
     simp only[Option.some.injEq,Prod.mk.injEq] at H
     obtain⟨rfl,rfl⟩:=H
     go_wp2_with (first|((with_reducible refine gd_ 22 rfl ?_);refine Kd.R_lit (Kd.int .i64) _ 3 ?hg (N:=22) ?hd (xs:=([a0,a0]:List Int)) (inner:=[.int .i64 a0,.int .i64 a0]) (ok:=fun _=>True) (okp:=fun _=>True) ?hr ?hp (fun _ hk=>hk) trivial (Below.refl _ _) (Nat.le_refl _) (by simp) ?_;(case hd=>rfl);(case hg=>rfl);(case hr=>first|(go_simp;done)|(go_simp;rfl));(case hp=>exact(Reps.one (show Kd.M (Kd.int .i64) _ _ _ a0 [.int .i64 a0] from rfl) (Reps.one (show Kd.M (Kd.int .i64) _ _ _ a0 [.int .i64 a0] from rfl) (Reps.none _ _))));intro v379 w8 ho9 hb hg_ hnew_;clear hg_ hnew_;(first|rw[←Ny378.out] at ho9|(simp only[Int.reduceToNat] at ho9;rw[←Ny378.out] at ho9));have HO380:=A_ (Kd.R_lower ho9 (below_size (bw HB.out)));replace HB:=bs_ HB hb;clear hb ho9))
     go_ret2
     exact⟨_,rr_,kr_ HO380.out,bw HB.out⟩
    obtain⟨y381,hy381⟩:∃ y_:List Int,y_=(([a0]:List Int)):=⟨_,rfl⟩
    rw[←hy381] at H
    have Ny381:=A_ hy381
    clear hy381
    simp only[Option.some.injEq,Prod.mk.injEq] at H
    obtain⟨rfl,rfl⟩:=H
    go_wp2_with (first|((with_reducible refine gd_ 25 rfl ?_);refine Kd.R_lit (Kd.int .i64) _ 3 ?hg (N:=25) ?hd (xs:=([a0]:List Int)) (inner:=[.int .i64 a0]) (ok:=fun _=>True) (okp:=fun _=>True) ?hr ?hp (fun _ hk=>hk) trivial (Below.refl _ _) (Nat.le_refl _) (by simp) ?_;(case hd=>rfl);(case hg=>rfl);(case hr=>first|(go_simp;done)|(go_simp;rfl));(case hp=>exact(Reps.one (show Kd.M (Kd.int .i64) _ _ _ a0 [.int .i64 a0] from rfl) (Reps.none _ _)));intro v382 w10 ho11 hb hg_ hnew_;clear hg_ hnew_;(first|rw[←Ny381.out] at ho11|(simp only[Int.reduceToNat] at ho11;rw[←Ny381.out] at ho11));have HO383:=A_ (Kd.R_lower ho11 (below_size (bw HB.out)));replace HB:=bs_ HB hb;clear hb ho11))
    go_ret2
    exact⟨_,rr_,kr_ HO383.out,bw HB.out⟩
   revert H
   refine iL_ (fun c12b0 H=>?_) (fun c12b0 H=>?_)
   ·
    obtain⟨y384,hy384⟩:∃ y_:List Int,y_=(([a0,a0]:List Int)):=⟨_,rfl⟩
    rw[←hy384] at H
    have Ny384:=A_ hy384
    clear hy384
    simp only[Option.some.injEq,Prod.mk.injEq] at H
    obtain⟨rfl,rfl⟩:=H
    go_wp2_with (first|((with_reducible refine gd_ 22 rfl ?_);refine Kd.R_lit (Kd.int .i64) _ 3 ?hg (N:=22) ?hd (xs:=([a0,a0]:List Int)) (inner:=[.int .i64 a0,.int .i64 a0]) (ok:=fun _=>True) (okp:=fun _=>True) ?hr ?hp (fun _ hk=>hk) trivial (Below.refl _ _) (Nat.le_refl _) (by simp) ?_;(case hd=>rfl);(case hg=>rfl);(case hr=>first|(go_simp;done)|(go_simp;rfl));(case hp=>exact(Reps.one (show Kd.M (Kd.int .i64) _ _ _ a0 [.int .i64 a0] from rfl) (Reps.one (show Kd.M (Kd.int .i64) _ _ _ a0 [.int .i64 a0] from rfl) (Reps.none _ _))));intro v385 w13 ho14 hb hg_ hnew_;clear hg_ hnew_;(first|rw[←Ny384.out] at ho14|(simp only[Int.reduceToNat] at ho14;rw[←Ny384.out] at ho14));have HO386:=A_ (Kd.R_lower ho14 (below_size (bw HB.out)));replace HB:=bs_ HB hb;clear hb ho14))
    go_ret2
    exact⟨_,rr_,kr_ HO386.out,bw HB.out⟩
   obtain⟨y387,hy387⟩:∃ y_:List Int,y_=(([a0]:List Int)):=⟨_,rfl⟩
   rw[←hy387] at H
   have Ny387:=A_ hy387
   clear hy387
   simp only[Option.some.injEq,Prod.mk.injEq] at H
   obtain⟨rfl,rfl⟩:=H
   go_wp2_with (first|((with_reducible refine gd_ 25 rfl ?_);refine Kd.R_lit (Kd.int .i64) _ 3 ?hg (N:=25) ?hd (xs:=([a0]:List Int)) (inner:=[.int .i64 a0]) (ok:=fun _=>True) (okp:=fun _=>True) ?hr ?hp (fun _ hk=>hk) trivial (Below.refl _ _) (Nat.le_refl _) (by simp) ?_;(case hd=>rfl);(case hg=>rfl);(case hr=>first|(go_simp;done)|(go_simp;rfl));(case hp=>exact(Reps.one (show Kd.M (Kd.int .i64) _ _ _ a0 [.int .i64 a0] from rfl) (Reps.none _ _)));intro v388 w15 ho16 hb hg_ hnew_;clear hg_ hnew_;(first|rw[←Ny387.out] at ho16|(simp only[Int.reduceToNat] at ho16;rw[←Ny387.out] at ho16));have HO389:=A_ (Kd.R_lower ho16 (below_size (bw HB.out)));replace HB:=bs_ HB hb;clear hb ho16))
   go_ret2
   exact⟨_,rr_,kr_ HO389.out,bw HB.out⟩

/-! ### impl_row: function 68 -/
mutual
def impl_row.j0:Nat→Int→Int→Bool→Option (List Int × Int)
 |0,_,_,_=>none
 |k+1,x0,x4,x5=>if x5=true then (some ((([127]:List Int)),127)) else (if x4=41 then (impl_row.j1 k x0 x4 (x4==41)) else (if x4=177 then (impl_row.j1 k x0 x4 (x4==177)) else (impl_row.j1 k x0 x4 (x4==178))))
def impl_row.j1:Nat→Int→Int→Bool→Option (List Int × Int)
 |0,_,_,_=>none
 |k+1,x0,x4,x9=>if x9=true then (some ((([127]:List Int)),126)) else (if x4=54 then (some ((([127,127]:List Int)),64)) else (if x4=55 then (some ((([127,126]:List Int)),64)) else (if x4=63 then (impl_row.j2 k x0 x4 (x4==63)) else (impl_row.j2 k x0 x4 (x4==65)))))
def impl_row.j2:Nat→Int→Int→Bool→Option (List Int × Int)
 |0,_,_,_=>none
 |k+1,x0,x4,x20=>if x20=true then (some (([]:List Int),127)) else (if x4=66 then (some (([]:List Int),126)) else (if x4=67 then (some (([]:List Int),125)) else (if x4=176 then (some ((([126]:List Int)),127)) else (if x4=179 then (some ((([127]:List Int)),125)) else (if x4=180 then (some ((([125]:List Int)),127)) else (if x0 > 160 then (impl_row.j3 k x0 (decide (x0≤169))) else (impl_row.j3 k x0 false)))))))
def impl_row.j3:Nat→Int→Bool→Option (List Int × Int)
 |0,_,_=>none
 |k+1,x0,x36=>if x36=true then ((impl_floatRow.f (wrap64 (x0 - 160))).bind fun bt411=>(some (bt411.1,bt411.2))) else (if x0 > 128 then (impl_row.j4 k x0 (decide (x0≤155))) else (impl_row.j4 k x0 false))
def impl_row.j4:Nat→Int→Bool→Option (List Int × Int)
 |0,_,_=>none
 |k+1,x0,x48=>if x48=true then ((impl_intRow.f k 126 (wrap64 (x0 - 128))).bind fun bt415=>(some (bt415.1,bt415.2))) else (if x0 > 96 then (if x0≤123 then ((impl_intRow.f k 127 (wrap64 (x0 - 96))).bind fun bt419=>(some (bt419.1,bt419.2))) else (some (([]:List Int),64))) else (some (([]:List Int),64)))
end
def impl_row.f (k:Nat) (a0:Int):Option (List Int × Int):=if a0=40 then (impl_row.j0 k a0 a0 (a0==40)) else (impl_row.j0 k a0 a0 (a0==64))
theorem impl_row.mono_l:∀ k,(∀ y0 y1 y2,LeO (impl_row.j0 k y0 y1 y2) (impl_row.j0 (k+1) y0 y1 y2))∧(∀ y0 y1 y2,LeO (impl_row.j1 k y0 y1 y2) (impl_row.j1 (k+1) y0 y1 y2))∧(∀ y0 y1 y2,LeO (impl_row.j2 k y0 y1 y2) (impl_row.j2 (k+1) y0 y1 y2))∧(∀ y0 y1,LeO (impl_row.j3 k y0 y1) (impl_row.j3 (k+1) y0 y1))∧(∀ y0 y1,LeO (impl_row.j4 k y0 y1) (impl_row.j4 (k+1) y0 y1))
 |0=>⟨fun _ _ _ r h=>by simp[impl_row.j0] at h,fun _ _ _ r h=>by simp[impl_row.j1] at h,fun _ _ _ r h=>by simp[impl_row.j2] at h,fun _ _ r h=>by simp[impl_row.j3] at h,fun _ _ r h=>by simp[impl_row.j4] at h⟩
 |k+1=>by
  obtain⟨ih0,ih1,ih2,ih3,ih4⟩:=impl_row.mono_l k
  refine⟨?_,?_,?_,?_,?_⟩<;>intros<;>first|unfold impl_row.j0|unfold impl_row.j1|unfold impl_row.j2|unfold impl_row.j3|unfold impl_row.j4
  all_goals repeat' first
  |(with_reducible exact ih0 _ _ _)
  |(with_reducible exact ih1 _ _ _)
  |(with_reducible exact ih2 _ _ _)
  |(with_reducible exact ih3 _ _)
  |(with_reducible exact ih4 _ _)
  |(with_reducible exact impl_intRow.mono _ _ _)
  |(with_reducible exact LeO.refl _)
  |(with_reducible exact LeO.none _)
  |(with_reducible refine LeO.ite ?_ ?_)
  |(with_reducible refine LeO.bind ?_ (fun _=>?_))
  |exact ih0 _ _ _
  |exact ih1 _ _ _
  |exact ih2 _ _ _
  |exact ih3 _ _
  |exact ih4 _ _
  |exact impl_intRow.mono _ _ _
  |exact LeO.none _
  |refine LeO.ite ?_ ?_
  |refine LeO.bind ?_ (fun _=>?_)
theorem impl_row.mono:∀ a0 k,LeO (impl_row.f k a0) (impl_row.f (k+1) a0):=by
 intro a0 k
 obtain⟨ih0,ih1,ih2,ih3,ih4⟩:=impl_row.mono_l k
 unfold impl_row.f
 repeat' first
  |(with_reducible exact ih0 _ _ _)
  |(with_reducible exact ih1 _ _ _)
  |(with_reducible exact ih2 _ _ _)
  |(with_reducible exact ih3 _ _)
  |(with_reducible exact ih4 _ _)
  |(with_reducible exact impl_intRow.mono _ _ _)
  |(with_reducible exact LeO.refl _)
  |(with_reducible exact LeO.none _)
  |(with_reducible refine LeO.ite ?_ ?_)
  |(with_reducible refine LeO.bind ?_ (fun _=>?_))
  |exact ih0 _ _ _
  |exact ih1 _ _ _
  |exact ih2 _ _ _
  |exact ih3 _ _
  |exact ih4 _ _
  |exact impl_intRow.mono _ _ _
  |exact LeO.none _
  |refine LeO.ite ?_ ?_
  |refine LeO.bind ?_ (fun _=>?_)
theorem impl_row.calls (k:Nat) (a0:Int) (r1:List Int) (r2:Int) (w:World) (h:impl_row.f k a0=some (r1,r2)):
  Calls Try.prog 68 #[.int .i64 a0] w fun e w'=>∃ v0_:Value,e=.returned (.tuple #[v0_,.int .i64 r2])∧Kd.R (Kd.int .i64) 3 w' w.heap.size (fun _=>True) v0_ r1∧Below w.heap.size w w':=by
 have HB:=A_ (Below.refl w.heap.size w)
 have H:(if a0=40 then (impl_row.j0 k a0 a0 (a0==40)) else (impl_row.j0 k a0 a0 (a0==64)))=some (r1,r2):=h
 clear h
 have HC2:=A_ H
 clear H
 go_enter Try.func68,Try.ntmps68
 go_upto_if 5 with (fail)
 go_cut [5] (fun v5 wc=>∃ (kq:Nat) (x5_1:Bool),v5=.bool x5_1∧Aside0 (impl_row.j0 kq a0 a0 x5_1=some (r1,r2))∧Aside0 (kq≤k)∧Aside0 (Below w.heap.size w wc))
 case first=>
  have H:=HC2.out
  clear HC2
  revert H
  refine iE_ (fun c3b0 c3b1 H=>?_) (fun c3 c3b0 c3b1 H=>?_)
  ·
   (first|rw[c3b0]|(simp only[i64_w,i32_w];rw[c3b0])|skip)
   have H':=A_ H
   clear H
   go_wp2
   go_meet
   case rel=>exact⟨_,((a0==40)),rs_,H',⟨by first|omega|exact Nat.le_refl _⟩,⟨bw HB.out⟩⟩
  (first|rw[c3b0]|(simp only[i64_w,i32_w];rw[c3b0])|skip)
  have H':=A_ H
  clear H
  go_wp2
  go_meet
  case rel=>exact⟨_,((a0==64)),rs_,H',⟨by first|omega|exact Nat.le_refl _⟩,⟨bw HB.out⟩⟩
 case rest=>
  clear HC2
  obtain⟨kq,x5_1,rfl,HA,HJ1,HB⟩:=hcut
  cases kq with
  |zero=>exact absurd HA.out (by simp[impl_row.j0])
  |succ kj1=>
   have H:=HA.out
   clear HA
   simp only[impl_row.j0] at H
   revert H
   refine iB_ (fun c4 H=>?_) (fun c4 H=>?_)<;>subst c4
   ·
    obtain⟨y390,hy390⟩:∃ y_:List Int,y_=(([127]:List Int)):=⟨_,rfl⟩
    rw[←hy390] at H
    have Ny390:=A_ hy390
    clear hy390
    simp only[Option.some.injEq,Prod.mk.injEq] at H
    obtain⟨rfl,rfl⟩:=H
    go_wp2_with (first|((with_reducible refine gd_ 8 rfl ?_);refine Kd.R_lit (Kd.int .i64) _ 3 ?hg (N:=8) ?hd (xs:=([127]:List Int)) (inner:=[.int .i64 127]) (ok:=fun _=>True) (okp:=fun _=>True) ?hr ?hp (fun _ hk=>hk) trivial (Below.refl _ _) (Nat.le_refl _) (by simp) ?_;(case hd=>rfl);(case hg=>rfl);(case hr=>first|(go_simp;done)|(go_simp;rfl));(case hp=>exact(Reps.one (show Kd.M (Kd.int .i64) _ _ _ 127 [.int .i64 127] from rfl) (Reps.none _ _)));intro v391 w5 ho6 hb hg_ hnew_;clear hg_ hnew_;(first|rw[←Ny390.out] at ho6|(simp only[Int.reduceToNat] at ho6;rw[←Ny390.out] at ho6));have HO392:=A_ (Kd.R_lower ho6 (below_size (bw HB.out)));replace HB:=bs_ HB hb;clear hb ho6))
    go_ret2
    exact⟨_,rr_,kr_ HO392.out,bw HB.out⟩
   have HC7:=A_ H
   clear H
   go_upto_if 9 with (fail)
   go_cut [9] (fun v9 wc=>∃ (kq:Nat) (x9_6:Bool),v9=.bool x9_6∧Aside0 (impl_row.j1 kq a0 a0 x9_6=some (r1,r2))∧Aside0 (kq≤kj1)∧Aside0 (Below w.heap.size w wc))
   case first=>
    have H:=HC7.out
    clear HC7
    revert H
    refine iE_ (fun c8b0 c8b1 H=>?_) (fun c8 c8b0 c8b1 H=>?_)
    ·
     (first|rw[c8b0]|(simp only[i64_w,i32_w];rw[c8b0])|skip)
     have H':=A_ H
     clear H
     go_wp2
     go_meet
     case rel=>exact⟨_,((a0==41)),rs_,H',⟨by have:=HJ1.out;first|omega|exact Nat.le_refl _⟩,⟨bw HB.out⟩⟩
    (first|rw[c8b0]|(simp only[i64_w,i32_w];rw[c8b0])|skip)
    revert H
    refine iE_ (fun c9b0 c9b1 H=>?_) (fun c9 c9b0 c9b1 H=>?_)
    ·
     have H':=A_ H
     clear H
     go_wp2
     go_meet
     case rel=>exact⟨_,((a0==177)),rs_,H',⟨by have:=HJ1.out;first|omega|exact Nat.le_refl _⟩,⟨bw HB.out⟩⟩
    have H':=A_ H
    clear H
    go_wp2
    go_meet
    case rel=>exact⟨_,((a0==178)),rs_,H',⟨by have:=HJ1.out;first|omega|exact Nat.le_refl _⟩,⟨bw HB.out⟩⟩
   case rest=>
    clear HC7
    try clear c4
    obtain⟨kq,x9_6,rfl,HA,HJ6,HB⟩:=hcut
    cases kq with
    |zero=>exact absurd HA.out (by simp[impl_row.j1])
    |succ kj6=>
     have H:=HA.out
     clear HA
     simp only[impl_row.j1] at H
     revert H
     refine iB_ (fun c10 H=>?_) (fun c10 H=>?_)<;>subst c10
     ·
      obtain⟨y393,hy393⟩:∃ y_:List Int,y_=(([127]:List Int)):=⟨_,rfl⟩
      rw[←hy393] at H
      have Ny393:=A_ hy393
      clear hy393
      simp only[Option.some.injEq,Prod.mk.injEq] at H
      obtain⟨rfl,rfl⟩:=H
      go_wp2_with (first|((with_reducible refine gd_ 13 rfl ?_);refine Kd.R_lit (Kd.int .i64) _ 3 ?hg (N:=13) ?hd (xs:=([127]:List Int)) (inner:=[.int .i64 127]) (ok:=fun _=>True) (okp:=fun _=>True) ?hr ?hp (fun _ hk=>hk) trivial (Below.refl _ _) (Nat.le_refl _) (by simp) ?_;(case hd=>rfl);(case hg=>rfl);(case hr=>first|(go_simp;done)|(go_simp;rfl));(case hp=>exact(Reps.one (show Kd.M (Kd.int .i64) _ _ _ 127 [.int .i64 127] from rfl) (Reps.none _ _)));intro v394 w11 ho12 hb hg_ hnew_;clear hg_ hnew_;(first|rw[←Ny393.out] at ho12|(simp only[Int.reduceToNat] at ho12;rw[←Ny393.out] at ho12));have HO395:=A_ (Kd.R_lower ho12 (below_size (bw HB.out)));replace HB:=bs_ HB hb;clear hb ho12))
      go_ret2
      exact⟨_,rr_,kr_ HO395.out,bw HB.out⟩
     revert H
     refine iE_ (fun c13b0 c13b1 H=>?_) (fun c13 c13b0 c13b1 H=>?_)
     ·
      obtain⟨y396,hy396⟩:∃ y_:List Int,y_=(([127,127]:List Int)):=⟨_,rfl⟩
      rw[←hy396] at H
      have Ny396:=A_ hy396
      clear hy396
      simp only[Option.some.injEq,Prod.mk.injEq] at H
      obtain⟨rfl,rfl⟩:=H
      go_wp2_with (first|((with_reducible refine gd_ 16 rfl ?_);refine Kd.R_lit (Kd.int .i64) _ 3 ?hg (N:=16) ?hd (xs:=([127,127]:List Int)) (inner:=[.int .i64 127,.int .i64 127]) (ok:=fun _=>True) (okp:=fun _=>True) ?hr ?hp (fun _ hk=>hk) trivial (Below.refl _ _) (Nat.le_refl _) (by simp) ?_;(case hd=>rfl);(case hg=>rfl);(case hr=>first|(go_simp;done)|(go_simp;rfl));(case hp=>exact(Reps.one (show Kd.M (Kd.int .i64) _ _ _ 127 [.int .i64 127] from rfl) (Reps.one (show Kd.M (Kd.int .i64) _ _ _ 127 [.int .i64 127] from rfl) (Reps.none _ _))));intro v397 w14 ho15 hb hg_ hnew_;clear hg_ hnew_;(first|rw[←Ny396.out] at ho15|(simp only[Int.reduceToNat] at ho15;rw[←Ny396.out] at ho15));have HO398:=A_ (Kd.R_lower ho15 (below_size (bw HB.out)));replace HB:=bs_ HB hb;clear hb ho15))
      go_ret2
      exact⟨_,rr_,kr_ HO398.out,bw HB.out⟩
     revert H
     refine iE_ (fun c16b0 c16b1 H=>?_) (fun c16 c16b0 c16b1 H=>?_)
     ·
      obtain⟨y399,hy399⟩:∃ y_:List Int,y_=(([127,126]:List Int)):=⟨_,rfl⟩
      rw[←hy399] at H
      have Ny399:=A_ hy399
      clear hy399
      simp only[Option.some.injEq,Prod.mk.injEq] at H
      obtain⟨rfl,rfl⟩:=H
      go_wp2_with (first|((with_reducible refine gd_ 19 rfl ?_);refine Kd.R_lit (Kd.int .i64) _ 3 ?hg (N:=19) ?hd (xs:=([127,126]:List Int)) (inner:=[.int .i64 127,.int .i64 126]) (ok:=fun _=>True) (okp:=fun _=>True) ?hr ?hp (fun _ hk=>hk) trivial (Below.refl _ _) (Nat.le_refl _) (by simp) ?_;(case hd=>rfl);(case hg=>rfl);(case hr=>first|(go_simp;done)|(go_simp;rfl));(case hp=>exact(Reps.one (show Kd.M (Kd.int .i64) _ _ _ 127 [.int .i64 127] from rfl) (Reps.one (show Kd.M (Kd.int .i64) _ _ _ 126 [.int .i64 126] from rfl) (Reps.none _ _))));intro v400 w17 ho18 hb hg_ hnew_;clear hg_ hnew_;(first|rw[←Ny399.out] at ho18|(simp only[Int.reduceToNat] at ho18;rw[←Ny399.out] at ho18));have HO401:=A_ (Kd.R_lower ho18 (below_size (bw HB.out)));replace HB:=bs_ HB hb;clear hb ho18))
      go_ret2
      exact⟨_,rr_,kr_ HO401.out,bw HB.out⟩
     have HC19:=A_ H
     clear H
     go_upto_if 20 with (fail)
     go_cut [20] (fun v20 wc=>∃ (kq:Nat) (x20_18:Bool),v20=.bool x20_18∧Aside0 (impl_row.j2 kq a0 a0 x20_18=some (r1,r2))∧Aside0 (kq≤kj6)∧Aside0 (Below w.heap.size w wc))
     case first=>
      have H:=HC19.out
      clear HC19
      revert H
      refine iE_ (fun c20b0 c20b1 H=>?_) (fun c20 c20b0 c20b1 H=>?_)
      ·
       (first|rw[c20b0]|(simp only[i64_w,i32_w];rw[c20b0])|skip)
       have H':=A_ H
       clear H
       go_wp2
       go_meet
       case rel=>exact⟨_,((a0==63)),rs_,H',⟨by have:=HJ1.out;have:=HJ6.out;first|omega|exact Nat.le_refl _⟩,⟨bw HB.out⟩⟩
      (first|rw[c20b0]|(simp only[i64_w,i32_w];rw[c20b0])|skip)
      have H':=A_ H
      clear H
      go_wp2
      go_meet
      case rel=>exact⟨_,((a0==65)),rs_,H',⟨by have:=HJ1.out;have:=HJ6.out;first|omega|exact Nat.le_refl _⟩,⟨bw HB.out⟩⟩
     case rest=>
      clear HC19
      try clear c4 c10 c13 c13b0 c13b1 c16 c16b0 c16b1
      obtain⟨kq,x20_18,rfl,HA,HJ18,HB⟩:=hcut
      cases kq with
      |zero=>exact absurd HA.out (by simp[impl_row.j2])
      |succ kj18=>
       have H:=HA.out
       clear HA
       simp only[impl_row.j2] at H
       revert H
       refine iB_ (fun c21 H=>?pc21) (fun c21 H=>?nc21)<;>subst c21
       case' pc21=>
        simp only[Option.some.injEq,Prod.mk.injEq] at H
        obtain⟨rfl,rfl⟩:=H
       case' nc21=>
        revert H
        refine iE_ (fun c22b0 c22b1 H=>?pc22) (fun c22 c22b0 c22b1 H=>?nc22)
        case' pc22=>
         simp only[Option.some.injEq,Prod.mk.injEq] at H
         obtain⟨rfl,rfl⟩:=H
        case' nc22=>
         by_cases c23:a0=67
         case neg=>
          rw[if_neg c23] at H
          obtain⟨c23b0,c23b1⟩:=eF_ c23
          revert H
          refine iE_ (fun c24b0 c24b1 H=>?_) (fun c24 c24b0 c24b1 H=>?_)
          ·
           obtain⟨y402,hy402⟩:∃ y_:List Int,y_=(([126]:List Int)):=⟨_,rfl⟩
           rw[←hy402] at H
           have Ny402:=A_ hy402
           clear hy402
           simp only[Option.some.injEq,Prod.mk.injEq] at H
           obtain⟨rfl,rfl⟩:=H
           go_wp2_with (first|((with_reducible refine gd_ 29 rfl ?_);refine Kd.R_lit (Kd.int .i64) _ 3 ?hg (N:=29) ?hd (xs:=([126]:List Int)) (inner:=[.int .i64 126]) (ok:=fun _=>True) (okp:=fun _=>True) ?hr ?hp (fun _ hk=>hk) trivial (Below.refl _ _) (Nat.le_refl _) (by simp) ?_;(case hd=>rfl);(case hg=>rfl);(case hr=>first|(go_simp;done)|(go_simp;rfl));(case hp=>exact(Reps.one (show Kd.M (Kd.int .i64) _ _ _ 126 [.int .i64 126] from rfl) (Reps.none _ _)));intro v403 w25 ho26 hb hg_ hnew_;clear hg_ hnew_;(first|rw[←Ny402.out] at ho26|(simp only[Int.reduceToNat] at ho26;rw[←Ny402.out] at ho26));have HO404:=A_ (Kd.R_lower ho26 (below_size (bw HB.out)));replace HB:=bs_ HB hb;clear hb ho26))
           go_ret2
           exact⟨_,rr_,kr_ HO404.out,bw HB.out⟩
          revert H
          refine iE_ (fun c27b0 c27b1 H=>?_) (fun c27 c27b0 c27b1 H=>?_)
          ·
           obtain⟨y405,hy405⟩:∃ y_:List Int,y_=(([127]:List Int)):=⟨_,rfl⟩
           rw[←hy405] at H
           have Ny405:=A_ hy405
           clear hy405
           simp only[Option.some.injEq,Prod.mk.injEq] at H
           obtain⟨rfl,rfl⟩:=H
           go_wp2_with (first|((with_reducible refine gd_ 32 rfl ?_);refine Kd.R_lit (Kd.int .i64) _ 3 ?hg (N:=32) ?hd (xs:=([127]:List Int)) (inner:=[.int .i64 127]) (ok:=fun _=>True) (okp:=fun _=>True) ?hr ?hp (fun _ hk=>hk) trivial (Below.refl _ _) (Nat.le_refl _) (by simp) ?_;(case hd=>rfl);(case hg=>rfl);(case hr=>first|(go_simp;done)|(go_simp;rfl));(case hp=>exact(Reps.one (show Kd.M (Kd.int .i64) _ _ _ 127 [.int .i64 127] from rfl) (Reps.none _ _)));intro v406 w28 ho29 hb hg_ hnew_;clear hg_ hnew_;(first|rw[←Ny405.out] at ho29|(simp only[Int.reduceToNat] at ho29;rw[←Ny405.out] at ho29));have HO407:=A_ (Kd.R_lower ho29 (below_size (bw HB.out)));replace HB:=bs_ HB hb;clear hb ho29))
           go_ret2
           exact⟨_,rr_,kr_ HO407.out,bw HB.out⟩
          revert H
          refine iE_ (fun c30b0 c30b1 H=>?_) (fun c30 c30b0 c30b1 H=>?_)
          ·
           obtain⟨y408,hy408⟩:∃ y_:List Int,y_=(([125]:List Int)):=⟨_,rfl⟩
           rw[←hy408] at H
           have Ny408:=A_ hy408
           clear hy408
           simp only[Option.some.injEq,Prod.mk.injEq] at H
           obtain⟨rfl,rfl⟩:=H
           go_wp2_with (first|((with_reducible refine gd_ 35 rfl ?_);refine Kd.R_lit (Kd.int .i64) _ 3 ?hg (N:=35) ?hd (xs:=([125]:List Int)) (inner:=[.int .i64 125]) (ok:=fun _=>True) (okp:=fun _=>True) ?hr ?hp (fun _ hk=>hk) trivial (Below.refl _ _) (Nat.le_refl _) (by simp) ?_;(case hd=>rfl);(case hg=>rfl);(case hr=>first|(go_simp;done)|(go_simp;rfl));(case hp=>exact(Reps.one (show Kd.M (Kd.int .i64) _ _ _ 125 [.int .i64 125] from rfl) (Reps.none _ _)));intro v409 w31 ho32 hb hg_ hnew_;clear hg_ hnew_;(first|rw[←Ny408.out] at ho32|(simp only[Int.reduceToNat] at ho32;rw[←Ny408.out] at ho32));have HO410:=A_ (Kd.R_lower ho32 (below_size (bw HB.out)));replace HB:=bs_ HB hb;clear hb ho32))
           go_ret2
           exact⟨_,rr_,kr_ HO410.out,bw HB.out⟩
          have HC33:=A_ H
          clear H
          go_upto_region 26 with (fail)
          go_cut [36] (fun v36 wc=>∃ (kq:Nat) (x36_32:Bool),v36=.bool x36_32∧Aside0 (impl_row.j3 kq a0 x36_32=some (r1,r2))∧Aside0 (kq≤kj18)∧Aside0 (Below w.heap.size w wc))
          case first=>
           have H:=HC33.out
           clear HC33
           revert H
           refine iL_ (fun c34b0 H=>?_) (fun c34b0 H=>?_)
           ·
            (first|rw[c34b0]|(simp only[i64_w,i32_w];rw[c34b0])|skip)
            have H':=A_ H
            clear H
            go_wp2
            go_meet
            case rel=>exact⟨_,(decide (a0≤169)),rs_,H',⟨by have:=HJ1.out;have:=HJ6.out;have:=HJ18.out;first|omega|exact Nat.le_refl _⟩,⟨bw HB.out⟩⟩
           (first|rw[c34b0]|(simp only[i64_w,i32_w];rw[c34b0])|skip)
           have H':=A_ H
           clear H
           go_wp2
           go_meet
           case rel=>exact⟨_,(false),rs_,H',⟨by have:=HJ1.out;have:=HJ6.out;have:=HJ18.out;first|omega|exact Nat.le_refl _⟩,⟨bw HB.out⟩⟩
          case rest=>
           clear HC33
           try clear c4 c10 c13 c13b0 c13b1 c16 c16b0 c16b1 c21 c22 c22b0 c22b1 c23 c23b0 c23b1 c24 c24b0 c24b1 c27 c27b0 c27b1 c30 c30b0 c30b1
           obtain⟨kq,x36_32,rfl,HA,HJ32,HB⟩:=hcut
           cases kq with
           |zero=>exact absurd HA.out (by simp[impl_row.j3])
           |succ kj32=>
            have H:=HA.out
            clear HA
            simp only[impl_row.j3] at H
            revert H
            refine iB_ (fun c35 H=>?_) (fun c35 H=>?_)<;>subst c35
            ·
             replace H:=Option.bind_eq_some_iff.mp H
             obtain⟨⟨t411,t412⟩,A360,H⟩:=H
             try dsimp only at H
             have A36:=A_ A360
             clear A360
             simp only[Option.some.injEq,Prod.mk.injEq] at H
             obtain⟨rfl,rfl⟩:=H
             go_wp2_with (first|((with_reducible refine gc_ 90 rfl ?_);refine goesL_ (some 45) rfl rfl Try.func90 (by kernel_rfl) rfl #[.int .i64 (wrap64 (a0 - 160))] rfl ar ?_;(with_reducible refine(impl_floatRow.calls (wrap64 (a0 - 160)) t411 t412 _ A36.out).mono ?_);rintro e w37 ⟨v413,rfl,ho0,hb⟩;refine⟨_,rfl,?_⟩;have HO414:=A_ (Kd.R_lower ho0 (below_size (bw HB.out)));replace HB:=bs_ HB hb;(try clear hb);(try clear hb2);(try clear hk);(try clear hi);(try clear ho0)))
             go_ret2
             exact⟨_,rr_,kr_ HO414.out,bw HB.out⟩
            have HC38:=A_ H
            clear H
            go_upto_region 28 with (fail)
            go_cut [48] (fun v48 wc=>∃ (kq:Nat) (x48_37:Bool),v48=.bool x48_37∧Aside0 (impl_row.j4 kq a0 x48_37=some (r1,r2))∧Aside0 (kq≤kj32)∧Aside0 (Below w.heap.size w wc))
            case first=>
             have H:=HC38.out
             clear HC38
             revert H
             refine iL_ (fun c39b0 H=>?_) (fun c39b0 H=>?_)
             ·
              (first|rw[c39b0]|(simp only[i64_w,i32_w];rw[c39b0])|skip)
              have H':=A_ H
              clear H
              go_wp2
              go_meet
              case rel=>exact⟨_,(decide (a0≤155)),rs_,H',⟨by have:=HJ1.out;have:=HJ6.out;have:=HJ18.out;have:=HJ32.out;first|omega|exact Nat.le_refl _⟩,⟨bw HB.out⟩⟩
             (first|rw[c39b0]|(simp only[i64_w,i32_w];rw[c39b0])|skip)
             have H':=A_ H
             clear H
             go_wp2
             go_meet
             case rel=>exact⟨_,(false),rs_,H',⟨by have:=HJ1.out;have:=HJ6.out;have:=HJ18.out;have:=HJ32.out;first|omega|exact Nat.le_refl _⟩,⟨bw HB.out⟩⟩
            case rest=>
             clear HC38
             try clear c4 c10 c13 c13b0 c13b1 c16 c16b0 c16b1 c21 c22 c22b0 c22b1 c23 c23b0 c23b1 c24 c24b0 c24b1 c27 c27b0 c27b1 c30 c30b0 c30b1 c35
             obtain⟨kq,x48_37,rfl,HA,HJ37,HB⟩:=hcut
             cases kq with
             |zero=>exact absurd HA.out (by simp[impl_row.j4])
             |succ kj37=>
              have H:=HA.out
              clear HA
              simp only[impl_row.j4] at H
              revert H
              refine iB_ (fun c40 H=>?_) (fun c40 H=>?_)<;>subst c40
              ·
               replace H:=Option.bind_eq_some_iff.mp H
               obtain⟨⟨t415,t416⟩,A410,H⟩:=H
               try dsimp only at H
               have A41:=A_ A410
               clear A410
               simp only[Option.some.injEq,Prod.mk.injEq] at H
               obtain⟨rfl,rfl⟩:=H
               go_wp2_with (first|((with_reducible refine gc_ 91 rfl ?_);refine goesL_ (some 57) rfl rfl Try.func91 (by kernel_rfl) rfl #[.int .i64 126,.int .i64 (wrap64 (a0 - 128))] rfl ar ?_;(with_reducible refine(impl_intRow.calls kj37 126 (wrap64 (a0 - 128)) t415 t416 _ A41.out).mono ?_);rintro e w42 ⟨v417,rfl,ho0,hb⟩;refine⟨_,rfl,?_⟩;have HO418:=A_ (Kd.R_lower ho0 (below_size (bw HB.out)));replace HB:=bs_ HB hb;(try clear hb);(try clear hb2);(try clear hk);(try clear hi);(try clear ho0)))
               go_ret2
               exact⟨_,rr_,kr_ HO418.out,bw HB.out⟩
              revert H
              refine iL_ (fun c43b0 H=>?_) (fun c43b0 H=>?_)
              ·
               revert H
               refine iL_ (fun c44b0 H=>?_) (fun c44b0 H=>?_)
               ·
                replace H:=Option.bind_eq_some_iff.mp H
                obtain⟨⟨t419,t420⟩,A450,H⟩:=H
                try dsimp only at H
                have A45:=A_ A450
                clear A450
                simp only[Option.some.injEq,Prod.mk.injEq] at H
                obtain⟨rfl,rfl⟩:=H
                go_wp2_with (first|((with_reducible refine gc_ 91 rfl ?_);refine goesL_ (some 69) rfl rfl Try.func91 (by kernel_rfl) rfl #[.int .i64 127,.int .i64 (wrap64 (a0 - 96))] rfl ar ?_;(with_reducible refine(impl_intRow.calls kj37 127 (wrap64 (a0 - 96)) t419 t420 _ A45.out).mono ?_);rintro e w46 ⟨v421,rfl,ho0,hb⟩;refine⟨_,rfl,?_⟩;have HO422:=A_ (Kd.R_lower ho0 (below_size (bw HB.out)));replace HB:=bs_ HB hb;(try clear hb);(try clear hb2);(try clear hk);(try clear hi);(try clear ho0)))
                go_ret2
                exact⟨_,rr_,kr_ HO422.out,bw HB.out⟩
               simp only[Option.some.injEq,Prod.mk.injEq] at H
               obtain⟨rfl,rfl⟩:=H
               go_wp2
               go_ret2
               exact⟨_,rr_,by first|exact Kd.R_nil _ _ _ _ _|exact Kd.N_nil _ _ _ _ _|exact Kd.V_nil _ _ _ _ _|exact Kd.Q_nil _ _ _ _ _|exact Kd.S_nil _ _ _ _ _,bw HB.out⟩
              simp only[Option.some.injEq,Prod.mk.injEq] at H
              obtain⟨rfl,rfl⟩:=H
              go_wp2
              go_ret2
              exact⟨_,rr_,by first|exact Kd.R_nil _ _ _ _ _|exact Kd.N_nil _ _ _ _ _|exact Kd.V_nil _ _ _ _ _|exact Kd.Q_nil _ _ _ _ _|exact Kd.S_nil _ _ _ _ _,bw HB.out⟩
         rw[if_pos c23] at H
         obtain⟨c23b0,c23b1⟩:=eT_ c23
         clear c23
         simp only[Option.some.injEq,Prod.mk.injEq] at H
         obtain⟨rfl,rfl⟩:=H
       all_goals
        go_wp2
        go_ret2
        exact⟨_,rr_,by first|exact Kd.R_nil _ _ _ _ _|exact Kd.N_nil _ _ _ _ _|exact Kd.V_nil _ _ _ _ _|exact Kd.Q_nil _ _ _ _ _|exact Kd.S_nil _ _ _ _ _,bw HB.out⟩
end Go.Proofs.Ytanhbfhmgmjdgaa.Q

