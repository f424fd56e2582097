-- Written by a program of this session; it walks the functions that the law reaches.
import Derived.Test.YtghogonibanieaaQx0
import Derived.Test.YtghogonibanieaaQx9
namespace Go.Proofs.Ytghogonibanieaa.Q
open Go.RowKit Go.Proofs.YtghogonibanieaaW.PrintWords Go.Proofs.YtghogonibanieaaW.PrintLast Go.Proofs.YtghogonibanieaaW.PrintMore
attribute [local go_sem] max2_int min2_int max_two min_two max_three min_three max_four min_four   -- for this text's walks alone
set_option linter.unusedVariables false
set_option linter.unusedSimpArgs false
set_option maxRecDepth 100000
set_option maxHeartbeats 8000000

/-! ### impl_formOf: function 76 -/
mutual
def impl_formOf.j0:Nat→Int→Int→Bool→Option (Int)
 |0,_,_,_=>none
 |k+1,x0,x3,x4=>if x4=true then (some 2) else (if x3=12 then (impl_formOf.j1 k x0 x3 (x3==12)) else (if x3=13 then (impl_formOf.j1 k x0 x3 (x3==13)) else (if x3=16 then (impl_formOf.j1 k x0 x3 (x3==16)) else (if x3=32 then (impl_formOf.j1 k x0 x3 (x3==32)) else (if x3=33 then (impl_formOf.j1 k x0 x3 (x3==33)) else (if x3=34 then (impl_formOf.j1 k x0 x3 (x3==34)) else (if x3=35 then (impl_formOf.j1 k x0 x3 (x3==35)) else (impl_formOf.j1 k x0 x3 (x3==36)))))))))
def impl_formOf.j1:Nat→Int→Int→Bool→Option (Int)
 |0,_,_,_=>none
 |k+1,x0,x3,x8=>if x8=true then (some 3) else (if x3=40 then (impl_formOf.j2 k x0 x3 (x3==40)) else (if x3=41 then (impl_formOf.j2 k x0 x3 (x3==41)) else (if x3=54 then (impl_formOf.j2 k x0 x3 (x3==54)) else (impl_formOf.j2 k x0 x3 (x3==55)))))
def impl_formOf.j2:Nat→Int→Int→Bool→Option (Int)
 |0,_,_,_=>none
 |k+1,x0,x3,x17=>if x17=true then (some 4) else (if x3=65 then (some 5) else (if x3=66 then (some 6) else (if x3=67 then (some 7) else (if x3=0 then (impl_formOf.j3 k x0 (x3==0)) else (if x3=1 then (impl_formOf.j3 k x0 (x3==1)) else (if x3=5 then (impl_formOf.j3 k x0 (x3==5)) else (if x3=11 then (impl_formOf.j3 k x0 (x3==11)) else (if x3=15 then (impl_formOf.j3 k x0 (x3==15)) else (if x3=26 then (impl_formOf.j3 k x0 (x3==26)) else (if x3=27 then (impl_formOf.j3 k x0 (x3==27)) else (if x3=63 then (impl_formOf.j3 k x0 (x3==63)) else (if x3=64 then (impl_formOf.j3 k x0 (x3==64)) else (if x3=176 then (impl_formOf.j3 k x0 (x3==176)) else (if x3=177 then (impl_formOf.j3 k x0 (x3==177)) else (if x3=178 then (impl_formOf.j3 k x0 (x3==178)) else (if x3=179 then (impl_formOf.j3 k x0 (x3==179)) else (impl_formOf.j3 k x0 (x3==180))))))))))))))))))
def impl_formOf.j3:Nat→Int→Bool→Option (Int)
 |0,_,_=>none
 |k+1,x0,x28=>if x28=true then (some 1) else (if x0 > 96 then (if x0≤123 then (some 1) else (if x0 > 128 then (if x0≤155 then (some 1) else (if x0 > 160 then (if x0≤169 then (some 1) else (some 0)) else (some 0))) else (if x0 > 160 then (if x0≤169 then (some 1) else (some 0)) else (some 0)))) else (if x0 > 128 then (if x0≤155 then (some 1) else (if x0 > 160 then (if x0≤169 then (some 1) else (some 0)) else (some 0))) else (if x0 > 160 then (if x0≤169 then (some 1) else (some 0)) else (some 0))))
end
def impl_formOf.f (k:Nat) (a0:Int):Option (Int):=if a0=2 then (impl_formOf.j0 k a0 a0 (a0==2)) else (if a0=3 then (impl_formOf.j0 k a0 a0 (a0==3)) else (impl_formOf.j0 k a0 a0 (a0==4)))
theorem impl_formOf.mono_l:∀ k,(∀ y0 y1 y2,LeO (impl_formOf.j0 k y0 y1 y2) (impl_formOf.j0 (k+1) y0 y1 y2))∧(∀ y0 y1 y2,LeO (impl_formOf.j1 k y0 y1 y2) (impl_formOf.j1 (k+1) y0 y1 y2))∧(∀ y0 y1 y2,LeO (impl_formOf.j2 k y0 y1 y2) (impl_formOf.j2 (k+1) y0 y1 y2))∧(∀ y0 y1,LeO (impl_formOf.j3 k y0 y1) (impl_formOf.j3 (k+1) y0 y1))
 |0=>⟨fun _ _ _ r h=>by simp[impl_formOf.j0] at h,fun _ _ _ r h=>by simp[impl_formOf.j1] at h,fun _ _ _ r h=>by simp[impl_formOf.j2] at h,fun _ _ r h=>by simp[impl_formOf.j3] at h⟩
 |k+1=>by
  obtain⟨ih0,ih1,ih2,ih3⟩:=impl_formOf.mono_l k
  refine⟨?_,?_,?_,?_⟩
  ·
   intro y0 y1 y2
   unfold impl_formOf.j0
   repeat' first
   |(with_reducible exact ih0 _ _ _)
   |(with_reducible exact ih1 _ _ _)
   |(with_reducible exact ih2 _ _ _)
   |(with_reducible exact ih3 _ _)
   |(with_reducible exact LeO.refl _)
   |(with_reducible exact LeO.none _)
   |(with_reducible refine LeO.ite ?_ ?_)
   |(with_reducible refine LeO.bind ?_ (fun _=>?_))
   |exact ih0 _ _ _
   |exact ih1 _ _ _
   |exact ih2 _ _ _
   |exact ih3 _ _
   |exact LeO.none _
   |refine LeO.ite ?_ ?_
   |refine LeO.bind ?_ (fun _=>?_)
  ·
   intro y0 y1 y2
   unfold impl_formOf.j1
   repeat' first
   |(with_reducible exact ih0 _ _ _)
   |(with_reducible exact ih1 _ _ _)
   |(with_reducible exact ih2 _ _ _)
   |(with_reducible exact ih3 _ _)
   |(with_reducible exact LeO.refl _)
   |(with_reducible exact LeO.none _)
   |(with_reducible refine LeO.ite ?_ ?_)
   |(with_reducible refine LeO.bind ?_ (fun _=>?_))
   |exact ih0 _ _ _
   |exact ih1 _ _ _
   |exact ih2 _ _ _
   |exact ih3 _ _
   |exact LeO.none _
   |refine LeO.ite ?_ ?_
   |refine LeO.bind ?_ (fun _=>?_)
  ·
   intro y0 y1 y2
   unfold impl_formOf.j2
   repeat' first
   |(with_reducible exact ih0 _ _ _)
   |(with_reducible exact ih1 _ _ _)
   |(with_reducible exact ih2 _ _ _)
   |(with_reducible exact ih3 _ _)
   |(with_reducible exact LeO.refl _)
   |(with_reducible exact LeO.none _)
   |(with_reducible refine LeO.ite ?_ ?_)
   |(with_reducible refine LeO.bind ?_ (fun _=>?_))
   |exact ih0 _ _ _
   |exact ih1 _ _ _
   |exact ih2 _ _ _
   |exact ih3 _ _
   |exact LeO.none _
   |refine LeO.ite ?_ ?_
   |refine LeO.bind ?_ (fun _=>?_)
  intro y0 y1
  unfold impl_formOf.j3
  repeat' first
  |(with_reducible exact ih0 _ _ _)
  |(with_reducible exact ih1 _ _ _)
  |(with_reducible exact ih2 _ _ _)
  |(with_reducible exact ih3 _ _)
  |(with_reducible exact LeO.refl _)
  |(with_reducible exact LeO.none _)
  |(with_reducible refine LeO.ite ?_ ?_)
  |(with_reducible refine LeO.bind ?_ (fun _=>?_))
  |exact ih0 _ _ _
  |exact ih1 _ _ _
  |exact ih2 _ _ _
  |exact ih3 _ _
  |exact LeO.none _
  |refine LeO.ite ?_ ?_
  |refine LeO.bind ?_ (fun _=>?_)
theorem impl_formOf.mono:∀ a0 k,LeO (impl_formOf.f k a0) (impl_formOf.f (k+1) a0):=by
 intro a0 k
 obtain⟨ih0,ih1,ih2,ih3⟩:=impl_formOf.mono_l k
 unfold impl_formOf.f
 repeat' first
   |(with_reducible exact ih0 _ _ _)
   |(with_reducible exact ih1 _ _ _)
   |(with_reducible exact ih2 _ _ _)
   |(with_reducible exact ih3 _ _)
   |(with_reducible exact LeO.refl _)
   |(with_reducible exact LeO.none _)
   |(with_reducible refine LeO.ite ?_ ?_)
   |(with_reducible refine LeO.bind ?_ (fun _=>?_))
   |exact ih0 _ _ _
   |exact ih1 _ _ _
   |exact ih2 _ _ _
   |exact ih3 _ _
   |exact LeO.none _
   |refine LeO.ite ?_ ?_
   |refine LeO.bind ?_ (fun _=>?_)
theorem impl_formOf.calls (k:Nat) (a0:Int) (r:Int) (w:World) (h:impl_formOf.f k a0=some r):
  Calls Try.prog 76 #[.int .i64 a0] w fun e w'=>e=.returned (.int .i64 r)∧Drawn0 w w':=by
 have H:(if a0=2 then (impl_formOf.j0 k a0 a0 (a0==2)) else (if a0=3 then (impl_formOf.j0 k a0 a0 (a0==3)) else (impl_formOf.j0 k a0 a0 (a0==4))))=some r:=h
 clear h
 have HC2:=A_ H
 clear H
 go_enter Try.func76,Try.ntmps76
 go_upto_if 4 with (fail)
 go_cut [4] (fun v4 wc=>∃ (kq:Nat) (x4_1:Bool),v4=.bool x4_1∧Aside0 (impl_formOf.j0 kq a0 a0 x4_1=some r)∧Aside0 (kq≤k)∧Drawn0 w wc)
 case first=>
  have H:=HC2.out
  clear HC2
  by_cases c3:a0=2
  ·
   rw[if_pos c3] at H
   obtain⟨c3b0,c3b1⟩:=eT_ c3
   clear c3
   (first|rw[c3b0]|(simp only[i64_w,i32_w];rw[c3b0])|skip)
   have H':=A_ H
   clear H
   go_wp2
   go_meet
   case rel=>exact⟨_,((a0==2)),rs_,H',⟨by first|omega|exact Nat.le_refl _⟩,dr_⟩
  rw[if_neg c3] at H
  obtain⟨c3b0,c3b1⟩:=eF_ c3
  (first|rw[c3b0]|(simp only[i64_w,i32_w];rw[c3b0])|skip)
  by_cases c4:a0=3
  ·
   rw[if_pos c4] at H
   obtain⟨c4b0,c4b1⟩:=eT_ c4
   clear c4
   have H':=A_ H
   clear H
   go_wp2
   go_meet
   case rel=>exact⟨_,((a0==3)),rs_,H',⟨by first|omega|exact Nat.le_refl _⟩,dr_⟩
  rw[if_neg c4] at H
  obtain⟨c4b0,c4b1⟩:=eF_ c4
  have H':=A_ H
  clear H
  go_wp2
  go_meet
  case rel=>exact⟨_,((a0==4)),rs_,H',⟨by first|omega|exact Nat.le_refl _⟩,dr_⟩
 case rest=>
  clear HC2
  obtain⟨kq,x4_1,rfl,HA,HJ1,⟨mc1,rfl⟩⟩:=hcut
  cases kq with
  |zero=>exact absurd HA.out (by simp[impl_formOf.j0])
  |succ kj1=>
   have H:=HA.out
   clear HA
   simp only[impl_formOf.j0] at H
   by_cases c5:x4_1=true
   ·
    subst c5
    replace H:=iT_ H
    obtain rfl:=Option.some.inj H
    clear H
    go_wp2
    go_ret
    exact⟨rs_,dr_⟩
   replace c5:=Bool.eq_false_iff.mpr c5
   subst c5
   replace H:=iF_ H
   have HC6:=A_ H
   clear H
   go_upto_if 8 with (fail)
   go_cut [8] (fun v8 wc=>∃ (kq:Nat) (x8_5:Bool),v8=.bool x8_5∧Aside0 (impl_formOf.j1 kq a0 a0 x8_5=some r)∧Aside0 (kq≤kj1)∧Drawn0 w wc)
   case first=>
    have H:=HC6.out
    clear HC6
    by_cases c7:a0=12
    ·
     rw[if_pos c7] at H
     obtain⟨c7b0,c7b1⟩:=eT_ c7
     clear c7
     (first|rw[c7b0]|(simp only[i64_w,i32_w];rw[c7b0])|skip)
     have H':=A_ H
     clear H
     go_wp2
     go_meet
     case rel=>exact⟨_,((a0==12)),rs_,H',⟨by have:=HJ1.out;first|omega|exact Nat.le_refl _⟩,dr_⟩
    rw[if_neg c7] at H
    obtain⟨c7b0,c7b1⟩:=eF_ c7
    (first|rw[c7b0]|(simp only[i64_w,i32_w];rw[c7b0])|skip)
    by_cases c8:a0=13
    ·
     rw[if_pos c8] at H
     obtain⟨c8b0,c8b1⟩:=eT_ c8
     clear c8
     have H':=A_ H
     clear H
     go_wp2
     go_meet
     case rel=>exact⟨_,((a0==13)),rs_,H',⟨by have:=HJ1.out;first|omega|exact Nat.le_refl _⟩,dr_⟩
    rw[if_neg c8] at H
    obtain⟨c8b0,c8b1⟩:=eF_ c8
    by_cases c9:a0=16
    ·
     rw[if_pos c9] at H
     obtain⟨c9b0,c9b1⟩:=eT_ c9
     clear c9
     have H':=A_ H
     clear H
     go_wp2
     go_meet
     case rel=>exact⟨_,((a0==16)),rs_,H',⟨by have:=HJ1.out;first|omega|exact Nat.le_refl _⟩,dr_⟩
    rw[if_neg c9] at H
    obtain⟨c9b0,c9b1⟩:=eF_ c9
    by_cases c10:a0=32
    ·
     rw[if_pos c10] at H
     obtain⟨c10b0,c10b1⟩:=eT_ c10
     clear c10
     have H':=A_ H
     clear H
     go_wp2
     go_meet
     case rel=>exact⟨_,((a0==32)),rs_,H',⟨by have:=HJ1.out;first|omega|exact Nat.le_refl _⟩,dr_⟩
    rw[if_neg c10] at H
    obtain⟨c10b0,c10b1⟩:=eF_ c10
    by_cases c11:a0=33
    ·
     rw[if_pos c11] at H
     obtain⟨c11b0,c11b1⟩:=eT_ c11
     clear c11
     have H':=A_ H
     clear H
     go_wp2
     go_meet
     case rel=>exact⟨_,((a0==33)),rs_,H',⟨by have:=HJ1.out;first|omega|exact Nat.le_refl _⟩,dr_⟩
    rw[if_neg c11] at H
    obtain⟨c11b0,c11b1⟩:=eF_ c11
    by_cases c12:a0=34
    ·
     rw[if_pos c12] at H
     obtain⟨c12b0,c12b1⟩:=eT_ c12
     clear c12
     have H':=A_ H
     clear H
     go_wp2
     go_meet
     case rel=>exact⟨_,((a0==34)),rs_,H',⟨by have:=HJ1.out;first|omega|exact Nat.le_refl _⟩,dr_⟩
    rw[if_neg c12] at H
    obtain⟨c12b0,c12b1⟩:=eF_ c12
    by_cases c13:a0=35
    ·
     rw[if_pos c13] at H
     obtain⟨c13b0,c13b1⟩:=eT_ c13
     clear c13
     have H':=A_ H
     clear H
     go_wp2
     go_meet
     case rel=>exact⟨_,((a0==35)),rs_,H',⟨by have:=HJ1.out;first|omega|exact Nat.le_refl _⟩,dr_⟩
    rw[if_neg c13] at H
    obtain⟨c13b0,c13b1⟩:=eF_ c13
    have H':=A_ H
    clear H
    go_wp2
    go_meet
    case rel=>exact⟨_,((a0==36)),rs_,H',⟨by have:=HJ1.out;first|omega|exact Nat.le_refl _⟩,dr_⟩
   case rest=>
    clear HC6
    try clear c5
    obtain⟨kq,x8_5,rfl,HA,HJ5,⟨mc5,rfl⟩⟩:=hcut
    cases kq with
    |zero=>exact absurd HA.out (by simp[impl_formOf.j1])
    |succ kj5=>
     have H:=HA.out
     clear HA
     simp only[impl_formOf.j1] at H
     by_cases c14:x8_5=true
     ·
      subst c14
      replace H:=iT_ H
      obtain rfl:=Option.some.inj H
      clear H
      go_wp2
      go_ret
      exact⟨rs_,dr_⟩
     replace c14:=Bool.eq_false_iff.mpr c14
     subst c14
     replace H:=iF_ H
     have HC15:=A_ H
     clear H
     go_upto_if 17 with (fail)
     go_cut [17] (fun v17 wc=>∃ (kq:Nat) (x17_14:Bool),v17=.bool x17_14∧Aside0 (impl_formOf.j2 kq a0 a0 x17_14=some r)∧Aside0 (kq≤kj5)∧Drawn0 w wc)
     case first=>
      have H:=HC15.out
      clear HC15
      by_cases c16:a0=40
      ·
       rw[if_pos c16] at H
       obtain⟨c16b0,c16b1⟩:=eT_ c16
       clear c16
       (first|rw[c16b0]|(simp only[i64_w,i32_w];rw[c16b0])|skip)
       have H':=A_ H
       clear H
       go_wp2
       go_meet
       case rel=>exact⟨_,((a0==40)),rs_,H',⟨by have:=HJ1.out;have:=HJ5.out;first|omega|exact Nat.le_refl _⟩,dr_⟩
      rw[if_neg c16] at H
      obtain⟨c16b0,c16b1⟩:=eF_ c16
      (first|rw[c16b0]|(simp only[i64_w,i32_w];rw[c16b0])|skip)
      by_cases c17:a0=41
      ·
       rw[if_pos c17] at H
       obtain⟨c17b0,c17b1⟩:=eT_ c17
       clear c17
       have H':=A_ H
       clear H
       go_wp2
       go_meet
       case rel=>exact⟨_,((a0==41)),rs_,H',⟨by have:=HJ1.out;have:=HJ5.out;first|omega|exact Nat.le_refl _⟩,dr_⟩
      rw[if_neg c17] at H
      obtain⟨c17b0,c17b1⟩:=eF_ c17
      by_cases c18:a0=54
      ·
       rw[if_pos c18] at H
       obtain⟨c18b0,c18b1⟩:=eT_ c18
       clear c18
       have H':=A_ H
       clear H
       go_wp2
       go_meet
       case rel=>exact⟨_,((a0==54)),rs_,H',⟨by have:=HJ1.out;have:=HJ5.out;first|omega|exact Nat.le_refl _⟩,dr_⟩
      rw[if_neg c18] at H
      obtain⟨c18b0,c18b1⟩:=eF_ c18
      have H':=A_ H
      clear H
      go_wp2
      go_meet
      case rel=>exact⟨_,((a0==55)),rs_,H',⟨by have:=HJ1.out;have:=HJ5.out;first|omega|exact Nat.le_refl _⟩,dr_⟩
     case rest=>
      clear HC15
      try clear c5 c14
      obtain⟨kq,x17_14,rfl,HA,HJ14,⟨mc14,rfl⟩⟩:=hcut
      cases kq with
      |zero=>exact absurd HA.out (by simp[impl_formOf.j2])
      |succ kj14=>
       have H:=HA.out
       clear HA
       simp only[impl_formOf.j2] at H
       by_cases c19:x17_14=true
       ·
        subst c19
        replace H:=iT_ H
        obtain rfl:=Option.some.inj H
        clear H
        go_wp2
        go_ret
        exact⟨rs_,dr_⟩
       replace c19:=Bool.eq_false_iff.mpr c19
       subst c19
       replace H:=iF_ H
       by_cases c20:a0=65
       ·
        rw[if_pos c20] at H
        obtain⟨c20b0,c20b1⟩:=eT_ c20
        clear c20
        obtain rfl:=Option.some.inj H
        clear H
        go_wp2
        go_ret
        exact⟨rs_,dr_⟩
       rw[if_neg c20] at H
       obtain⟨c20b0,c20b1⟩:=eF_ c20
       by_cases c21:a0=66
       ·
        rw[if_pos c21] at H
        obtain⟨c21b0,c21b1⟩:=eT_ c21
        clear c21
        obtain rfl:=Option.some.inj H
        clear H
        go_wp2
        go_ret
        exact⟨rs_,dr_⟩
       rw[if_neg c21] at H
       obtain⟨c21b0,c21b1⟩:=eF_ c21
       by_cases c22:a0=67
       ·
        rw[if_pos c22] at H
        obtain⟨c22b0,c22b1⟩:=eT_ c22
        clear c22
        obtain rfl:=Option.some.inj H
        clear H
        go_wp2
        go_ret
        exact⟨rs_,dr_⟩
       rw[if_neg c22] at H
       obtain⟨c22b0,c22b1⟩:=eF_ c22
       have HC23:=A_ H
       clear H
       go_upto_if 28 with (fail)
       go_cut [28] (fun v28 wc=>∃ (kq:Nat) (x28_22:Bool),v28=.bool x28_22∧Aside0 (impl_formOf.j3 kq a0 x28_22=some r)∧Aside0 (kq≤kj14)∧Drawn0 w wc)
       case first=>
        have H:=HC23.out
        clear HC23
        by_cases c24:a0=0
        ·
         rw[if_pos c24] at H
         obtain⟨c24b0,c24b1⟩:=eT_ c24
         clear c24
         (first|rw[c24b0]|(simp only[i64_w,i32_w];rw[c24b0])|skip)
         have H':=A_ H
         clear H
         go_wp2
         go_meet
         case rel=>exact⟨_,((a0==0)),rs_,H',⟨by have:=HJ1.out;have:=HJ5.out;have:=HJ14.out;first|omega|exact Nat.le_refl _⟩,dr_⟩
        rw[if_neg c24] at H
        obtain⟨c24b0,c24b1⟩:=eF_ c24
        (first|rw[c24b0]|(simp only[i64_w,i32_w];rw[c24b0])|skip)
        by_cases c25:a0=1
        ·
         rw[if_pos c25] at H
         obtain⟨c25b0,c25b1⟩:=eT_ c25
         clear c25
         have H':=A_ H
         clear H
         go_wp2
         go_meet
         case rel=>exact⟨_,((a0==1)),rs_,H',⟨by have:=HJ1.out;have:=HJ5.out;have:=HJ14.out;first|omega|exact Nat.le_refl _⟩,dr_⟩
        rw[if_neg c25] at H
        obtain⟨c25b0,c25b1⟩:=eF_ c25
        by_cases c26:a0=5
        ·
         rw[if_pos c26] at H
         obtain⟨c26b0,c26b1⟩:=eT_ c26
         clear c26
         have H':=A_ H
         clear H
         go_wp2
         go_meet
         case rel=>exact⟨_,((a0==5)),rs_,H',⟨by have:=HJ1.out;have:=HJ5.out;have:=HJ14.out;first|omega|exact Nat.le_refl _⟩,dr_⟩
        rw[if_neg c26] at H
        obtain⟨c26b0,c26b1⟩:=eF_ c26
        by_cases c27:a0=11
        ·
         rw[if_pos c27] at H
         obtain⟨c27b0,c27b1⟩:=eT_ c27
         clear c27
         have H':=A_ H
         clear H
         go_wp2
         go_meet
         case rel=>exact⟨_,((a0==11)),rs_,H',⟨by have:=HJ1.out;have:=HJ5.out;have:=HJ14.out;first|omega|exact Nat.le_refl _⟩,dr_⟩
        rw[if_neg c27] at H
        obtain⟨c27b0,c27b1⟩:=eF_ c27
        by_cases c28:a0=15
        ·
         rw[if_pos c28] at H
         obtain⟨c28b0,c28b1⟩:=eT_ c28
         clear c28
         have H':=A_ H
         clear H
         go_wp2
         go_meet
         case rel=>exact⟨_,((a0==15)),rs_,H',⟨by have:=HJ1.out;have:=HJ5.out;have:=HJ14.out;first|omega|exact Nat.le_refl _⟩,dr_⟩
        rw[if_neg c28] at H
        obtain⟨c28b0,c28b1⟩:=eF_ c28
        by_cases c29:a0=26
        ·
         rw[if_pos c29] at H
         obtain⟨c29b0,c29b1⟩:=eT_ c29
         clear c29
         have H':=A_ H
         clear H
         go_wp2
         go_meet
         case rel=>exact⟨_,((a0==26)),rs_,H',⟨by have:=HJ1.out;have:=HJ5.out;have:=HJ14.out;first|omega|exact Nat.le_refl _⟩,dr_⟩
        rw[if_neg c29] at H
        obtain⟨c29b0,c29b1⟩:=eF_ c29
        by_cases c30:a0=27
        ·
         rw[if_pos c30] at H
         obtain⟨c30b0,c30b1⟩:=eT_ c30
         clear c30
         have H':=A_ H
         clear H
         go_wp2
         go_meet
         case rel=>exact⟨_,((a0==27)),rs_,H',⟨by have:=HJ1.out;have:=HJ5.out;have:=HJ14.out;first|omega|exact Nat.le_refl _⟩,dr_⟩
        rw[if_neg c30] at H
        obtain⟨c30b0,c30b1⟩:=eF_ c30
        by_cases c31:a0=63
        ·
         rw[if_pos c31] at H
         obtain⟨c31b0,c31b1⟩:=eT_ c31
         clear c31
         have H':=A_ H
         clear H
         go_wp2
         go_meet
         case rel=>exact⟨_,((a0==63)),rs_,H',⟨by have:=HJ1.out;have:=HJ5.out;have:=HJ14.out;first|omega|exact Nat.le_refl _⟩,dr_⟩
        rw[if_neg c31] at H
        obtain⟨c31b0,c31b1⟩:=eF_ c31
        by_cases c32:a0=64
        ·
         rw[if_pos c32] at H
         obtain⟨c32b0,c32b1⟩:=eT_ c32
         clear c32
         have H':=A_ H
         clear H
         go_wp2
         go_meet
         case rel=>exact⟨_,((a0==64)),rs_,H',⟨by have:=HJ1.out;have:=HJ5.out;have:=HJ14.out;first|omega|exact Nat.le_refl _⟩,dr_⟩
        rw[if_neg c32] at H
        obtain⟨c32b0,c32b1⟩:=eF_ c32
        by_cases c33:a0=176
        ·
         rw[if_pos c33] at H
         obtain⟨c33b0,c33b1⟩:=eT_ c33
         clear c33
         have H':=A_ H
         clear H
         go_wp2
         go_meet
         case rel=>exact⟨_,((a0==176)),rs_,H',⟨by have:=HJ1.out;have:=HJ5.out;have:=HJ14.out;first|omega|exact Nat.le_refl _⟩,dr_⟩
        rw[if_neg c33] at H
        obtain⟨c33b0,c33b1⟩:=eF_ c33
        by_cases c34:a0=177
        ·
         rw[if_pos c34] at H
         obtain⟨c34b0,c34b1⟩:=eT_ c34
         clear c34
         have H':=A_ H
         clear H
         go_wp2
         go_meet
         case rel=>exact⟨_,((a0==177)),rs_,H',⟨by have:=HJ1.out;have:=HJ5.out;have:=HJ14.out;first|omega|exact Nat.le_refl _⟩,dr_⟩
        rw[if_neg c34] at H
        obtain⟨c34b0,c34b1⟩:=eF_ c34
        by_cases c35:a0=178
        ·
         rw[if_pos c35] at H
         obtain⟨c35b0,c35b1⟩:=eT_ c35
         clear c35
         have H':=A_ H
         clear H
         go_wp2
         go_meet
         case rel=>exact⟨_,((a0==178)),rs_,H',⟨by have:=HJ1.out;have:=HJ5.out;have:=HJ14.out;first|omega|exact Nat.le_refl _⟩,dr_⟩
        rw[if_neg c35] at H
        obtain⟨c35b0,c35b1⟩:=eF_ c35
        by_cases c36:a0=179
        ·
         rw[if_pos c36] at H
         obtain⟨c36b0,c36b1⟩:=eT_ c36
         clear c36
         have H':=A_ H
         clear H
         go_wp2
         go_meet
         case rel=>exact⟨_,((a0==179)),rs_,H',⟨by have:=HJ1.out;have:=HJ5.out;have:=HJ14.out;first|omega|exact Nat.le_refl _⟩,dr_⟩
        rw[if_neg c36] at H
        obtain⟨c36b0,c36b1⟩:=eF_ c36
        have H':=A_ H
        clear H
        go_wp2
        go_meet
        case rel=>exact⟨_,((a0==180)),rs_,H',⟨by have:=HJ1.out;have:=HJ5.out;have:=HJ14.out;first|omega|exact Nat.le_refl _⟩,dr_⟩
       case rest=>
        clear HC23
        try clear c5 c14 c19 c20 c20b0 c20b1 c21 c21b0 c21b1 c22 c22b0 c22b1
        obtain⟨kq,x28_22,rfl,HA,HJ22,⟨mc22,rfl⟩⟩:=hcut
        cases kq with
        |zero=>exact absurd HA.out (by simp[impl_formOf.j3])
        |succ kj22=>
         have H:=HA.out
         clear HA
         simp only[impl_formOf.j3] at H
         by_cases c37:x28_22=true
         ·
          subst c37
          replace H:=iT_ H
          obtain rfl:=Option.some.inj H
          clear H
          go_wp2
          go_ret
          exact⟨rs_,dr_⟩
         replace c37:=Bool.eq_false_iff.mpr c37
         subst c37
         replace H:=iF_ H
         by_cases c38:a0 > 96
         ·
          rw[if_pos c38] at H
          have c38b0:=decide_eq_true c38
          clear c38
          by_cases c39:a0≤123
          ·
           rw[if_pos c39] at H
           have c39b0:=decide_eq_true c39
           clear c39
           obtain rfl:=Option.some.inj H
           clear H
           go_wp2
           go_ret
           exact⟨rs_,dr_⟩
          rw[if_neg c39] at H
          have c39b0:=decide_eq_false c39
          clear c39
          by_cases c40:a0 > 128
          ·
           rw[if_pos c40] at H
           have c40b0:=decide_eq_true c40
           clear c40
           by_cases c41:a0≤155
           ·
            rw[if_pos c41] at H
            have c41b0:=decide_eq_true c41
            clear c41
            obtain rfl:=Option.some.inj H
            clear H
            go_wp2
            go_ret
            exact⟨rs_,dr_⟩
           rw[if_neg c41] at H
           have c41b0:=decide_eq_false c41
           clear c41
           by_cases c42:a0 > 160
           ·
            rw[if_pos c42] at H
            have c42b0:=decide_eq_true c42
            clear c42
            by_cases c43:a0≤169
            ·
             rw[if_pos c43] at H
             have c43b0:=decide_eq_true c43
             clear c43
             obtain rfl:=Option.some.inj H
             clear H
             go_wp2
             go_ret
             exact⟨rs_,dr_⟩
            rw[if_neg c43] at H
            have c43b0:=decide_eq_false c43
            clear c43
            obtain rfl:=Option.some.inj H
            clear H
            go_wp2
            go_ret
            exact⟨rs_,dr_⟩
           rw[if_neg c42] at H
           have c42b0:=decide_eq_false c42
           clear c42
           obtain rfl:=Option.some.inj H
           clear H
           go_wp2
           go_ret
           exact⟨rs_,dr_⟩
          rw[if_neg c40] at H
          have c40b0:=decide_eq_false c40
          clear c40
          by_cases c44:a0 > 160
          ·
           rw[if_pos c44] at H
           have c44b0:=decide_eq_true c44
           clear c44
           by_cases c45:a0≤169
           ·
            rw[if_pos c45] at H
            have c45b0:=decide_eq_true c45
            clear c45
            obtain rfl:=Option.some.inj H
            clear H
            go_wp2
            go_ret
            exact⟨rs_,dr_⟩
           rw[if_neg c45] at H
           have c45b0:=decide_eq_false c45
           clear c45
           obtain rfl:=Option.some.inj H
           clear H
           go_wp2
           go_ret
           exact⟨rs_,dr_⟩
          rw[if_neg c44] at H
          have c44b0:=decide_eq_false c44
          clear c44
          obtain rfl:=Option.some.inj H
          clear H
          go_wp2
          go_ret
          exact⟨rs_,dr_⟩
         rw[if_neg c38] at H
         have c38b0:=decide_eq_false c38
         clear c38
         by_cases c46:a0 > 128
         ·
          rw[if_pos c46] at H
          have c46b0:=decide_eq_true c46
          clear c46
          by_cases c47:a0≤155
          ·
           rw[if_pos c47] at H
           have c47b0:=decide_eq_true c47
           clear c47
           obtain rfl:=Option.some.inj H
           clear H
           go_wp2
           go_ret
           exact⟨rs_,dr_⟩
          rw[if_neg c47] at H
          have c47b0:=decide_eq_false c47
          clear c47
          by_cases c48:a0 > 160
          ·
           rw[if_pos c48] at H
           have c48b0:=decide_eq_true c48
           clear c48
           by_cases c49:a0≤169
           ·
            rw[if_pos c49] at H
            have c49b0:=decide_eq_true c49
            clear c49
            obtain rfl:=Option.some.inj H
            clear H
            go_wp2
            go_ret
            exact⟨rs_,dr_⟩
           rw[if_neg c49] at H
           have c49b0:=decide_eq_false c49
           clear c49
           obtain rfl:=Option.some.inj H
           clear H
           go_wp2
           go_ret
           exact⟨rs_,dr_⟩
          rw[if_neg c48] at H
          have c48b0:=decide_eq_false c48
          clear c48
          obtain rfl:=Option.some.inj H
          clear H
          go_wp2
          go_ret
          exact⟨rs_,dr_⟩
         rw[if_neg c46] at H
         have c46b0:=decide_eq_false c46
         clear c46
         by_cases c50:a0 > 160
         ·
          rw[if_pos c50] at H
          have c50b0:=decide_eq_true c50
          clear c50
          by_cases c51:a0≤169
          ·
           rw[if_pos c51] at H
           have c51b0:=decide_eq_true c51
           clear c51
           obtain rfl:=Option.some.inj H
           clear H
           go_wp2
           go_ret
           exact⟨rs_,dr_⟩
          rw[if_neg c51] at H
          have c51b0:=decide_eq_false c51
          clear c51
          obtain rfl:=Option.some.inj H
          clear H
          go_wp2
          go_ret
          exact⟨rs_,dr_⟩
         rw[if_neg c50] at H
         have c50b0:=decide_eq_false c50
         clear c50
         obtain rfl:=Option.some.inj H
         clear H
         go_wp2
         go_ret
         exact⟨rs_,dr_⟩

/-! ### impl_GoodIns: function 81 -/
def impl_GoodIns.f (k:Nat) (a0_0:Int) (a0_1:Int):Option (Bool):=(impl_formOf.f k a0_0).bind fun t288=>(if t288=1 then (some (a0_1==0)) else (if t288=2 then ((impl_goodType.f a0_1).bind fun t289=>(if t289=true then (some true) else (some (a0_1==64)))) else (if t288=3 then (if a0_1≥0 then (some (decide (a0_1≤1000))) else (some false)) else (if t288=4 then (if a0_1≥0 then (some (decide (a0_1≤10000))) else (some false)) else (if t288=5 then (if a0_1≥(-2147483648) then (some (decide (a0_1<2147483648))) else (some false)) else (if t288=6 then (some true) else (if t288=7 then (if a0_1≥0 then (some (decide (a0_1<4294967296))) else (some false)) else (some false))))))))
theorem impl_GoodIns.calls (k:Nat) (a0_0:Int) (a0_1:Int) (r:Bool) (w:World) (h:impl_GoodIns.f k a0_0 a0_1=some r):
  Calls Try.prog 81 #[.agg #[.int .i64 a0_0,.int .i64 a0_1]] w fun e w'=>e=.returned (.bool r)∧Below w.heap.size w w':=by
 have hu71:=Try.underlying71
 have HB:=A_ (Below.refl w.heap.size w)
 have H:((impl_formOf.f k a0_0).bind fun t288=>(if t288=1 then (some (a0_1==0)) else (if t288=2 then ((impl_goodType.f a0_1).bind fun t289=>(if t289=true then (some true) else (some (a0_1==64)))) else (if t288=3 then (if a0_1≥0 then (some (decide (a0_1≤1000))) else (some false)) else (if t288=4 then (if a0_1≥0 then (some (decide (a0_1≤10000))) else (some false)) else (if t288=5 then (if a0_1≥(-2147483648) then (some (decide (a0_1<2147483648))) else (some false)) else (if t288=6 then (some true) else (if t288=7 then (if a0_1≥0 then (some (decide (a0_1<4294967296))) else (some false)) else (some false)))))))))=some r:=h
 clear h
 replace H:=bi_ H
 obtain⟨t288,A20,H⟩:=H
 have A2:=A_ A20
 clear A20
 by_cases c3:t288=1
 ·
  rw[if_pos c3] at H
  obtain⟨c3b0,c3b1⟩:=eT_ c3
  clear c3
  obtain rfl:=Option.some.inj H
  clear H
  go_enter Try.func81,Try.ntmps81
  go_wp2_with (first|((with_reducible refine gd_ 1 rfl ?_);refine bx_ #[.int .i64 a0_0,.int .i64 a0_1] 71 ?_;intro gb287 hg w4 hbox hb;have BK287:=A_ hbox;have GW287:=gw_ hg HB;have GE287:=GW287;replace HB:=bs_ HB hb;clear hb hbox hg;obtain⟨hcz5_0,hcz5_1⟩:=cs2_ BK287.out;obtain⟨hfz5_0,hfz5_1⟩:=fz2_ BK287.out)|((with_reducible refine gc_ 76 rfl ?_);refine gn_ (some 5) Try.func76 (impl_formOf.calls k a0_0 t288 _ A2.out) ?_;intro nd))
  go_ret
  exact⟨rr_,bw HB.out⟩
 rw[if_neg c3] at H
 obtain⟨c3b0,c3b1⟩:=eF_ c3
 by_cases c6:t288=2
 ·
  rw[if_pos c6] at H
  obtain⟨c6b0,c6b1⟩:=eT_ c6
  clear c6
  replace H:=bi_ H
  obtain⟨t289,A70,H⟩:=H
  have A7:=A_ A70
  clear A70
  by_cases c8:t289=true
  ·
   subst c8
   replace H:=iT_ H
   obtain rfl:=Option.some.inj H
   clear H
   go_enter Try.func81,Try.ntmps81
   go_wp2_with (first|((with_reducible refine gd_ 1 rfl ?_);refine bx_ #[.int .i64 a0_0,.int .i64 a0_1] 71 ?_;intro gb287 hg w9 hbox hb;have BK287:=A_ hbox;have GW287:=gw_ hg HB;have GE287:=GW287;replace HB:=bs_ HB hb;clear hb hbox hg;obtain⟨hcz10_0,hcz10_1⟩:=cs2_ BK287.out;obtain⟨hfz10_0,hfz10_1⟩:=fz2_ BK287.out)|((with_reducible refine gc_ 76 rfl ?_);refine gn_ (some 5) Try.func76 (impl_formOf.calls k a0_0 t288 _ A2.out) ?_;intro nd)|((with_reducible refine gc_ 52 rfl ?_);refine gn_ (some 15) Try.func52 (impl_goodType.calls a0_1 true _ A7.out) ?_;intro nd))
   go_ret
   exact⟨rr_,bw HB.out⟩
  replace c8:=Bool.eq_false_iff.mpr c8
  subst c8
  replace H:=iF_ H
  obtain rfl:=Option.some.inj H
  clear H
  go_enter Try.func81,Try.ntmps81
  go_wp2_with (first|((with_reducible refine gd_ 1 rfl ?_);refine bx_ #[.int .i64 a0_0,.int .i64 a0_1] 71 ?_;intro gb287 hg w11 hbox hb;have BK287:=A_ hbox;have GW287:=gw_ hg HB;have GE287:=GW287;replace HB:=bs_ HB hb;clear hb hbox hg;obtain⟨hcz12_0,hcz12_1⟩:=cs2_ BK287.out;obtain⟨hfz12_0,hfz12_1⟩:=fz2_ BK287.out)|((with_reducible refine gc_ 76 rfl ?_);refine gn_ (some 5) Try.func76 (impl_formOf.calls k a0_0 t288 _ A2.out) ?_;intro nd)|((with_reducible refine gc_ 52 rfl ?_);refine gn_ (some 15) Try.func52 (impl_goodType.calls a0_1 false _ A7.out) ?_;intro nd))
  go_ret
  exact⟨rr_,bw HB.out⟩
 rw[if_neg c6] at H
 obtain⟨c6b0,c6b1⟩:=eF_ c6
 by_cases c13:t288=3
 ·
  rw[if_pos c13] at H
  obtain⟨c13b0,c13b1⟩:=eT_ c13
  clear c13
  by_cases c14:a0_1≥0
  ·
   rw[if_pos c14] at H
   have c14b0:=decide_eq_true c14
   clear c14
   obtain rfl:=Option.some.inj H
   clear H
   go_enter Try.func81,Try.ntmps81
   go_wp2_with (first|((with_reducible refine gd_ 1 rfl ?_);refine bx_ #[.int .i64 a0_0,.int .i64 a0_1] 71 ?_;intro gb287 hg w15 hbox hb;have BK287:=A_ hbox;have GW287:=gw_ hg HB;have GE287:=GW287;replace HB:=bs_ HB hb;clear hb hbox hg;obtain⟨hcz16_0,hcz16_1⟩:=cs2_ BK287.out;obtain⟨hfz16_0,hfz16_1⟩:=fz2_ BK287.out)|((with_reducible refine gc_ 76 rfl ?_);refine gn_ (some 5) Try.func76 (impl_formOf.calls k a0_0 t288 _ A2.out) ?_;intro nd))
   go_ret
   exact⟨rr_,bw HB.out⟩
  rw[if_neg c14] at H
  have c14b0:=decide_eq_false c14
  clear c14
  obtain rfl:=Option.some.inj H
  clear H
  go_enter Try.func81,Try.ntmps81
  go_wp2_with (first|((with_reducible refine gd_ 1 rfl ?_);refine bx_ #[.int .i64 a0_0,.int .i64 a0_1] 71 ?_;intro gb287 hg w17 hbox hb;have BK287:=A_ hbox;have GW287:=gw_ hg HB;have GE287:=GW287;replace HB:=bs_ HB hb;clear hb hbox hg;obtain⟨hcz18_0,hcz18_1⟩:=cs2_ BK287.out;obtain⟨hfz18_0,hfz18_1⟩:=fz2_ BK287.out)|((with_reducible refine gc_ 76 rfl ?_);refine gn_ (some 5) Try.func76 (impl_formOf.calls k a0_0 t288 _ A2.out) ?_;intro nd))
  go_ret
  exact⟨rr_,bw HB.out⟩
 rw[if_neg c13] at H
 obtain⟨c13b0,c13b1⟩:=eF_ c13
 by_cases c19:t288=4
 ·
  rw[if_pos c19] at H
  obtain⟨c19b0,c19b1⟩:=eT_ c19
  clear c19
  by_cases c20:a0_1≥0
  ·
   rw[if_pos c20] at H
   have c20b0:=decide_eq_true c20
   clear c20
   obtain rfl:=Option.some.inj H
   clear H
   go_enter Try.func81,Try.ntmps81
   go_wp2_with (first|((with_reducible refine gd_ 1 rfl ?_);refine bx_ #[.int .i64 a0_0,.int .i64 a0_1] 71 ?_;intro gb287 hg w21 hbox hb;have BK287:=A_ hbox;have GW287:=gw_ hg HB;have GE287:=GW287;replace HB:=bs_ HB hb;clear hb hbox hg;obtain⟨hcz22_0,hcz22_1⟩:=cs2_ BK287.out;obtain⟨hfz22_0,hfz22_1⟩:=fz2_ BK287.out)|((with_reducible refine gc_ 76 rfl ?_);refine gn_ (some 5) Try.func76 (impl_formOf.calls k a0_0 t288 _ A2.out) ?_;intro nd))
   go_ret
   exact⟨rr_,bw HB.out⟩
  rw[if_neg c20] at H
  have c20b0:=decide_eq_false c20
  clear c20
  obtain rfl:=Option.some.inj H
  clear H
  go_enter Try.func81,Try.ntmps81
  go_wp2_with (first|((with_reducible refine gd_ 1 rfl ?_);refine bx_ #[.int .i64 a0_0,.int .i64 a0_1] 71 ?_;intro gb287 hg w23 hbox hb;have BK287:=A_ hbox;have GW287:=gw_ hg HB;have GE287:=GW287;replace HB:=bs_ HB hb;clear hb hbox hg;obtain⟨hcz24_0,hcz24_1⟩:=cs2_ BK287.out;obtain⟨hfz24_0,hfz24_1⟩:=fz2_ BK287.out)|((with_reducible refine gc_ 76 rfl ?_);refine gn_ (some 5) Try.func76 (impl_formOf.calls k a0_0 t288 _ A2.out) ?_;intro nd))
  go_ret
  exact⟨rr_,bw HB.out⟩
 rw[if_neg c19] at H
 obtain⟨c19b0,c19b1⟩:=eF_ c19
 by_cases c25:t288=5
 ·
  rw[if_pos c25] at H
  obtain⟨c25b0,c25b1⟩:=eT_ c25
  clear c25
  by_cases c26:a0_1≥(-2147483648)
  ·
   rw[if_pos c26] at H
   have c26b0:=decide_eq_true c26
   clear c26
   obtain rfl:=Option.some.inj H
   clear H
   go_enter Try.func81,Try.ntmps81
   go_wp2_with (first|((with_reducible refine gd_ 1 rfl ?_);refine bx_ #[.int .i64 a0_0,.int .i64 a0_1] 71 ?_;intro gb287 hg w27 hbox hb;have BK287:=A_ hbox;have GW287:=gw_ hg HB;have GE287:=GW287;replace HB:=bs_ HB hb;clear hb hbox hg;obtain⟨hcz28_0,hcz28_1⟩:=cs2_ BK287.out;obtain⟨hfz28_0,hfz28_1⟩:=fz2_ BK287.out)|((with_reducible refine gc_ 76 rfl ?_);refine gn_ (some 5) Try.func76 (impl_formOf.calls k a0_0 t288 _ A2.out) ?_;intro nd))
   go_ret
   exact⟨rr_,bw HB.out⟩
  rw[if_neg c26] at H
  have c26b0:=decide_eq_false c26
  clear c26
  obtain rfl:=Option.some.inj H
  clear H
  go_enter Try.func81,Try.ntmps81
  go_wp2_with (first|((with_reducible refine gd_ 1 rfl ?_);refine bx_ #[.int .i64 a0_0,.int .i64 a0_1] 71 ?_;intro gb287 hg w29 hbox hb;have BK287:=A_ hbox;have GW287:=gw_ hg HB;have GE287:=GW287;replace HB:=bs_ HB hb;clear hb hbox hg;obtain⟨hcz30_0,hcz30_1⟩:=cs2_ BK287.out;obtain⟨hfz30_0,hfz30_1⟩:=fz2_ BK287.out)|((with_reducible refine gc_ 76 rfl ?_);refine gn_ (some 5) Try.func76 (impl_formOf.calls k a0_0 t288 _ A2.out) ?_;intro nd))
  go_ret
  exact⟨rr_,bw HB.out⟩
 rw[if_neg c25] at H
 obtain⟨c25b0,c25b1⟩:=eF_ c25
 by_cases c31:t288=6
 ·
  rw[if_pos c31] at H
  obtain⟨c31b0,c31b1⟩:=eT_ c31
  clear c31
  obtain rfl:=Option.some.inj H
  clear H
  go_enter Try.func81,Try.ntmps81
  go_wp2_with (first|((with_reducible refine gd_ 1 rfl ?_);refine bx_ #[.int .i64 a0_0,.int .i64 a0_1] 71 ?_;intro gb287 hg w32 hbox hb;have BK287:=A_ hbox;have GW287:=gw_ hg HB;have GE287:=GW287;replace HB:=bs_ HB hb;clear hb hbox hg;obtain⟨hcz33_0,hcz33_1⟩:=cs2_ BK287.out;obtain⟨hfz33_0,hfz33_1⟩:=fz2_ BK287.out)|((with_reducible refine gc_ 76 rfl ?_);refine gn_ (some 5) Try.func76 (impl_formOf.calls k a0_0 t288 _ A2.out) ?_;intro nd))
  go_ret
  exact⟨rr_,bw HB.out⟩
 rw[if_neg c31] at H
 obtain⟨c31b0,c31b1⟩:=eF_ c31
 by_cases c34:t288=7
 ·
  rw[if_pos c34] at H
  obtain⟨c34b0,c34b1⟩:=eT_ c34
  clear c34
  by_cases c35:a0_1≥0
  ·
   rw[if_pos c35] at H
   have c35b0:=decide_eq_true c35
   clear c35
   obtain rfl:=Option.some.inj H
   clear H
   go_enter Try.func81,Try.ntmps81
   go_wp2_with (first|((with_reducible refine gd_ 1 rfl ?_);refine bx_ #[.int .i64 a0_0,.int .i64 a0_1] 71 ?_;intro gb287 hg w36 hbox hb;have BK287:=A_ hbox;have GW287:=gw_ hg HB;have GE287:=GW287;replace HB:=bs_ HB hb;clear hb hbox hg;obtain⟨hcz37_0,hcz37_1⟩:=cs2_ BK287.out;obtain⟨hfz37_0,hfz37_1⟩:=fz2_ BK287.out)|((with_reducible refine gc_ 76 rfl ?_);refine gn_ (some 5) Try.func76 (impl_formOf.calls k a0_0 t288 _ A2.out) ?_;intro nd))
   go_ret
   exact⟨rr_,bw HB.out⟩
  rw[if_neg c35] at H
  have c35b0:=decide_eq_false c35
  clear c35
  obtain rfl:=Option.some.inj H
  clear H
  go_enter Try.func81,Try.ntmps81
  go_wp2_with (first|((with_reducible refine gd_ 1 rfl ?_);refine bx_ #[.int .i64 a0_0,.int .i64 a0_1] 71 ?_;intro gb287 hg w38 hbox hb;have BK287:=A_ hbox;have GW287:=gw_ hg HB;have GE287:=GW287;replace HB:=bs_ HB hb;clear hb hbox hg;obtain⟨hcz39_0,hcz39_1⟩:=cs2_ BK287.out;obtain⟨hfz39_0,hfz39_1⟩:=fz2_ BK287.out)|((with_reducible refine gc_ 76 rfl ?_);refine gn_ (some 5) Try.func76 (impl_formOf.calls k a0_0 t288 _ A2.out) ?_;intro nd))
  go_ret
  exact⟨rr_,bw HB.out⟩
 rw[if_neg c34] at H
 obtain⟨c34b0,c34b1⟩:=eF_ c34
 obtain rfl:=Option.some.inj H
 clear H
 go_enter Try.func81,Try.ntmps81
 go_wp2_with (first|((with_reducible refine gd_ 1 rfl ?_);refine bx_ #[.int .i64 a0_0,.int .i64 a0_1] 71 ?_;intro gb287 hg w40 hbox hb;have BK287:=A_ hbox;have GW287:=gw_ hg HB;have GE287:=GW287;replace HB:=bs_ HB hb;clear hb hbox hg;obtain⟨hcz41_0,hcz41_1⟩:=cs2_ BK287.out;obtain⟨hfz41_0,hfz41_1⟩:=fz2_ BK287.out)|((with_reducible refine gc_ 76 rfl ?_);refine gn_ (some 5) Try.func76 (impl_formOf.calls k a0_0 t288 _ A2.out) ?_;intro nd))
 go_ret
 exact⟨rr_,bw HB.out⟩

/-! ### impl_goodCode: function 68 -/
def impl_goodCode.l0:Nat→List (S71)→Int→Int→Option (Bool)
 |0,_,_,_=>none
 |k+1,x8,x9,x10=>if x10<x9 then (if 0≤x10 then (if x10<(x8.length:Int) then ((impl_GoodIns.f k ((rd_T71 x8 x10).f0) ((rd_T71 x8 x10).f1)).bind fun t292=>(if t292=true then (impl_goodCode.l0 k x8 x9 (wrap64 (x10+1))) else (some false))) else (none)) else (none)) else (some true)
def impl_goodCode.f (k:Nat) (l0:List (S71)):Option (Bool):=if (l0.length:Int) > 200 then (some false) else (impl_goodCode.l0 k l0 (l0.length:Int) 0)
theorem impl_goodCode.calls (k:Nat) (A0:Option Addr) (c0:Nat) (l0:List (S71)) (r:Bool) (w:World) (hr0:Kd.C k71 w A0 l0.length l0) (hc0:l0.length≤c0) (h:impl_goodCode.f k l0=some r):
  Calls Try.prog 68 #[.slice A0 l0.length c0] w fun e w'=>e=.returned (.bool r)∧Below w.heap.size w w':=by
 have hu71:=Try.underlying71
 have HR0:=A_ hr0
 have HC0:=A_ hc0
 clear hr0 hc0
 have HB:=A_ (Below.refl w.heap.size w)
 have H:(if (l0.length:Int) > 200 then (some false) else (impl_goodCode.l0 k l0 (l0.length:Int) 0))=some r:=h
 clear h
 by_cases c2:(l0.length:Int) > 200
 ·
  rw[if_pos c2] at H
  have c2b0:=decide_eq_true c2
  have c2b1:decide (200<l0.length)=true:=decide_eq_true (by omega)
  clear c2
  obtain rfl:=Option.some.inj H
  clear H
  go_enter Try.func68,Try.ntmps68
  go_wp2
  go_ret
  exact⟨rr_,bw HB.out⟩
 rw[if_neg c2] at H
 have c2b0:=decide_eq_false c2
 have c2b1:decide (200<l0.length)=false:=decide_eq_false (by omega)
 clear c2
 have H':=A_ H
 clear H
 go_enter Try.func68,Try.ntmps68
 go_wp2
 (try simp only[Act.put,List.setIfInBounds_toArray,List.set_cons_zero,List.set_cons_succ])
 go_loopg [10] k (fun kq v10 w'=>∃ (x10_1:Int),v10=.int .i64 x10_1∧Aside0 (impl_goodCode.l0 kq l0 (l0.length:Int) x10_1=some r)∧Aside0 (kq≤k)∧Aside0 (Below w.heap.size w w'))
 case atStart=>exact⟨(0),rs_,H',⟨Nat.le_refl _⟩,⟨bw HB.out⟩⟩
 case round=>
  clear H'
  try clear c2 c2b0 c2b1
  obtain⟨x10_1,rfl,HA,HK1,HB⟩:=hrel
  cases gk with
  |zero=>exact absurd HA.out (by simp[impl_goodCode.l0])
  |succ k1=>
   have H:=HA.out
   clear HA
   simp only[impl_goodCode.l0] at H
   by_cases c3:x10_1<(l0.length:Int)
   ·
    rw[if_pos c3] at H
    have c3b0:=decide_eq_true c3
    clear c3
    by_cases c4:0≤x10_1
    ·
     rw[if_pos c4] at H
     have c4b0:=decide_eq_true c4
     clear c4
     by_cases c5:x10_1<(l0.length:Int)
     ·
      rw[if_pos c5] at H
      have c5b0:=decide_eq_true c5
      clear c5
      replace H:=bi_ H
      obtain⟨t292,A60,H⟩:=H
      have A6:=A_ A60
      clear A60
      by_cases c7:t292=true
      ·
       subst c7
       replace H:=iT_ H
       have H':=A_ H
       clear H
       have p290:0≤(x10_1:Int):=od_
       have q290:x10_1<(l0.length:Int):=od_
       obtain⟨ad290,e290,hx290_0,hx290_1⟩:=at_T71 HR0.out x10_1 p290 q290
       cases e290
       replace hx290_0:=cl_ HB.out hx290_0
       replace hx290_1:=cl_ HB.out hx290_1
       replace p290:=eq_true p290
       replace q290:=eq_true q290
       go_wp2_with (first|((with_reducible refine gd_ 4 rfl ?_);refine bx_ #[.int .i64 0,.int .i64 0] 71 ?_;intro gb291 hg w8 hbox hb;have BK291:=A_ hbox;have GW291:=gw_ hg HB;have GE291:=GW291;replace HB:=bs_ HB hb;clear hb hbox hg;obtain⟨hcz9_0,hcz9_1⟩:=cs2_ BK291.out;obtain⟨hfz9_0,hfz9_1⟩:=fz2_ BK291.out)|((with_reducible refine gc_ 81 rfl ?_);refine gm_ (some 15) Try.func81 (impl_GoodIns.calls k1 ((rd_T71 l0 x10_1).f0) ((rd_T71 l0 x10_1).f1) true _ A6.out) ?_;intro w10 hb;replace BK291:=A_ (blk_below (g:=gb291) (o:=.cells #[.int .i64 ((rd_T71 l0 x10_1).f0),.int .i64 ((rd_T71 l0 x10_1).f1)] 71 (0,0)) (by refine blk_put (cs:=#[.int .i64 ((rd_T71 l0 x10_1).f0),.int .i64 0]) ?_ 1 _ rfl;refine blk_put (cs:=#[.int .i64 0,.int .i64 0]) ?_ 0 _ rfl;(with_reducible repeat (first|refine blk_drewN ?_ _|refine blk_drew ?_|refine blk_alloc ?_ _));exact BK291.out) hb);replace HB:=bs_ HB hb;(try clear hb)))
       go_roundg k1
       case measure=>have:=HK1.out;omega
       case rel=>exact⟨(wrap64 (x10_1+1)),rs_,H',⟨by have:=HK1.out;omega⟩,⟨bw HB.out⟩⟩
      replace c7:=Bool.eq_false_iff.mpr c7
      subst c7
      replace H:=iF_ H
      obtain rfl:=Option.some.inj H
      clear H
      have p290:0≤(x10_1:Int):=od_
      have q290:x10_1<(l0.length:Int):=od_
      obtain⟨ad290,e290,hx290_0,hx290_1⟩:=at_T71 HR0.out x10_1 p290 q290
      cases e290
      replace hx290_0:=cl_ HB.out hx290_0
      replace hx290_1:=cl_ HB.out hx290_1
      replace p290:=eq_true p290
      replace q290:=eq_true q290
      go_wp2_with (first|((with_reducible refine gd_ 4 rfl ?_);refine bx_ #[.int .i64 0,.int .i64 0] 71 ?_;intro gb291 hg w11 hbox hb;have BK291:=A_ hbox;have GW291:=gw_ hg HB;have GE291:=GW291;replace HB:=bs_ HB hb;clear hb hbox hg;obtain⟨hcz12_0,hcz12_1⟩:=cs2_ BK291.out;obtain⟨hfz12_0,hfz12_1⟩:=fz2_ BK291.out)|((with_reducible refine gc_ 81 rfl ?_);refine gm_ (some 15) Try.func81 (impl_GoodIns.calls k1 ((rd_T71 l0 x10_1).f0) ((rd_T71 l0 x10_1).f1) false _ A6.out) ?_;intro w13 hb;replace BK291:=A_ (blk_below (g:=gb291) (o:=.cells #[.int .i64 ((rd_T71 l0 x10_1).f0),.int .i64 ((rd_T71 l0 x10_1).f1)] 71 (0,0)) (by refine blk_put (cs:=#[.int .i64 ((rd_T71 l0 x10_1).f0),.int .i64 0]) ?_ 1 _ rfl;refine blk_put (cs:=#[.int .i64 0,.int .i64 0]) ?_ 0 _ rfl;(with_reducible repeat (first|refine blk_drewN ?_ _|refine blk_drew ?_|refine blk_alloc ?_ _));exact BK291.out) hb);replace HB:=bs_ HB hb;(try clear hb)))
      go_ret
      exact⟨rr_,bw HB.out⟩
     rw[if_neg c5] at H
     exact absurd H (by simp)
    rw[if_neg c4] at H
    exact absurd H (by simp)
   rw[if_neg c3] at H
   have c3b0:=decide_eq_false c3
   clear c3
   obtain rfl:=Option.some.inj H
   clear H
   go_wp2
   go_ret
   exact⟨rr_,bw HB.out⟩

/-! ### impl_opens: function 69 -/
def impl_opens.f (a0:Int):Option (Bool):=if a0=2 then (some true) else (if a0=3 then (some true) else (some (a0==4)))
theorem impl_opens.calls (a0:Int) (r:Bool) (w:World) (h:impl_opens.f a0=some r):
  Calls Try.prog 69 #[.int .i64 a0] w fun e w'=>e=.returned (.bool r)∧Drawn0 w w':=by
 have H:(if a0=2 then (some true) else (if a0=3 then (some true) else (some (a0==4))))=some r:=h
 clear h
 by_cases c2:a0=2
 ·
  rw[if_pos c2] at H
  obtain⟨c2b0,c2b1⟩:=eT_ c2
  clear c2
  obtain rfl:=Option.some.inj H
  clear H
  go_enter Try.func69,Try.ntmps69
  go_wp2
  go_ret
  exact⟨rs_,dr_⟩
 rw[if_neg c2] at H
 obtain⟨c2b0,c2b1⟩:=eF_ c2
 by_cases c3:a0=3
 ·
  rw[if_pos c3] at H
  obtain⟨c3b0,c3b1⟩:=eT_ c3
  clear c3
  obtain rfl:=Option.some.inj H
  clear H
  go_enter Try.func69,Try.ntmps69
  go_wp2
  go_ret
  exact⟨rs_,dr_⟩
 rw[if_neg c3] at H
 obtain⟨c3b0,c3b1⟩:=eF_ c3
 obtain rfl:=Option.some.inj H
 clear H
 go_enter Try.func69,Try.ntmps69
 go_wp2
 go_ret
 exact⟨rs_,dr_⟩

/-! ### impl_deepest: function 53 -/
def impl_deepest.l0:Nat→List Int→Int→List (S71)→Int→Int→Option (Int)
 |0,_,_,_,_,_=>none
 |k+1,x3,x4,x12,x13,x14=>if x14<x13 then (if 0≤x14 then (if x14<(x12.length:Int) then (if (x3.length:Int)=0 then (some 0) else ((impl_opens.f ((rd_T71 x12 x14).f0)).bind fun t299=>(if t299=true then (if x3.length<17592186044416 then ((some (x3++[(rd_T71 x12 x14).f0]:List Int)).bind fun y300=>(impl_deepest.l0 k y300 (mx x4 (y300.length:Int)) x12 x13 (wrap64 (x14+1)))) else (none)) else (if ((rd_T71 x12 x14).f0)=5 then (if 0≤(wrap64 ((x3.length:Int) - 1)) then (if (wrap64 ((x3.length:Int) - 1))<(x3.length:Int) then (if (rd x3 (wrap64 ((x3.length:Int) - 1)))=4 then (impl_deepest.l0 k (x3.set ((wrap64 ((x3.length:Int) - 1)):Int).toNat 5) x4 x12 x13 (wrap64 (x14+1))) else (some 0)) else (none)) else (none)) else (if ((rd_T71 x12 x14).f0)=11 then (if 0≤(wrap64 ((x3.length:Int) - 1)) then (if (wrap64 ((x3.length:Int) - 1))≤(x3.length:Int) then (impl_deepest.l0 k (x3.take ((wrap64 ((x3.length:Int) - 1)):Int).toNat) x4 x12 x13 (wrap64 (x14+1))) else (none)) else (none)) else (impl_deepest.l0 k x3 x4 x12 x13 (wrap64 (x14+1)))))))) else (none)) else (none)) else (if (x3.length:Int) > 0 then (some 0) else (some x4))
def impl_deepest.f (k:Nat) (l0:List (S71)):Option (Int):=(impl_goodCode.f k l0).bind fun t293=>(if t293=true then (impl_deepest.l0 k (([2]:List Int)) 1 l0 (l0.length:Int) 0) else (some 0))
theorem impl_deepest.calls (k:Nat) (A0:Option Addr) (c0:Nat) (l0:List (S71)) (r:Int) (w:World) (hr0:Kd.C k71 w A0 l0.length l0) (hc0:l0.length≤c0) (h:impl_deepest.f k l0=some r):
  Calls Try.prog 53 #[.slice A0 l0.length c0] w fun e w'=>e=.returned (.int .i64 r)∧Below w.heap.size w w':=by
 have hu71:=Try.underlying71
 have HR0:=A_ hr0
 have HC0:=A_ hc0
 clear hr0 hc0
 have HB:=A_ (Below.refl w.heap.size w)
 have H:((impl_goodCode.f k l0).bind fun t293=>(if t293=true then (impl_deepest.l0 k (([2]:List Int)) 1 l0 (l0.length:Int) 0) else (some 0)))=some r:=h
 clear h
 replace H:=bi_ H
 obtain⟨t293,A20,H⟩:=H
 have A2:=A_ A20
 clear A20
 by_cases c3:t293=true
 ·
  subst c3
  replace H:=iT_ H
  obtain⟨y294,hy294⟩:∃ y_:List Int,y_=(([2]:List Int)):=⟨_,rfl⟩
  replace H:(impl_deepest.l0 k y294 1 l0 (l0.length:Int) 0)=some r:=by first|(rw[hy294];with_reducible exact H)|(have H2_:=(Option.bind_some _ _).symm.trans H;rw[hy294];with_reducible exact H2_)|(have H2_:=(Option.bind_some _ _).symm.trans H;with_reducible exact H2_)|with_reducible exact H|(rw[hy294];exact H)|exact H
  have Ny294:=A_ hy294
  clear hy294
  have H':=A_ H
  clear H
  go_enter Try.func53,Try.ntmps53
  go_wp2_with (first|((with_reducible refine gc_ 68 rfl ?_);refine goesL_ (some 9) rfl rfl Try.func68 (by kernel_rfl) rfl #[.slice A0 l0.length c0] rfl ar ?_;(with_reducible refine(impl_goodCode.calls k _ _ l0 true _ ?side1 ?side2 A2.out).mono ?_);(case side1=>repeat (first|exact HR0.out|(with_reducible refine Kd.C_alloc ?_ _)|(with_reducible refine Kd.C_drewN ?_ _)|(with_reducible refine Kd.C_drew ?_)));(case side2=>exact HC0.out);rintro e w4 ⟨rfl,hb⟩;refine⟨_,rfl,?_⟩;replace HB:=bs_ HB hb;(try clear hb))|((with_reducible refine gd_ 11 rfl ?_);refine Kd.R_lit (Kd.int .i64) _ 3 ?hg (N:=11) ?hd (xs:=([2]:List Int)) (inner:=[.int .i64 2]) (ok:=fun _=>True) (okp:=fun _=>True) ?hr ?hp (fun _ hk=>hk) trivial (Below.refl _ _) (Nat.le_refl _) (by simp) ?_;(case hd=>rfl);(case hg=>rfl);(case hr=>first|(go_simp;done)|(go_simp;rfl));(case hp=>exact(Reps.one (show Kd.M (Kd.int .i64) _ _ _ 2 [.int .i64 2] from rfl) (Reps.none _ _)));intro v295 w5 ho6 hb hg_ hnew_;clear hg_ hnew_;(first|rw[←Ny294.out] at ho6|(simp only[Int.reduceToNat] at ho6;rw[←Ny294.out] at ho6));have HO296:=A_ (Kd.R_lower ho6 (below_size (bw HB.out)));replace HB:=bs_ HB hb;clear hb ho6))
  (try simp only[Act.put,List.setIfInBounds_toArray,List.set_cons_zero,List.set_cons_succ])
  go_loopg [3,4,14] k (fun kq v3 v4 v14 w'=>∃ (x3_1:List Int) (x4_1:Int) (x14_1:Int),v4=.int .i64 x4_1∧v14=.int .i64 x14_1∧Aside0 (impl_deepest.l0 kq x3_1 x4_1 l0 (l0.length:Int) x14_1=some r)∧Aside0 (kq≤k)∧Aside0 (Kd.R (Kd.int .i64) 3 w' w.heap.size (fun _=>True) v3 x3_1)∧Aside0 (Below w.heap.size w w'))
  case atStart=>exact⟨(y294),(1),(0),rs_,rs_,H',⟨Nat.le_refl _⟩,⟨kr_ HO296.out⟩,⟨bw HB.out⟩⟩
  case round=>
   clear H'
   try clear c3
   obtain⟨x3_1,x4_1,x14_1,rfl,rfl,HA,HK1,HO_3,HB⟩:=hrel
   cases gk with
   |zero=>exact absurd HA.out (by simp[impl_deepest.l0])
   |succ k1=>
    have H:=HA.out
    clear HA
    simp only[impl_deepest.l0] at H
    by_cases c7:x14_1<(l0.length:Int)
    ·
     rw[if_pos c7] at H
     have c7b0:=decide_eq_true c7
     clear c7
     by_cases c8:0≤x14_1
     ·
      rw[if_pos c8] at H
      have c8b0:=decide_eq_true c8
      clear c8
      by_cases c9:x14_1<(l0.length:Int)
      ·
       rw[if_pos c9] at H
       have c9b0:=decide_eq_true c9
       clear c9
       by_cases c10:(x3_1.length:Int)=0
       ·
        rw[if_pos c10] at H
        obtain⟨c10b0,c10b1⟩:=eT_ c10
        clear c10
        obtain rfl:=Option.some.inj H
        clear H
        have p297:0≤(x14_1:Int):=od_
        have q297:x14_1<(l0.length:Int):=od_
        obtain⟨ad297,e297,hx297_0,hx297_1⟩:=at_T71 HR0.out x14_1 p297 q297
        cases e297
        replace hx297_0:=cl_ HB.out hx297_0
        replace hx297_1:=cl_ HB.out hx297_1
        replace p297:=eq_true p297
        replace q297:=eq_true q297
        go_wp2_with (first|((with_reducible refine gd_ 6 rfl ?_);refine bx_ #[.int .i64 0,.int .i64 0] 71 ?_;intro gb298 hg w11 hbox hb;have BK298:=A_ hbox;have GW298:=gw_ hg HB;have GE298:=GW298;replace HO_3:=A_ (Kd.R_below (kr_ HO_3.out) hb);replace HB:=bs_ HB hb;clear hb hbox hg;obtain⟨hcz12_0,hcz12_1⟩:=cs2_ BK298.out;obtain⟨hfz12_0,hfz12_1⟩:=fz2_ BK298.out;obtain⟨Ao13,co13,eo13⟩:=Kd.R_slice HO_3.out;subst eo13))
        go_ret
        exact⟨rr_,bw HB.out⟩
       rw[if_neg c10] at H
       obtain⟨c10b0,c10b1⟩:=eF_ c10
       have c10b2:¬(x3_1=[]):=fun h_=>c10 (by rw[h_];rfl)
       replace H:=bi_ H
       obtain⟨t299,A140,H⟩:=H
       have A14:=A_ A140
       clear A140
       by_cases c15:t299=true
       ·
        subst c15
        replace H:=iT_ H
        by_cases c16:x3_1.length<17592186044416
        ·
         rw[if_pos c16] at H
         have LMc16:=A_ c16
         clear c16
         obtain⟨y300,hy300⟩:∃ y_:List Int,y_=(x3_1++[(rd_T71 l0 x14_1).f0]):=⟨_,rfl⟩
         replace H:(impl_deepest.l0 k1 y300 (mx x4_1 (y300.length:Int)) l0 (l0.length:Int) (wrap64 (x14_1+1)))=some r:=by first|(rw[hy300];with_reducible exact H)|(have H2_:=(Option.bind_some _ _).symm.trans H;rw[hy300];with_reducible exact H2_)|(have H2_:=(Option.bind_some _ _).symm.trans H;with_reducible exact H2_)|with_reducible exact H|(rw[hy300];exact H)|exact H
         have Ny300:=A_ hy300
         clear hy300
         obtain⟨ji17,hji17⟩:∃ j_:Int,(mx x4_1 (y300.length:Int))=j_:=⟨_,rfl⟩
         replace H:(impl_deepest.l0 k1 y300 ji17 l0 (l0.length:Int) (wrap64 (x14_1+1)))=some r:=by first|(rw[hji17] at H;exact H)|(simp only[hji17] at H ⊢;exact H)
         (try rw[hji17] at A14)
         have hji17_:(if x4_1<(y300.length:Int) then (y300.length:Int) else x4_1)=ji17:=hji17
         have H':=A_ H
         clear H
         have p297:0≤(x14_1:Int):=od_
         have q297:x14_1<(l0.length:Int):=od_
         obtain⟨ad297,e297,hx297_0,hx297_1⟩:=at_T71 HR0.out x14_1 p297 q297
         cases e297
         replace hx297_0:=cl_ HB.out hx297_0
         replace hx297_1:=cl_ HB.out hx297_1
         replace p297:=eq_true p297
         replace q297:=eq_true q297
         go_wp2_with (first|((with_reducible refine gd_ 6 rfl ?_);refine bx_ #[.int .i64 0,.int .i64 0] 71 ?_;intro gb298 hg w18 hbox hb;have BK298:=A_ hbox;have GW298:=gw_ hg HB;have GE298:=GW298;replace HO_3:=A_ (Kd.R_below (kr_ HO_3.out) hb);replace HB:=bs_ HB hb;clear hb hbox hg;obtain⟨hcz19_0,hcz19_1⟩:=cs2_ BK298.out;obtain⟨hfz19_0,hfz19_1⟩:=fz2_ BK298.out;obtain⟨Ao20,co20,eo20⟩:=Kd.R_slice HO_3.out;subst eo20)|((with_reducible refine gc_ 69 rfl ?_);refine gn_ (some 27) Try.func69 (impl_opens.calls ((rd_T71 l0 x14_1).f0) true _ A14.out) ?_;intro nd)|((with_reducible refine gate_builtin (b:=.append) (xs:=#[.tmp 28,.tmp 31]) rfl ?_);at_builtin;refine Kd.R_append (Kd.int .i64) (w0:=w) w.heap.size rfl (.tmp 28) (.tmp 31) 53 3 (.int .i64 0) 8 rfl Try.underlying53 info3 rfl (by decide) (by omega) (.slice Ao20 x3_1.length co20) x3_1 ((rd_T71 l0 x14_1).f0) [.int .i64 ((rd_T71 l0 x14_1).f0)] (fun _=>True) (fun _=>False) rfl (by first|(go_simp;done)|(go_simp;rfl)) ?aP (fun _ hk=>hk.elim) ?aF ?aO ?aB ?aS ?aL ?_;(case aP=>exact rfl);(case aB=>exact(bw HB.out));(case aF=>exact(fun _ _=>trivial));(case aO=>exact(by(with_reducible repeat (first|apply Kd.R_alloc|apply Kd.R_drewN|apply Kd.R_drew));exact Kd.R_mono (Kd.R_far (p:=⟨gb298,1,none⟩) (Kd.R_far (p:=⟨gb298,0,none⟩) (Kd.R_types HO_3.out BK298.out (by decide)) (fun _ hk=>hk.2) (.int .i64 ((rd_T71 l0 x14_1).f0))) (fun _ hk=>hk.2) (.int .i64 ((rd_T71 l0 x14_1).f1))) (fun _ hk=>trivial)));(case aS=>exact(below_size (bw HB.out)));(case aL=>have:=LMc16.out;omega);intro v301 w21 ho hb hg hat;rw[←Ny300.out] at ho;have HO302:=A_ (ho);replace BK298:=A_ (blk_grown (g:=gb298) (o:=.cells #[.int .i64 ((rd_T71 l0 x14_1).f0),.int .i64 ((rd_T71 l0 x14_1).f1)] 71 (0,0)) (by refine blk_put (cs:=#[.int .i64 ((rd_T71 l0 x14_1).f0),.int .i64 0]) ?_ 1 _ rfl;refine blk_put (cs:=#[.int .i64 0,.int .i64 0]) ?_ 0 _ rfl;(with_reducible repeat (first|refine blk_drewN ?_ _|refine blk_drew ?_|refine blk_alloc ?_ _));exact BK298.out) hg (Kd.R_ne HO_3.out BK298.out (by decide)));replace HB:=A_ (hb);clear HO_3;clear ho hb hg hat;obtain⟨Ao22,co22,eo22⟩:=Kd.R_slice HO302.out;subst eo22))
         go_roundg k1
         case measure=>have:=HK1.out;omega
         case rel=>exact⟨(y300),(ji17),(wrap64 (x14_1+1)),(by first|rfl|(simp;done)|(simp only[←hji17]<;>(first|rfl|simp))|(simp[*];done)),rs_,H',⟨by have:=HK1.out;omega⟩,⟨kr_ HO302.out⟩,⟨bw HB.out⟩⟩
        rw[if_neg c16] at H
        exact absurd H (by simp)
       replace c15:=Bool.eq_false_iff.mpr c15
       subst c15
       replace H:=iF_ H
       by_cases c23:((rd_T71 l0 x14_1).f0)=5
       ·
        rw[if_pos c23] at H
        obtain⟨c23b0,c23b1⟩:=eT_ c23
        clear c23
        obtain⟨ji24,hji24⟩:∃ j_:Int,(wrap64 ((x3_1.length:Int) - 1))=j_:=⟨_,rfl⟩
        replace H:(if 0≤(ji24) then (if (ji24)<(x3_1.length:Int) then (if (rd x3_1 (ji24))=4 then (impl_deepest.l0 k1 (x3_1.set ((ji24):Int).toNat 5) x4_1 l0 (l0.length:Int) (wrap64 (x14_1+1))) else (some 0)) else (none)) else (none))=some r:=by first|(rw[hji24] at H;exact H)|(simp only[hji24] at H ⊢;exact H)
        (try rw[hji24] at A14)
        have hji24w:(IntKind.i64.wrap ((x3_1.length:Int) - 1))=ji24:=(i64_w _).trans hji24
        by_cases c25:0≤(ji24)
        ·
         rw[if_pos c25] at H
         have c25b0:=decide_eq_true c25
         clear c25
         by_cases c26:(ji24)<(x3_1.length:Int)
         ·
          rw[if_pos c26] at H
          have c26b0:=decide_eq_true c26
          clear c26
          by_cases c27:(rd x3_1 (ji24))=4
          ·
           rw[if_pos c27] at H
           obtain⟨c27b0,c27b1⟩:=eT_ c27
           clear c27
           obtain⟨y304,hy304⟩:∃ y_:List Int,y_=(x3_1.set ((ji24):Int).toNat 5):=⟨_,rfl⟩
           replace H:(impl_deepest.l0 k1 y304 x4_1 l0 (l0.length:Int) (wrap64 (x14_1+1)))=some r:=by first|(rw[hy304];with_reducible exact H)|(have H2_:=(Option.bind_some _ _).symm.trans H;rw[hy304];with_reducible exact H2_)|(have H2_:=(Option.bind_some _ _).symm.trans H;with_reducible exact H2_)|with_reducible exact H|(rw[hy304];exact H)|exact H
           have Ny304:=A_ hy304
           clear hy304
           have H':=A_ H
           clear H
           have p297:0≤(x14_1:Int):=od_
           have q297:x14_1<(l0.length:Int):=od_
           obtain⟨ad297,e297,hx297_0,hx297_1⟩:=at_T71 HR0.out x14_1 p297 q297
           cases e297
           replace hx297_0:=cl_ HB.out hx297_0
           replace hx297_1:=cl_ HB.out hx297_1
           replace p297:=eq_true p297
           replace q297:=eq_true q297
           go_wp2_with (first|((with_reducible refine gd_ 6 rfl ?_);refine bx_ #[.int .i64 0,.int .i64 0] 71 ?_;intro gb298 hg w29 hbox hb;have BK298:=A_ hbox;have GW298:=gw_ hg HB;have GE298:=GW298;replace HO_3:=A_ (Kd.R_below (kr_ HO_3.out) hb);replace HB:=bs_ HB hb;clear hb hbox hg;obtain⟨hcz30_0,hcz30_1⟩:=cs2_ BK298.out;obtain⟨hfz30_0,hfz30_1⟩:=fz2_ BK298.out)|((with_reducible refine gate_store (t:=71) (p:=6) rfl ?_);refine store_event (t:=71) (p:=6) (v:=?vo_w31) (w1:=((w29.setCell ⟨gb298,0,none⟩ (.int .i64 ((rd_T71 l0 x14_1).f0))).setCell ⟨gb298,1,none⟩ (.int .i64 ((rd_T71 l0 x14_1).f1)))) ?hg ?ho ?hn ?hr ?_;(case ho=>rfl);(case hg=>rfl);(case hn=>rfl);(case hr=>first|(go_simp;done)|(go_simp;rfl));intro w31 hw;replace HO_3:Aside0 (Kd.R (Kd.int .i64) 3 w31 w.heap.size (fun _=>True) u3 x3_1):=⟨(by rw[hw];exact(by(with_reducible repeat (first|apply Kd.R_alloc|apply Kd.R_drewN|apply Kd.R_drew));exact Kd.R_mono (Kd.R_far (p:=⟨gb298,1,none⟩) (Kd.R_far (p:=⟨gb298,0,none⟩) (Kd.R_types HO_3.out BK298.out (by decide)) (fun _ hk=>hk.2) (.int .i64 ((rd_T71 l0 x14_1).f0))) (fun _ hk=>hk.2) (.int .i64 ((rd_T71 l0 x14_1).f1))) (fun _ hk=>trivial)))⟩;replace BK298:Aside0 (w31.heap[gb298]? =some (.cells #[.int .i64 ((rd_T71 l0 x14_1).f0),.int .i64 ((rd_T71 l0 x14_1).f1)] 71 (0,0))):=⟨(by rw[hw];exact(by refine blk_put (cs:=#[.int .i64 ((rd_T71 l0 x14_1).f0),.int .i64 0]) ?_ 1 _ rfl;refine blk_put (cs:=#[.int .i64 0,.int .i64 0]) ?_ 0 _ rfl;(with_reducible repeat (first|refine blk_drewN ?_ _|refine blk_drew ?_|refine blk_alloc ?_ _));exact BK298.out))⟩;replace HB:Aside0 (Below w.heap.size w w31):=⟨(by rw[hw];exact(bw HB.out))⟩;clear hw;obtain⟨Ao32,co32,eo32⟩:=Kd.R_slice HO_3.out;subst eo32;obtain⟨hcz33_0,hcz33_1⟩:=cs2_ BK298.out;obtain⟨hfz33_0,hfz33_1⟩:=fz2_ BK298.out)|((with_reducible refine gc_ 69 rfl ?_);refine gn_ (some 27) Try.func69 (impl_opens.calls ((rd_T71 l0 x14_1).f0) false _ A14.out) ?_;intro nd;(try (rw[drewN_self w31];generalize hq_:World.drewN w31 _=w31;have n0_:Aside0 (Kd.R (Kd.int .i64) 3 w31 w.heap.size (fun _=>True) (.slice Ao32 x3_1.length co32) x3_1):=⟨by rw[←hq_];exact(kr_ HO_3.out)⟩;have n1_:Aside0 (w31.heap[gb298]? =some (.cells #[.int .i64 ((rd_T71 l0 x14_1).f0),.int .i64 ((rd_T71 l0 x14_1).f1)] 71 (0,0))):=⟨by rw[←hq_];exact(bk BK298.out)⟩;have n2_:Aside0 (Below w.heap.size w w31):=⟨by rw[←hq_];exact(bw HB.out)⟩;clear HO_3 BK298 HB hq_;have HO_3:=n0_;have BK298:=n1_;have HB:=n2_;clear n0_ n1_ n2_));obtain⟨hcz34_0,hcz34_1⟩:=cs2_ BK298.out;obtain⟨hfz34_0,hfz34_1⟩:=fz2_ BK298.out;have p303:0≤((ji24):Int):=od_;have q303:(ji24)<(x3_1.length:Int):=od_;obtain⟨ad303,e303,hx303_0⟩:=Kd.at_int (Kd.R_reads' HO_3.out).2.2 (ji24) p303 q303;cases e303;replace p303:=eq_true p303;replace q303:=eq_true q303;have p28:0≤((ji24):Int):=od_;have q28:((ji24):Int)<((x3_1.length:Int):Int):=od_;obtain⟨go28,co28,eo28,gb28,gl28,cl28,HG28⟩:=Kd.R_form HO_3.out (by omega);(first|cases eo28|(injection eo28 with ea_ en_ ec_;(first|subst ea_|(injection ea_ with ea_;subst ea_));subst ec_;clear en_));have GB28:=A_ gb28;have GG28:=A_ HG28;clear gb28 gl28 HG28;(first|simp only[add_plain] at hx303_0|skip);obtain⟨hx28_0,hf28_0⟩:=Kd.R_celln 0 HO_3.out ((ji24):Int) p28 q28;replace p28:=eq_true p28;replace q28:=eq_true q28;obtain⟨hy35_,hz35_⟩:=Kd.R_celln 0 HO_3.out ((ji24):Int) (od_) (od_);have HP35:=Kd.R_putg HO_3.out ((ji24):Int) 5)|((with_reducible refine gate_store (t:=3) (p:=48) rfl ?_);refine store_event (t:=3) (p:=48) (v:=?vo_w36) (w1:=(w31.setCell ⟨go28,((ji24):Int).toNat,none⟩ (.int .i64 5))) ?hg ?ho ?hn ?hr ?_;(case ho=>rfl);(case hg=>rfl);(case hn=>rfl);(case hr=>first|(go_simp;done)|(go_simp;rfl));intro w36 hw;have hg:w31.grownBy w36 (some go28):=(by rw[hw];exact HP35.2);have hp_:Kd.R (Kd.int .i64) 3 w36 w.heap.size (fun _=>True) (.slice (some ⟨go28,0,none⟩) x3_1.length co32) y304:=(by rw[hw,Ny304.out];exact HP35.1);clear HP35;replace BK298:=A_ (blk_grown (g:=gb298) (o:=.cells #[.int .i64 ((rd_T71 l0 x14_1).f0),.int .i64 ((rd_T71 l0 x14_1).f1)] 71 (0,0)) (bk BK298.out) hg (Kd.R_ne HO_3.out BK298.out (by decide)));replace HO_3:=A_ (hp_);replace HB:=A_ ((by rw[hw];exact below_set (HB.out) GB28.out:Below w.heap.size w w36));clear hg hw hp_))
           go_roundg k1
           case measure=>have:=HK1.out;omega
           case rel=>exact⟨(y304),(x4_1),(wrap64 (x14_1+1)),rs_,rs_,H',⟨by have:=HK1.out;omega⟩,⟨kr_ HO_3.out⟩,⟨bw HB.out⟩⟩
          rw[if_neg c27] at H
          obtain⟨c27b0,c27b1⟩:=eF_ c27
          obtain rfl:=Option.some.inj H
          clear H
          have p297:0≤(x14_1:Int):=od_
          have q297:x14_1<(l0.length:Int):=od_
          obtain⟨ad297,e297,hx297_0,hx297_1⟩:=at_T71 HR0.out x14_1 p297 q297
          cases e297
          replace hx297_0:=cl_ HB.out hx297_0
          replace hx297_1:=cl_ HB.out hx297_1
          replace p297:=eq_true p297
          replace q297:=eq_true q297
          go_wp2_with (first|((with_reducible refine gd_ 6 rfl ?_);refine bx_ #[.int .i64 0,.int .i64 0] 71 ?_;intro gb298 hg w37 hbox hb;have BK298:=A_ hbox;have GW298:=gw_ hg HB;have GE298:=GW298;replace HO_3:=A_ (Kd.R_below (kr_ HO_3.out) hb);replace HB:=bs_ HB hb;clear hb hbox hg;obtain⟨hcz38_0,hcz38_1⟩:=cs2_ BK298.out;obtain⟨hfz38_0,hfz38_1⟩:=fz2_ BK298.out;obtain⟨Ao39,co39,eo39⟩:=Kd.R_slice HO_3.out;subst eo39)|((with_reducible refine gc_ 69 rfl ?_);refine gn_ (some 27) Try.func69 (impl_opens.calls ((rd_T71 l0 x14_1).f0) false _ A14.out) ?_;intro nd;have p303:0≤((ji24):Int):=od_;have q303:(ji24)<(x3_1.length:Int):=od_;obtain⟨ad303,e303,hx303_0⟩:=Kd.at_int (Kd.R_reads' HO_3.out).2.2 (ji24) p303 q303;cases e303;have hn303_0:ad303.block≠gb298:=Kd.own_blk (Kd.R_ne HO_3.out BK298.out (by decide));have hn303_1:ad303.block≠gb298:=Kd.own_blk (Kd.R_ne HO_3.out BK298.out (by decide));replace hx303_0:=(cell_far (p:=⟨gb298,0,none⟩) (by first|(rw[add_block];exact hn303_0)|(show(Addr.add _ _).block≠_;rw[add_block];exact hn303_0)|exact hn303_0) (.int .i64 ((rd_T71 l0 x14_1).f0))).trans hx303_0;replace hx303_0:=(cell_far (p:=⟨gb298,1,none⟩) (by first|(rw[add_block];exact hn303_1)|(show(Addr.add _ _).block≠_;rw[add_block];exact hn303_1)|exact hn303_1) (.int .i64 ((rd_T71 l0 x14_1).f1))).trans hx303_0;clear hn303_0;clear hn303_1;replace p303:=eq_true p303;replace q303:=eq_true q303))
          go_ret
          exact⟨by first|rfl|(simp[errW_none,errW_some]<;>rfl)|(simp only[←hji24];first|rfl|(simp[errW_none,errW_some]<;>rfl))|(simp[*,errW_none,errW_some]<;>rfl),bw HB.out⟩
         rw[if_neg c26] at H
         exact absurd H (by simp)
        rw[if_neg c25] at H
        exact absurd H (by simp)
       rw[if_neg c23] at H
       obtain⟨c23b0,c23b1⟩:=eF_ c23
       by_cases c40:((rd_T71 l0 x14_1).f0)=11
       ·
        rw[if_pos c40] at H
        obtain⟨c40b0,c40b1⟩:=eT_ c40
        clear c40
        obtain⟨ji41,hji41⟩:∃ j_:Int,(wrap64 ((x3_1.length:Int) - 1))=j_:=⟨_,rfl⟩
        replace H:(if 0≤(ji41) then (if (ji41)≤(x3_1.length:Int) then (impl_deepest.l0 k1 (x3_1.take ((ji41):Int).toNat) x4_1 l0 (l0.length:Int) (wrap64 (x14_1+1))) else (none)) else (none))=some r:=by first|(rw[hji41] at H;exact H)|(simp only[hji41] at H ⊢;exact H)
        (try rw[hji41] at A14)
        have hji41w:(IntKind.i64.wrap ((x3_1.length:Int) - 1))=ji41:=(i64_w _).trans hji41
        by_cases c42:0≤(ji41)
        ·
         rw[if_pos c42] at H
         have c42b0:=eq_true c42
         have c42b1:=decide_eq_true c42
         clear c42
         by_cases c43:(ji41)≤(x3_1.length:Int)
         ·
          rw[if_pos c43] at H
          have c43b0:=eq_true c43
          have c43b1:=decide_eq_true c43
          clear c43
          obtain⟨y305,hy305⟩:∃ y_:List Int,y_=(x3_1.take ((ji41):Int).toNat):=⟨_,rfl⟩
          replace H:(impl_deepest.l0 k1 y305 x4_1 l0 (l0.length:Int) (wrap64 (x14_1+1)))=some r:=by first|(rw[hy305];with_reducible exact H)|(have H2_:=(Option.bind_some _ _).symm.trans H;rw[hy305];with_reducible exact H2_)|(have H2_:=(Option.bind_some _ _).symm.trans H;with_reducible exact H2_)|with_reducible exact H|(rw[hy305];exact H)|exact H
          have Ny305:=A_ hy305
          clear hy305
          have H':=A_ H
          clear H
          have p297:0≤(x14_1:Int):=od_
          have q297:x14_1<(l0.length:Int):=od_
          obtain⟨ad297,e297,hx297_0,hx297_1⟩:=at_T71 HR0.out x14_1 p297 q297
          cases e297
          replace hx297_0:=cl_ HB.out hx297_0
          replace hx297_1:=cl_ HB.out hx297_1
          replace p297:=eq_true p297
          replace q297:=eq_true q297
          go_wp2_with (first|((with_reducible refine gd_ 6 rfl ?_);refine bx_ #[.int .i64 0,.int .i64 0] 71 ?_;intro gb298 hg w44 hbox hb;have BK298:=A_ hbox;have GW298:=gw_ hg HB;have GE298:=GW298;replace HO_3:=A_ (Kd.R_below (kr_ HO_3.out) hb);replace HB:=bs_ HB hb;clear hb hbox hg;obtain⟨hcz45_0,hcz45_1⟩:=cs2_ BK298.out;obtain⟨hfz45_0,hfz45_1⟩:=fz2_ BK298.out)|((with_reducible refine gate_store (t:=71) (p:=6) rfl ?_);refine store_event (t:=71) (p:=6) (v:=?vo_w46) (w1:=((w44.setCell ⟨gb298,0,none⟩ (.int .i64 ((rd_T71 l0 x14_1).f0))).setCell ⟨gb298,1,none⟩ (.int .i64 ((rd_T71 l0 x14_1).f1)))) ?hg ?ho ?hn ?hr ?_;(case ho=>rfl);(case hg=>rfl);(case hn=>rfl);(case hr=>first|(go_simp;done)|(go_simp;rfl));intro w46 hw;replace HO_3:Aside0 (Kd.R (Kd.int .i64) 3 w46 w.heap.size (fun _=>True) u3 x3_1):=⟨(by rw[hw];exact(by(with_reducible repeat (first|apply Kd.R_alloc|apply Kd.R_drewN|apply Kd.R_drew));exact Kd.R_mono (Kd.R_far (p:=⟨gb298,1,none⟩) (Kd.R_far (p:=⟨gb298,0,none⟩) (Kd.R_types HO_3.out BK298.out (by decide)) (fun _ hk=>hk.2) (.int .i64 ((rd_T71 l0 x14_1).f0))) (fun _ hk=>hk.2) (.int .i64 ((rd_T71 l0 x14_1).f1))) (fun _ hk=>trivial)))⟩;replace BK298:Aside0 (w46.heap[gb298]? =some (.cells #[.int .i64 ((rd_T71 l0 x14_1).f0),.int .i64 ((rd_T71 l0 x14_1).f1)] 71 (0,0))):=⟨(by rw[hw];exact(by refine blk_put (cs:=#[.int .i64 ((rd_T71 l0 x14_1).f0),.int .i64 0]) ?_ 1 _ rfl;refine blk_put (cs:=#[.int .i64 0,.int .i64 0]) ?_ 0 _ rfl;(with_reducible repeat (first|refine blk_drewN ?_ _|refine blk_drew ?_|refine blk_alloc ?_ _));exact BK298.out))⟩;replace HB:Aside0 (Below w.heap.size w w46):=⟨(by rw[hw];exact(bw HB.out))⟩;clear hw;obtain⟨Ao47,co47,eo47⟩:=Kd.R_slice HO_3.out;subst eo47;obtain⟨hcz48_0,hcz48_1⟩:=cs2_ BK298.out;obtain⟨hfz48_0,hfz48_1⟩:=fz2_ BK298.out)|((with_reducible refine gc_ 69 rfl ?_);refine gn_ (some 27) Try.func69 (impl_opens.calls ((rd_T71 l0 x14_1).f0) false _ A14.out) ?_;intro nd;have q49:((ji41):Int)≤((x3_1.length:Int):Int):=od_;obtain⟨i049,hi049,_,hsz49,_⟩:=info_parts info3;have hcut49:=cut_to (P:=Try.prog) 53 3 .i64 Try.underlying53 hi049 Ao47 x3_1.length co47 (ji41) (od_) q49 (Kd.R_reads' HO_3.out).2.1;have hr49:=Kd.R_take (m:=((ji41):Int).toNat) HO_3.out (by omega);have hy49:y305.length=((ji41):Int).toNat:=(by rw[Ny305.out,List.length_take];omega);rw[←Ny305.out] at hr49;rw[←hy49] at hr49 hcut49;clear hy49 hi049 hsz49 HO_3;have HO307:=A_ hr49;clear hr49;replace q49:=eq_true q49))
          go_roundg k1
          case measure=>have:=HK1.out;omega
          case rel=>exact⟨(y305),(x4_1),(wrap64 (x14_1+1)),rs_,rs_,H',⟨by have:=HK1.out;omega⟩,⟨kr_ HO307.out⟩,⟨bw HB.out⟩⟩
         rw[if_neg c43] at H
         exact absurd H (by simp)
        rw[if_neg c42] at H
        exact absurd H (by simp)
       rw[if_neg c40] at H
       obtain⟨c40b0,c40b1⟩:=eF_ c40
       have H':=A_ H
       clear H
       have p297:0≤(x14_1:Int):=od_
       have q297:x14_1<(l0.length:Int):=od_
       obtain⟨ad297,e297,hx297_0,hx297_1⟩:=at_T71 HR0.out x14_1 p297 q297
       cases e297
       replace hx297_0:=cl_ HB.out hx297_0
       replace hx297_1:=cl_ HB.out hx297_1
       replace p297:=eq_true p297
       replace q297:=eq_true q297
       go_wp2_with (first|((with_reducible refine gd_ 6 rfl ?_);refine bx_ #[.int .i64 0,.int .i64 0] 71 ?_;intro gb298 hg w50 hbox hb;have BK298:=A_ hbox;have GW298:=gw_ hg HB;have GE298:=GW298;replace HO_3:=A_ (Kd.R_below (kr_ HO_3.out) hb);replace HB:=bs_ HB hb;clear hb hbox hg;obtain⟨hcz51_0,hcz51_1⟩:=cs2_ BK298.out;obtain⟨hfz51_0,hfz51_1⟩:=fz2_ BK298.out;obtain⟨Ao52,co52,eo52⟩:=Kd.R_slice HO_3.out;subst eo52)|((with_reducible refine gc_ 69 rfl ?_);refine gn_ (some 27) Try.func69 (impl_opens.calls ((rd_T71 l0 x14_1).f0) false _ A14.out) ?_;intro nd))
       go_roundg k1
       case measure=>have:=HK1.out;omega
       case rel=>exact⟨(x3_1),(x4_1),(wrap64 (x14_1+1)),rs_,rs_,H',⟨by have:=HK1.out;omega⟩,⟨by (with_reducible repeat (first|apply Kd.R_alloc|apply Kd.R_drewN|apply Kd.R_drew));exact Kd.R_mono (Kd.R_far (p:=⟨gb298,1,none⟩) (Kd.R_far (p:=⟨gb298,0,none⟩) (Kd.R_types HO_3.out BK298.out (by decide)) (fun _ hk=>hk.2) (.int .i64 ((rd_T71 l0 x14_1).f0))) (fun _ hk=>hk.2) (.int .i64 ((rd_T71 l0 x14_1).f1))) (fun _ hk=>trivial)⟩,⟨bw HB.out⟩⟩
      rw[if_neg c9] at H
      exact absurd H (by simp)
     rw[if_neg c8] at H
     exact absurd H (by simp)
    rw[if_neg c7] at H
    have c7b0:=decide_eq_false c7
    clear c7
    by_cases c53:(x3_1.length:Int) > 0
    ·
     rw[if_pos c53] at H
     have c53b0:=decide_eq_true c53
     have c53b1:decide (0<x3_1.length)=true:=decide_eq_true (by omega)
     clear c53
     obtain rfl:=Option.some.inj H
     clear H
     obtain⟨Ao54,co54,eo54⟩:=Kd.R_slice HO_3.out
     subst eo54
     go_wp2
     go_ret
     exact⟨rr_,bw HB.out⟩
    rw[if_neg c53] at H
    have c53b0:=decide_eq_false c53
    have c53b1:decide (0<x3_1.length)=false:=decide_eq_false (by omega)
    clear c53
    obtain rfl:=Option.some.inj H
    clear H
    obtain⟨Ao55,co55,eo55⟩:=Kd.R_slice HO_3.out
    subst eo55
    go_wp2
    go_ret
    exact⟨rr_,bw HB.out⟩
 replace c3:=Bool.eq_false_iff.mpr c3
 subst c3
 replace H:=iF_ H
 obtain rfl:=Option.some.inj H
 clear H
 go_enter Try.func53,Try.ntmps53
 go_wp2_with (first|((with_reducible refine gc_ 68 rfl ?_);refine goesL_ (some 9) rfl rfl Try.func68 (by kernel_rfl) rfl #[.slice A0 l0.length c0] rfl ar ?_;(with_reducible refine(impl_goodCode.calls k _ _ l0 false _ ?side1 ?side2 A2.out).mono ?_);(case side1=>repeat (first|exact HR0.out|(with_reducible refine Kd.C_alloc ?_ _)|(with_reducible refine Kd.C_drewN ?_ _)|(with_reducible refine Kd.C_drew ?_)));(case side2=>exact HC0.out);rintro e w56 ⟨rfl,hb⟩;refine⟨_,rfl,?_⟩;replace HB:=bs_ HB hb;(try clear hb)))
 go_ret
 exact⟨rr_,bw HB.out⟩

/-! ### impl_goodFunc: function 33 -/
def impl_goodFunc.f (k:Nat) (l0_0:List Int) (a0_1:Int) (l0_2:List Int) (l0_3:List (S71)):Option (Bool):=(impl_goodTypes.f k l0_0 6).bind fun t309=>(if t309=true then ((impl_goodTypes.f k l0_2 20).bind fun t310=>(if t310=true then ((impl_goodType.f a0_1).bind fun t311=>(if t311=true then ((impl_deepest.f k l0_3).bind fun t312=>(some (decide (t312 > 0)))) else (if a0_1=64 then ((impl_deepest.f k l0_3).bind fun t313=>(some (decide (t313 > 0)))) else (some false)))) else (some false))) else (some false))
theorem impl_goodFunc.calls (k:Nat) (A0_0:Option Addr) (c0_0:Nat) (l0_0:List Int) (a0_1:Int) (A0_2:Option Addr) (c0_2:Nat) (l0_2:List Int) (A0_3:Option Addr) (c0_3:Nat) (l0_3:List (S71)) (r:Bool) (w:World) (hr0_0:Kd.C (Kd.int .i64) w A0_0 l0_0.length l0_0) (hc0_0:l0_0.length≤c0_0) (hr0_2:Kd.C (Kd.int .i64) w A0_2 l0_2.length l0_2) (hc0_2:l0_2.length≤c0_2) (hr0_3:Kd.C k71 w A0_3 l0_3.length l0_3) (hc0_3:l0_3.length≤c0_3) (h:impl_goodFunc.f k l0_0 a0_1 l0_2 l0_3=some r):
  Calls Try.prog 33 #[.agg #[.slice A0_0 l0_0.length c0_0,.int .i64 a0_1,.slice A0_2 l0_2.length c0_2,.slice A0_3 l0_3.length c0_3]] w fun e w'=>e=.returned (.bool r)∧Below w.heap.size w w':=by
 have hu59:=Try.underlying59
 have HR0_0:=A_ hr0_0
 have HC0_0:=A_ hc0_0
 clear hr0_0 hc0_0
 have HR0_2:=A_ hr0_2
 have HC0_2:=A_ hc0_2
 clear hr0_2 hc0_2
 have HR0_3:=A_ hr0_3
 have HC0_3:=A_ hc0_3
 clear hr0_3 hc0_3
 have HB:=A_ (Below.refl w.heap.size w)
 have H:((impl_goodTypes.f k l0_0 6).bind fun t309=>(if t309=true then ((impl_goodTypes.f k l0_2 20).bind fun t310=>(if t310=true then ((impl_goodType.f a0_1).bind fun t311=>(if t311=true then ((impl_deepest.f k l0_3).bind fun t312=>(some (decide (t312 > 0)))) else (if a0_1=64 then ((impl_deepest.f k l0_3).bind fun t313=>(some (decide (t313 > 0)))) else (some false)))) else (some false))) else (some false)))=some r:=h
 clear h
 replace H:=bi_ H
 obtain⟨t309,A20,H⟩:=H
 have A2:=A_ A20
 clear A20
 by_cases c3:t309=true
 ·
  subst c3
  replace H:=iT_ H
  replace H:=bi_ H
  obtain⟨t310,A40,H⟩:=H
  have A4:=A_ A40
  clear A40
  by_cases c5:t310=true
  ·
   subst c5
   replace H:=iT_ H
   replace H:=bi_ H
   obtain⟨t311,A60,H⟩:=H
   have A6:=A_ A60
   clear A60
   by_cases c7:t311=true
   ·
    subst c7
    replace H:=iT_ H
    replace H:=bi_ H
    obtain⟨t312,A80,H⟩:=H
    have A8:=A_ A80
    clear A80
    obtain rfl:=Option.some.inj H
    clear H
    go_enter Try.func33,Try.ntmps33
    go_wp2_with (first|((with_reducible refine gd_ 1 rfl ?_);refine bx_ #[.slice A0_0 l0_0.length c0_0,.int .i64 a0_1,.slice A0_2 l0_2.length c0_2,.slice A0_3 l0_3.length c0_3] 59 ?_;intro gb308 hg w9 hbox hb;have BK308:=A_ hbox;have GW308:=gw_ hg HB;have GE308:=GW308;replace HB:=bs_ HB hb;clear hb hbox hg;obtain⟨hcz10_0,hcz10_1,hcz10_2,hcz10_3⟩:=cs4_ BK308.out;obtain⟨hfz10_0,hfz10_1,hfz10_2,hfz10_3⟩:=fz4_ BK308.out)|((with_reducible refine gc_ 51 rfl ?_);refine gn_ (some 5) Try.func51 (impl_goodTypes.calls k _ _ l0_0 6 true _ (cb_ HR0_0 HB) HC0_0.out A2.out) ?_;intro nd)|(go_at_call 51;(with_reducible refine(impl_goodTypes.calls k _ _ l0_2 20 true _ ?side1 ?side2 A4.out).mono ?_);(case side1=>exact cb_ HR0_2 HB);(case side2=>exact HC0_2.out);rintro e w' ⟨rfl,⟨nd,rfl⟩⟩)|(go_at_call 52;(with_reducible refine(impl_goodType.calls a0_1 true _ A6.out).mono ?_);rintro e w' ⟨rfl,⟨nd,rfl⟩⟩)|(go_at_call 53;(with_reducible refine(impl_deepest.calls k _ _ l0_3 t312 _ ?side1 ?side2 A8.out).mono ?_);(case side1=>exact cb_ HR0_3 HB);(case side2=>exact HC0_3.out);rintro e w11 ⟨rfl,hb⟩;replace BK308:=kb_ BK308 hb;replace HB:=bs_ HB hb;(try clear hb);(try clear hb2);(try clear hk);(try clear hi)))
    go_ret
    exact⟨rr_,bw HB.out⟩
   replace c7:=Bool.eq_false_iff.mpr c7
   subst c7
   replace H:=iF_ H
   by_cases c12:a0_1=64
   ·
    rw[if_pos c12] at H
    obtain⟨c12b0,c12b1⟩:=eT_ c12
    clear c12
    replace H:=bi_ H
    obtain⟨t313,A130,H⟩:=H
    have A13:=A_ A130
    clear A130
    obtain rfl:=Option.some.inj H
    clear H
    go_enter Try.func33,Try.ntmps33
    go_wp2_with (first|((with_reducible refine gd_ 1 rfl ?_);refine bx_ #[.slice A0_0 l0_0.length c0_0,.int .i64 a0_1,.slice A0_2 l0_2.length c0_2,.slice A0_3 l0_3.length c0_3] 59 ?_;intro gb308 hg w14 hbox hb;have BK308:=A_ hbox;have GW308:=gw_ hg HB;have GE308:=GW308;replace HB:=bs_ HB hb;clear hb hbox hg;obtain⟨hcz15_0,hcz15_1,hcz15_2,hcz15_3⟩:=cs4_ BK308.out;obtain⟨hfz15_0,hfz15_1,hfz15_2,hfz15_3⟩:=fz4_ BK308.out)|((with_reducible refine gc_ 51 rfl ?_);refine gn_ (some 5) Try.func51 (impl_goodTypes.calls k _ _ l0_0 6 true _ (cb_ HR0_0 HB) HC0_0.out A2.out) ?_;intro nd)|(go_at_call 51;(with_reducible refine(impl_goodTypes.calls k _ _ l0_2 20 true _ ?side1 ?side2 A4.out).mono ?_);(case side1=>exact cb_ HR0_2 HB);(case side2=>exact HC0_2.out);rintro e w' ⟨rfl,⟨nd,rfl⟩⟩)|(go_at_call 52;(with_reducible refine(impl_goodType.calls a0_1 false _ A6.out).mono ?_);rintro e w' ⟨rfl,⟨nd,rfl⟩⟩)|(go_at_call 53;(with_reducible refine(impl_deepest.calls k _ _ l0_3 t313 _ ?side1 ?side2 A13.out).mono ?_);(case side1=>exact cb_ HR0_3 HB);(case side2=>exact HC0_3.out);rintro e w16 ⟨rfl,hb⟩;replace BK308:=kb_ BK308 hb;replace HB:=bs_ HB hb;(try clear hb);(try clear hb2);(try clear hk);(try clear hi)))
    go_ret
    exact⟨rr_,bw HB.out⟩
   rw[if_neg c12] at H
   obtain⟨c12b0,c12b1⟩:=eF_ c12
   obtain rfl:=Option.some.inj H
   clear H
   go_enter Try.func33,Try.ntmps33
   go_wp2_with (first|((with_reducible refine gd_ 1 rfl ?_);refine bx_ #[.slice A0_0 l0_0.length c0_0,.int .i64 a0_1,.slice A0_2 l0_2.length c0_2,.slice A0_3 l0_3.length c0_3] 59 ?_;intro gb308 hg w17 hbox hb;have BK308:=A_ hbox;have GW308:=gw_ hg HB;have GE308:=GW308;replace HB:=bs_ HB hb;clear hb hbox hg;obtain⟨hcz18_0,hcz18_1,hcz18_2,hcz18_3⟩:=cs4_ BK308.out;obtain⟨hfz18_0,hfz18_1,hfz18_2,hfz18_3⟩:=fz4_ BK308.out)|((with_reducible refine gc_ 51 rfl ?_);refine gn_ (some 5) Try.func51 (impl_goodTypes.calls k _ _ l0_0 6 true _ (cb_ HR0_0 HB) HC0_0.out A2.out) ?_;intro nd)|(go_at_call 51;(with_reducible refine(impl_goodTypes.calls k _ _ l0_2 20 true _ ?side1 ?side2 A4.out).mono ?_);(case side1=>exact cb_ HR0_2 HB);(case side2=>exact HC0_2.out);rintro e w' ⟨rfl,⟨nd,rfl⟩⟩)|(go_at_call 52;(with_reducible refine(impl_goodType.calls a0_1 false _ A6.out).mono ?_);rintro e w' ⟨rfl,⟨nd,rfl⟩⟩))
   go_ret
   exact⟨rr_,bw HB.out⟩
  replace c5:=Bool.eq_false_iff.mpr c5
  subst c5
  replace H:=iF_ H
  obtain rfl:=Option.some.inj H
  clear H
  go_enter Try.func33,Try.ntmps33
  go_wp2_with (first|((with_reducible refine gd_ 1 rfl ?_);refine bx_ #[.slice A0_0 l0_0.length c0_0,.int .i64 a0_1,.slice A0_2 l0_2.length c0_2,.slice A0_3 l0_3.length c0_3] 59 ?_;intro gb308 hg w19 hbox hb;have BK308:=A_ hbox;have GW308:=gw_ hg HB;have GE308:=GW308;replace HB:=bs_ HB hb;clear hb hbox hg;obtain⟨hcz20_0,hcz20_1,hcz20_2,hcz20_3⟩:=cs4_ BK308.out;obtain⟨hfz20_0,hfz20_1,hfz20_2,hfz20_3⟩:=fz4_ BK308.out)|((with_reducible refine gc_ 51 rfl ?_);refine gn_ (some 5) Try.func51 (impl_goodTypes.calls k _ _ l0_0 6 true _ (cb_ HR0_0 HB) HC0_0.out A2.out) ?_;intro nd)|(go_at_call 51;(with_reducible refine(impl_goodTypes.calls k _ _ l0_2 20 false _ ?side1 ?side2 A4.out).mono ?_);(case side1=>exact cb_ HR0_2 HB);(case side2=>exact HC0_2.out);rintro e w' ⟨rfl,⟨nd,rfl⟩⟩))
  go_ret
  exact⟨rr_,bw HB.out⟩
 replace c3:=Bool.eq_false_iff.mpr c3
 subst c3
 replace H:=iF_ H
 obtain rfl:=Option.some.inj H
 clear H
 go_enter Try.func33,Try.ntmps33
 go_wp2_with (first|((with_reducible refine gd_ 1 rfl ?_);refine bx_ #[.slice A0_0 l0_0.length c0_0,.int .i64 a0_1,.slice A0_2 l0_2.length c0_2,.slice A0_3 l0_3.length c0_3] 59 ?_;intro gb308 hg w21 hbox hb;have BK308:=A_ hbox;have GW308:=gw_ hg HB;have GE308:=GW308;replace HB:=bs_ HB hb;clear hb hbox hg;obtain⟨hcz22_0,hcz22_1,hcz22_2,hcz22_3⟩:=cs4_ BK308.out;obtain⟨hfz22_0,hfz22_1,hfz22_2,hfz22_3⟩:=fz4_ BK308.out)|((with_reducible refine gc_ 51 rfl ?_);refine gn_ (some 5) Try.func51 (impl_goodTypes.calls k _ _ l0_0 6 false _ (cb_ HR0_0 HB) HC0_0.out A2.out) ?_;intro nd))
 go_ret
 exact⟨rr_,bw HB.out⟩

/-! ### impl_goodGlobal: function 34 -/
def impl_goodGlobal.f (a0_0:Int) (a0_1:Bool) (a0_2:Int):Option (Bool):=(impl_goodType.f a0_0).bind fun t315=>(if t315=true then (if a0_0=126 then (some true) else (some (decide (a0_2<4294967296)))) else (some false))
theorem impl_goodGlobal.calls (a0_0:Int) (a0_1:Bool) (a0_2:Int) (r:Bool) (w:World) (h:impl_goodGlobal.f a0_0 a0_1 a0_2=some r):
  Calls Try.prog 34 #[.agg #[.int .i64 a0_0,.bool a0_1,.int .u64 a0_2]] w fun e w'=>e=.returned (.bool r)∧Below w.heap.size w w':=by
 have hu63:=Try.underlying63
 have HB:=A_ (Below.refl w.heap.size w)
 have H:((impl_goodType.f a0_0).bind fun t315=>(if t315=true then (if a0_0=126 then (some true) else (some (decide (a0_2<4294967296)))) else (some false)))=some r:=h
 clear h
 replace H:=bi_ H
 obtain⟨t315,A20,H⟩:=H
 have A2:=A_ A20
 clear A20
 by_cases c3:t315=true
 ·
  subst c3
  replace H:=iT_ H
  by_cases c4:a0_0=126
  ·
   rw[if_pos c4] at H
   obtain⟨c4b0,c4b1⟩:=eT_ c4
   clear c4
   obtain rfl:=Option.some.inj H
   clear H
   go_enter Try.func34,Try.ntmps34
   go_wp2_with (first|((with_reducible refine gd_ 1 rfl ?_);refine bx_ #[.int .i64 a0_0,.bool a0_1,.int .u64 a0_2] 63 ?_;intro gb314 hg w5 hbox hb;have BK314:=A_ hbox;have GW314:=gw_ hg HB;have GE314:=GW314;replace HB:=bs_ HB hb;clear hb hbox hg;obtain⟨hcz6_0,hcz6_1,hcz6_2⟩:=cs3_ BK314.out;obtain⟨hfz6_0,hfz6_1,hfz6_2⟩:=fz3_ BK314.out)|((with_reducible refine gc_ 52 rfl ?_);refine gn_ (some 5) Try.func52 (impl_goodType.calls a0_0 true _ A2.out) ?_;intro nd))
   go_ret
   exact⟨rr_,bw HB.out⟩
  rw[if_neg c4] at H
  obtain⟨c4b0,c4b1⟩:=eF_ c4
  obtain rfl:=Option.some.inj H
  clear H
  go_enter Try.func34,Try.ntmps34
  go_wp2_with (first|((with_reducible refine gd_ 1 rfl ?_);refine bx_ #[.int .i64 a0_0,.bool a0_1,.int .u64 a0_2] 63 ?_;intro gb314 hg w7 hbox hb;have BK314:=A_ hbox;have GW314:=gw_ hg HB;have GE314:=GW314;replace HB:=bs_ HB hb;clear hb hbox hg;obtain⟨hcz8_0,hcz8_1,hcz8_2⟩:=cs3_ BK314.out;obtain⟨hfz8_0,hfz8_1,hfz8_2⟩:=fz3_ BK314.out)|((with_reducible refine gc_ 52 rfl ?_);refine gn_ (some 5) Try.func52 (impl_goodType.calls a0_0 true _ A2.out) ?_;intro nd))
  go_ret
  exact⟨rr_,bw HB.out⟩
 replace c3:=Bool.eq_false_iff.mpr c3
 subst c3
 replace H:=iF_ H
 obtain rfl:=Option.some.inj H
 clear H
 go_enter Try.func34,Try.ntmps34
 go_wp2_with (first|((with_reducible refine gd_ 1 rfl ?_);refine bx_ #[.int .i64 a0_0,.bool a0_1,.int .u64 a0_2] 63 ?_;intro gb314 hg w9 hbox hb;have BK314:=A_ hbox;have GW314:=gw_ hg HB;have GE314:=GW314;replace HB:=bs_ HB hb;clear hb hbox hg;obtain⟨hcz10_0,hcz10_1,hcz10_2⟩:=cs3_ BK314.out;obtain⟨hfz10_0,hfz10_1,hfz10_2⟩:=fz3_ BK314.out)|((with_reducible refine gc_ 52 rfl ?_);refine gn_ (some 5) Try.func52 (impl_goodType.calls a0_0 false _ A2.out) ?_;intro nd))
 go_ret
 exact⟨rr_,bw HB.out⟩

end Go.Proofs.Ytghogonibanieaa.Q

