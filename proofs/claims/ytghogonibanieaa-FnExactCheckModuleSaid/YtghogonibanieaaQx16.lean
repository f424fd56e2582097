-- Written by a program of this session; it walks the functions that the law reaches.
import Derived.Test.YtghogonibanieaaQx0
import Derived.Test.YtghogonibanieaaQx15
namespace Go.Proofs.Ytghogonibanieaa.Q
open Go.RowKit Go.Proofs.YtghogonibanieaaW.PrintWords Go.Proofs.YtghogonibanieaaW.PrintLast Go.Proofs.YtghogonibanieaaW.PrintMore
attribute [local go_sem] max2_int min2_int max_two min_two max_three min_three max_four min_four   -- for this text's walks alone
set_option linter.unusedVariables false
set_option linter.unusedSimpArgs false
set_option maxRecDepth 100000
set_option maxHeartbeats 8000000

/-! ### impl_formOf: function 76 -/
mutual
def impl_formOf.j0:Nat→Int→Int→Bool→Option (Int)
 |0,_,_,_=>none
 |k+1,x0,x3,x4=>if x4=true then (some 2) else (if x3=12 then (impl_formOf.j1 k x0 x3 (x3==12)) else (if x3=13 then (impl_formOf.j1 k x0 x3 (x3==13)) else (if x3=16 then (impl_formOf.j1 k x0 x3 (x3==16)) else (if x3=32 then (impl_formOf.j1 k x0 x3 (x3==32)) else (if x3=33 then (impl_formOf.j1 k x0 x3 (x3==33)) else (if x3=34 then (impl_formOf.j1 k x0 x3 (x3==34)) else (if x3=35 then (impl_formOf.j1 k x0 x3 (x3==35)) else (impl_formOf.j1 k x0 x3 (x3==36)))))))))
def impl_formOf.j1:Nat→Int→Int→Bool→Option (Int)
 |0,_,_,_=>none
 |k+1,x0,x3,x8=>if x8=true then (some 3) else (if x3=40 then (impl_formOf.j2 k x0 x3 (x3==40)) else (if x3=41 then (impl_formOf.j2 k x0 x3 (x3==41)) else (if x3=54 then (impl_formOf.j2 k x0 x3 (x3==54)) else (impl_formOf.j2 k x0 x3 (x3==55)))))
def impl_formOf.j2:Nat→Int→Int→Bool→Option (Int)
 |0,_,_,_=>none
 |k+1,x0,x3,x17=>if x17=true then (some 4) else (if x3=65 then (some 5) else (if x3=66 then (some 6) else (if x3=67 then (some 7) else (if x3=0 then (impl_formOf.j3 k x0 (x3==0)) else (if x3=1 then (impl_formOf.j3 k x0 (x3==1)) else (if x3=5 then (impl_formOf.j3 k x0 (x3==5)) else (if x3=11 then (impl_formOf.j3 k x0 (x3==11)) else (if x3=15 then (impl_formOf.j3 k x0 (x3==15)) else (if x3=26 then (impl_formOf.j3 k x0 (x3==26)) else (if x3=27 then (impl_formOf.j3 k x0 (x3==27)) else (if x3=63 then (impl_formOf.j3 k x0 (x3==63)) else (if x3=64 then (impl_formOf.j3 k x0 (x3==64)) else (if x3=176 then (impl_formOf.j3 k x0 (x3==176)) else (if x3=177 then (impl_formOf.j3 k x0 (x3==177)) else (if x3=178 then (impl_formOf.j3 k x0 (x3==178)) else (if x3=179 then (impl_formOf.j3 k x0 (x3==179)) else (impl_formOf.j3 k x0 (x3==180))))))))))))))))))
def impl_formOf.j3:Nat→Int→Bool→Option (Int)
 |0,_,_=>none
 |k+1,x0,x28=>if x28=true then (some 1) else (if x0 > 96 then (if x0≤123 then (some 1) else (if x0 > 128 then (if x0≤155 then (some 1) else (if x0 > 160 then (if x0≤169 then (some 1) else (some 0)) else (some 0))) else (if x0 > 160 then (if x0≤169 then (some 1) else (some 0)) else (some 0)))) else (if x0 > 128 then (if x0≤155 then (some 1) else (if x0 > 160 then (if x0≤169 then (some 1) else (some 0)) else (some 0))) else (if x0 > 160 then (if x0≤169 then (some 1) else (some 0)) else (some 0))))
end
def impl_formOf.f (k:Nat) (a0:Int):Option (Int):=if a0=2 then (impl_formOf.j0 k a0 a0 (a0==2)) else (if a0=3 then (impl_formOf.j0 k a0 a0 (a0==3)) else (impl_formOf.j0 k a0 a0 (a0==4)))
theorem impl_formOf.mono_l:∀ k,(∀ y0 y1 y2,LeO (impl_formOf.j0 k y0 y1 y2) (impl_formOf.j0 (k+1) y0 y1 y2))∧(∀ y0 y1 y2,LeO (impl_formOf.j1 k y0 y1 y2) (impl_formOf.j1 (k+1) y0 y1 y2))∧(∀ y0 y1 y2,LeO (impl_formOf.j2 k y0 y1 y2) (impl_formOf.j2 (k+1) y0 y1 y2))∧(∀ y0 y1,LeO (impl_formOf.j3 k y0 y1) (impl_formOf.j3 (k+1) y0 y1))
 |0=>⟨fun _ _ _ r h=>by simp[impl_formOf.j0] at h,fun _ _ _ r h=>by simp[impl_formOf.j1] at h,fun _ _ _ r h=>by simp[impl_formOf.j2] at h,fun _ _ r h=>by simp[impl_formOf.j3] at h⟩
 |k+1=>by
  obtain⟨ih0,ih1,ih2,ih3⟩:=impl_formOf.mono_l k
  refine⟨?_,?_,?_,?_⟩
  ·
   intro y0 y1 y2
   unfold impl_formOf.j0
   repeat' first
   |(with_reducible exact ih0 _ _ _)
   |(with_reducible exact ih1 _ _ _)
   |(with_reducible exact ih2 _ _ _)
   |(with_reducible exact ih3 _ _)
   |(with_reducible exact LeO.refl _)
   |(with_reducible exact LeO.none _)
   |(with_reducible refine LeO.ite ?_ ?_)
   |(with_reducible refine LeO.bind ?_ (fun _=>?_))
   |exact ih0 _ _ _
   |exact ih1 _ _ _
   |exact ih2 _ _ _
   |exact ih3 _ _
   |exact LeO.none _
   |refine LeO.ite ?_ ?_
   |refine LeO.bind ?_ (fun _=>?_)
  ·
   intro y0 y1 y2
   unfold impl_formOf.j1
   repeat' first
   |(with_reducible exact ih0 _ _ _)
   |(with_reducible exact ih1 _ _ _)
   |(with_reducible exact ih2 _ _ _)
   |(with_reducible exact ih3 _ _)
   |(with_reducible exact LeO.refl _)
   |(with_reducible exact LeO.none _)
   |(with_reducible refine LeO.ite ?_ ?_)
   |(with_reducible refine LeO.bind ?_ (fun _=>?_))
   |exact ih0 _ _ _
   |exact ih1 _ _ _
   |exact ih2 _ _ _
   |exact ih3 _ _
   |exact LeO.none _
   |refine LeO.ite ?_ ?_
   |refine LeO.bind ?_ (fun _=>?_)
  ·
   intro y0 y1 y2
   unfold impl_formOf.j2
   repeat' first
   |(with_reducible exact ih0 _ _ _)
   |(with_reducible exact ih1 _ _ _)
   |(with_reducible exact ih2 _ _ _)
   |(with_reducible exact ih3 _ _)
   |(with_reducible exact LeO.refl _)
   |(with_reducible exact LeO.none _)
   |(with_reducible refine LeO.ite ?_ ?_)
   |(with_reducible refine LeO.bind ?_ (fun _=>?_))
   |exact ih0 _ _ _
   |exact ih1 _ _ _
   |exact ih2 _ _ _
   |exact ih3 _ _
   |exact LeO.none _
   |refine LeO.ite ?_ ?_
   |refine LeO.bind ?_ (fun _=>?_)
  intro y0 y1
  unfold impl_formOf.j3
  repeat' first
  |(with_reducible exact ih0 _ _ _)
  |(with_reducible exact ih1 _ _ _)
  |(with_reducible exact ih2 _ _ _)
  |(with_reducible exact ih3 _ _)
  |(with_reducible exact LeO.refl _)
  |(with_reducible exact LeO.none _)
  |(with_reducible refine LeO.ite ?_ ?_)
  |(with_reducible refine LeO.bind ?_ (fun _=>?_))
  |exact ih0 _ _ _
  |exact ih1 _ _ _
  |exact ih2 _ _ _
  |exact ih3 _ _
  |exact LeO.none _
  |refine LeO.ite ?_ ?_
  |refine LeO.bind ?_ (fun _=>?_)
theorem impl_formOf.mono:∀ a0 k,LeO (impl_formOf.f k a0) (impl_formOf.f (k+1) a0):=by
 intro a0 k
 obtain⟨ih0,ih1,ih2,ih3⟩:=impl_formOf.mono_l k
 unfold impl_formOf.f
 repeat' first
   |(with_reducible exact ih0 _ _ _)
   |(with_reducible exact ih1 _ _ _)
   |(with_reducible exact ih2 _ _ _)
   |(with_reducible exact ih3 _ _)
   |(with_reducible exact LeO.refl _)
   |(with_reducible exact LeO.none _)
   |(with_reducible refine LeO.ite ?_ ?_)
   |(with_reducible refine LeO.bind ?_ (fun _=>?_))
   |exact ih0 _ _ _
   |exact ih1 _ _ _
   |exact ih2 _ _ _
   |exact ih3 _ _
   |exact LeO.none _
   |refine LeO.ite ?_ ?_
   |refine LeO.bind ?_ (fun _=>?_)
theorem impl_formOf.calls (k:Nat) (a0:Int) (r:Int) (w:World) (h:impl_formOf.f k a0=some r):
  Calls Try.prog 76 #[.int .i64 a0] w fun e w'=>e=.returned (.int .i64 r)∧Drawn0 w w':=by
 have H:(if a0=2 then (impl_formOf.j0 k a0 a0 (a0==2)) else (if a0=3 then (impl_formOf.j0 k a0 a0 (a0==3)) else (impl_formOf.j0 k a0 a0 (a0==4))))=some r:=h
 clear h
 have HC2:=A_ H
 clear H
 go_enter Try.func76,Try.ntmps76
 go_upto_if 4 with (fail)
 go_cut [4] (fun v4 wc=>∃ (kq:Nat) (x4_1:Bool),v4=.bool x4_1∧Aside0 (impl_formOf.j0 kq a0 a0 x4_1=some r)∧Aside0 (kq≤k)∧Drawn0 w wc)
 case first=>
  have H:=HC2.out
  clear HC2
  by_cases c3:a0=2
  ·
   rw[if_pos c3] at H
   obtain⟨c3b0,c3b1⟩:=eT_ c3
   clear c3
   (first|rw[c3b0]|(simp only[i64_w,i32_w];rw[c3b0])|skip)
   have H':=A_ H
   clear H
   go_wp2
   go_meet
   case rel=>exact⟨_,((a0==2)),rs_,H',⟨by first|omega|exact Nat.le_refl _⟩,dr_⟩
  rw[if_neg c3] at H
  obtain⟨c3b0,c3b1⟩:=eF_ c3
  (first|rw[c3b0]|(simp only[i64_w,i32_w];rw[c3b0])|skip)
  by_cases c4:a0=3
  ·
   rw[if_pos c4] at H
   obtain⟨c4b0,c4b1⟩:=eT_ c4
   clear c4
   have H':=A_ H
   clear H
   go_wp2
   go_meet
   case rel=>exact⟨_,((a0==3)),rs_,H',⟨by first|omega|exact Nat.le_refl _⟩,dr_⟩
  rw[if_neg c4] at H
  obtain⟨c4b0,c4b1⟩:=eF_ c4
  have H':=A_ H
  clear H
  go_wp2
  go_meet
  case rel=>exact⟨_,((a0==4)),rs_,H',⟨by first|omega|exact Nat.le_refl _⟩,dr_⟩
 case rest=>
  clear HC2
  obtain⟨kq,x4_1,rfl,HA,HJ1,⟨mc1,rfl⟩⟩:=hcut
  cases kq with
  |zero=>exact absurd HA.out (by simp[impl_formOf.j0])
  |succ kj1=>
   have H:=HA.out
   clear HA
   simp only[impl_formOf.j0] at H
   by_cases c5:x4_1=true
   ·
    subst c5
    replace H:=iT_ H
    obtain rfl:=Option.some.inj H
    clear H
    go_wp2
    go_ret
    exact⟨rs_,dr_⟩
   replace c5:=Bool.eq_false_iff.mpr c5
   subst c5
   replace H:=iF_ H
   have HC6:=A_ H
   clear H
   go_upto_if 8 with (fail)
   go_cut [8] (fun v8 wc=>∃ (kq:Nat) (x8_5:Bool),v8=.bool x8_5∧Aside0 (impl_formOf.j1 kq a0 a0 x8_5=some r)∧Aside0 (kq≤kj1)∧Drawn0 w wc)
   case first=>
    have H:=HC6.out
    clear HC6
    by_cases c7:a0=12
    ·
     rw[if_pos c7] at H
     obtain⟨c7b0,c7b1⟩:=eT_ c7
     clear c7
     (first|rw[c7b0]|(simp only[i64_w,i32_w];rw[c7b0])|skip)
     have H':=A_ H
     clear H
     go_wp2
     go_meet
     case rel=>exact⟨_,((a0==12)),rs_,H',⟨by have:=HJ1.out;first|omega|exact Nat.le_refl _⟩,dr_⟩
    rw[if_neg c7] at H
    obtain⟨c7b0,c7b1⟩:=eF_ c7
    (first|rw[c7b0]|(simp only[i64_w,i32_w];rw[c7b0])|skip)
    by_cases c8:a0=13
    ·
     rw[if_pos c8] at H
     obtain⟨c8b0,c8b1⟩:=eT_ c8
     clear c8
     have H':=A_ H
     clear H
     go_wp2
     go_meet
     case rel=>exact⟨_,((a0==13)),rs_,H',⟨by have:=HJ1.out;first|omega|exact Nat.le_refl _⟩,dr_⟩
    rw[if_neg c8] at H
    obtain⟨c8b0,c8b1⟩:=eF_ c8
    by_cases c9:a0=16
    ·
     rw[if_pos c9] at H
     obtain⟨c9b0,c9b1⟩:=eT_ c9
     clear c9
     have H':=A_ H
     clear H
     go_wp2
     go_meet
     case rel=>exact⟨_,((a0==16)),rs_,H',⟨by have:=HJ1.out;first|omega|exact Nat.le_refl _⟩,dr_⟩
    rw[if_neg c9] at H
    obtain⟨c9b0,c9b1⟩:=eF_ c9
    by_cases c10:a0=32
    ·
     rw[if_pos c10] at H
     obtain⟨c10b0,c10b1⟩:=eT_ c10
     clear c10
     have H':=A_ H
     clear H
     go_wp2
     go_meet
     case rel=>exact⟨_,((a0==32)),rs_,H',⟨by have:=HJ1.out;first|omega|exact Nat.le_refl _⟩,dr_⟩
    rw[if_neg c10] at H
    obtain⟨c10b0,c10b1⟩:=eF_ c10
    by_cases c11:a0=33
    ·
     rw[if_pos c11] at H
     obtain⟨c11b0,c11b1⟩:=eT_ c11
     clear c11
     have H':=A_ H
     clear H
     go_wp2
     go_meet
     case rel=>exact⟨_,((a0==33)),rs_,H',⟨by have:=HJ1.out;first|omega|exact Nat.le_refl _⟩,dr_⟩
    rw[if_neg c11] at H
    obtain⟨c11b0,c11b1⟩:=eF_ c11
    by_cases c12:a0=34
    ·
     rw[if_pos c12] at H
     obtain⟨c12b0,c12b1⟩:=eT_ c12
     clear c12
     have H':=A_ H
     clear H
     go_wp2
     go_meet
     case rel=>exact⟨_,((a0==34)),rs_,H',⟨by have:=HJ1.out;first|omega|exact Nat.le_refl _⟩,dr_⟩
    rw[if_neg c12] at H
    obtain⟨c12b0,c12b1⟩:=eF_ c12
    by_cases c13:a0=35
    ·
     rw[if_pos c13] at H
     obtain⟨c13b0,c13b1⟩:=eT_ c13
     clear c13
     have H':=A_ H
     clear H
     go_wp2
     go_meet
     case rel=>exact⟨_,((a0==35)),rs_,H',⟨by have:=HJ1.out;first|omega|exact Nat.le_refl _⟩,dr_⟩
    rw[if_neg c13] at H
    obtain⟨c13b0,c13b1⟩:=eF_ c13
    have H':=A_ H
    clear H
    go_wp2
    go_meet
    case rel=>exact⟨_,((a0==36)),rs_,H',⟨by have:=HJ1.out;first|omega|exact Nat.le_refl _⟩,dr_⟩
   case rest=>
    clear HC6
    try clear c5
    obtain⟨kq,x8_5,rfl,HA,HJ5,⟨mc5,rfl⟩⟩:=hcut
    cases kq with
    |zero=>exact absurd HA.out (by simp[impl_formOf.j1])
    |succ kj5=>
     have H:=HA.out
     clear HA
     simp only[impl_formOf.j1] at H
     by_cases c14:x8_5=true
     ·
      subst c14
      replace H:=iT_ H
      obtain rfl:=Option.some.inj H
      clear H
      go_wp2
      go_ret
      exact⟨rs_,dr_⟩
     replace c14:=Bool.eq_false_iff.mpr c14
     subst c14
     replace H:=iF_ H
     have HC15:=A_ H
     clear H
     go_upto_if 17 with (fail)
     go_cut [17] (fun v17 wc=>∃ (kq:Nat) (x17_14:Bool),v17=.bool x17_14∧Aside0 (impl_formOf.j2 kq a0 a0 x17_14=some r)∧Aside0 (kq≤kj5)∧Drawn0 w wc)
     case first=>
      have H:=HC15.out
      clear HC15
      by_cases c16:a0=40
      ·
       rw[if_pos c16] at H
       obtain⟨c16b0,c16b1⟩:=eT_ c16
       clear c16
       (first|rw[c16b0]|(simp only[i64_w,i32_w];rw[c16b0])|skip)
       have H':=A_ H
       clear H
       go_wp2
       go_meet
       case rel=>exact⟨_,((a0==40)),rs_,H',⟨by have:=HJ1.out;have:=HJ5.out;first|omega|exact Nat.le_refl _⟩,dr_⟩
      rw[if_neg c16] at H
      obtain⟨c16b0,c16b1⟩:=eF_ c16
      (first|rw[c16b0]|(simp only[i64_w,i32_w];rw[c16b0])|skip)
      by_cases c17:a0=41
      ·
       rw[if_pos c17] at H
       obtain⟨c17b0,c17b1⟩:=eT_ c17
       clear c17
       have H':=A_ H
       clear H
       go_wp2
       go_meet
       case rel=>exact⟨_,((a0==41)),rs_,H',⟨by have:=HJ1.out;have:=HJ5.out;first|omega|exact Nat.le_refl _⟩,dr_⟩
      rw[if_neg c17] at H
      obtain⟨c17b0,c17b1⟩:=eF_ c17
      by_cases c18:a0=54
      ·
       rw[if_pos c18] at H
       obtain⟨c18b0,c18b1⟩:=eT_ c18
       clear c18
       have H':=A_ H
       clear H
       go_wp2
       go_meet
       case rel=>exact⟨_,((a0==54)),rs_,H',⟨by have:=HJ1.out;have:=HJ5.out;first|omega|exact Nat.le_refl _⟩,dr_⟩
      rw[if_neg c18] at H
      obtain⟨c18b0,c18b1⟩:=eF_ c18
      have H':=A_ H
      clear H
      go_wp2
      go_meet
      case rel=>exact⟨_,((a0==55)),rs_,H',⟨by have:=HJ1.out;have:=HJ5.out;first|omega|exact Nat.le_refl _⟩,dr_⟩
     case rest=>
      clear HC15
      try clear c5 c14
      obtain⟨kq,x17_14,rfl,HA,HJ14,⟨mc14,rfl⟩⟩:=hcut
      cases kq with
      |zero=>exact absurd HA.out (by simp[impl_formOf.j2])
      |succ kj14=>
       have H:=HA.out
       clear HA
       simp only[impl_formOf.j2] at H
       by_cases c19:x17_14=true
       ·
        subst c19
        replace H:=iT_ H
        obtain rfl:=Option.some.inj H
        clear H
        go_wp2
        go_ret
        exact⟨rs_,dr_⟩
       replace c19:=Bool.eq_false_iff.mpr c19
       subst c19
       replace H:=iF_ H
       by_cases c20:a0=65
       ·
        rw[if_pos c20] at H
        obtain⟨c20b0,c20b1⟩:=eT_ c20
        clear c20
        obtain rfl:=Option.some.inj H
        clear H
        go_wp2
        go_ret
        exact⟨rs_,dr_⟩
       rw[if_neg c20] at H
       obtain⟨c20b0,c20b1⟩:=eF_ c20
       by_cases c21:a0=66
       ·
        rw[if_pos c21] at H
        obtain⟨c21b0,c21b1⟩:=eT_ c21
        clear c21
        obtain rfl:=Option.some.inj H
        clear H
        go_wp2
        go_ret
        exact⟨rs_,dr_⟩
       rw[if_neg c21] at H
       obtain⟨c21b0,c21b1⟩:=eF_ c21
       by_cases c22:a0=67
       ·
        rw[if_pos c22] at H
        obtain⟨c22b0,c22b1⟩:=eT_ c22
        clear c22
        obtain rfl:=Option.some.inj H
        clear H
        go_wp2
        go_ret
        exact⟨rs_,dr_⟩
       rw[if_neg c22] at H
       obtain⟨c22b0,c22b1⟩:=eF_ c22
       have HC23:=A_ H
       clear H
       go_upto_if 28 with (fail)
       go_cut [28] (fun v28 wc=>∃ (kq:Nat) (x28_22:Bool),v28=.bool x28_22∧Aside0 (impl_formOf.j3 kq a0 x28_22=some r)∧Aside0 (kq≤kj14)∧Drawn0 w wc)
       case first=>
        have H:=HC23.out
        clear HC23
        by_cases c24:a0=0
        ·
         rw[if_pos c24] at H
         obtain⟨c24b0,c24b1⟩:=eT_ c24
         clear c24
         (first|rw[c24b0]|(simp only[i64_w,i32_w];rw[c24b0])|skip)
         have H':=A_ H
         clear H
         go_wp2
         go_meet
         case rel=>exact⟨_,((a0==0)),rs_,H',⟨by have:=HJ1.out;have:=HJ5.out;have:=HJ14.out;first|omega|exact Nat.le_refl _⟩,dr_⟩
        rw[if_neg c24] at H
        obtain⟨c24b0,c24b1⟩:=eF_ c24
        (first|rw[c24b0]|(simp only[i64_w,i32_w];rw[c24b0])|skip)
        by_cases c25:a0=1
        ·
         rw[if_pos c25] at H
         obtain⟨c25b0,c25b1⟩:=eT_ c25
         clear c25
         have H':=A_ H
         clear H
         go_wp2
         go_meet
         case rel=>exact⟨_,((a0==1)),rs_,H',⟨by have:=HJ1.out;have:=HJ5.out;have:=HJ14.out;first|omega|exact Nat.le_refl _⟩,dr_⟩
        rw[if_neg c25] at H
        obtain⟨c25b0,c25b1⟩:=eF_ c25
        by_cases c26:a0=5
        ·
         rw[if_pos c26] at H
         obtain⟨c26b0,c26b1⟩:=eT_ c26
         clear c26
         have H':=A_ H
         clear H
         go_wp2
         go_meet
         case rel=>exact⟨_,((a0==5)),rs_,H',⟨by have:=HJ1.out;have:=HJ5.out;have:=HJ14.out;first|omega|exact Nat.le_refl _⟩,dr_⟩
        rw[if_neg c26] at H
        obtain⟨c26b0,c26b1⟩:=eF_ c26
        by_cases c27:a0=11
        ·
         rw[if_pos c27] at H
         obtain⟨c27b0,c27b1⟩:=eT_ c27
         clear c27
         have H':=A_ H
         clear H
         go_wp2
         go_meet
         case rel=>exact⟨_,((a0==11)),rs_,H',⟨by have:=HJ1.out;have:=HJ5.out;have:=HJ14.out;first|omega|exact Nat.le_refl _⟩,dr_⟩
        rw[if_neg c27] at H
        obtain⟨c27b0,c27b1⟩:=eF_ c27
        by_cases c28:a0=15
        ·
         rw[if_pos c28] at H
         obtain⟨c28b0,c28b1⟩:=eT_ c28
         clear c28
         have H':=A_ H
         clear H
         go_wp2
         go_meet
         case rel=>exact⟨_,((a0==15)),rs_,H',⟨by have:=HJ1.out;have:=HJ5.out;have:=HJ14.out;first|omega|exact Nat.le_refl _⟩,dr_⟩
        rw[if_neg c28] at H
        obtain⟨c28b0,c28b1⟩:=eF_ c28
        by_cases c29:a0=26
        ·
         rw[if_pos c29] at H
         obtain⟨c29b0,c29b1⟩:=eT_ c29
         clear c29
         have H':=A_ H
         clear H
         go_wp2
         go_meet
         case rel=>exact⟨_,((a0==26)),rs_,H',⟨by have:=HJ1.out;have:=HJ5.out;have:=HJ14.out;first|omega|exact Nat.le_refl _⟩,dr_⟩
        rw[if_neg c29] at H
        obtain⟨c29b0,c29b1⟩:=eF_ c29
        by_cases c30:a0=27
        ·
         rw[if_pos c30] at H
         obtain⟨c30b0,c30b1⟩:=eT_ c30
         clear c30
         have H':=A_ H
         clear H
         go_wp2
         go_meet
         case rel=>exact⟨_,((a0==27)),rs_,H',⟨by have:=HJ1.out;have:=HJ5.out;have:=HJ14.out;first|omega|exact Nat.le_refl _⟩,dr_⟩
        rw[if_neg c30] at H
        obtain⟨c30b0,c30b1⟩:=eF_ c30
        by_cases c31:a0=63
        ·
         rw[if_pos c31] at H
         obtain⟨c31b0,c31b1⟩:=eT_ c31
         clear c31
         have H':=A_ H
         clear H
         go_wp2
         go_meet
         case rel=>exact⟨_,((a0==63)),rs_,H',⟨by have:=HJ1.out;have:=HJ5.out;have:=HJ14.out;first|omega|exact Nat.le_refl _⟩,dr_⟩
        rw[if_neg c31] at H
        obtain⟨c31b0,c31b1⟩:=eF_ c31
        by_cases c32:a0=64
        ·
         rw[if_pos c32] at H
         obtain⟨c32b0,c32b1⟩:=eT_ c32
         clear c32
         have H':=A_ H
         clear H
         go_wp2
         go_meet
         case rel=>exact⟨_,((a0==64)),rs_,H',⟨by have:=HJ1.out;have:=HJ5.out;have:=HJ14.out;first|omega|exact Nat.le_refl _⟩,dr_⟩
        rw[if_neg c32] at H
        obtain⟨c32b0,c32b1⟩:=eF_ c32
        by_cases c33:a0=176
        ·
         rw[if_pos c33] at H
         obtain⟨c33b0,c33b1⟩:=eT_ c33
         clear c33
         have H':=A_ H
         clear H
         go_wp2
         go_meet
         case rel=>exact⟨_,((a0==176)),rs_,H',⟨by have:=HJ1.out;have:=HJ5.out;have:=HJ14.out;first|omega|exact Nat.le_refl _⟩,dr_⟩
        rw[if_neg c33] at H
        obtain⟨c33b0,c33b1⟩:=eF_ c33
        by_cases c34:a0=177
        ·
         rw[if_pos c34] at H
         obtain⟨c34b0,c34b1⟩:=eT_ c34
         clear c34
         have H':=A_ H
         clear H
         go_wp2
         go_meet
         case rel=>exact⟨_,((a0==177)),rs_,H',⟨by have:=HJ1.out;have:=HJ5.out;have:=HJ14.out;first|omega|exact Nat.le_refl _⟩,dr_⟩
        rw[if_neg c34] at H
        obtain⟨c34b0,c34b1⟩:=eF_ c34
        by_cases c35:a0=178
        ·
         rw[if_pos c35] at H
         obtain⟨c35b0,c35b1⟩:=eT_ c35
         clear c35
         have H':=A_ H
         clear H
         go_wp2
         go_meet
         case rel=>exact⟨_,((a0==178)),rs_,H',⟨by have:=HJ1.out;have:=HJ5.out;have:=HJ14.out;first|omega|exact Nat.le_refl _⟩,dr_⟩
        rw[if_neg c35] at H
        obtain⟨c35b0,c35b1⟩:=eF_ c35
        by_cases c36:a0=179
        ·
         rw[if_pos c36] at H
         obtain⟨c36b0,c36b1⟩:=eT_ c36
         clear c36
         have H':=A_ H
         clear H
         go_wp2
         go_meet
         case rel=>exact⟨_,((a0==179)),rs_,H',⟨by have:=HJ1.out;have:=HJ5.out;have:=HJ14.out;first|omega|exact Nat.le_refl _⟩,dr_⟩
        rw[if_neg c36] at H
        obtain⟨c36b0,c36b1⟩:=eF_ c36
        have H':=A_ H
        clear H
        go_wp2
        go_meet
        case rel=>exact⟨_,((a0==180)),rs_,H',⟨by have:=HJ1.out;have:=HJ5.out;have:=HJ14.out;first|omega|exact Nat.le_refl _⟩,dr_⟩
       case rest=>
        clear HC23
        try clear c5 c14 c19 c20 c20b0 c20b1 c21 c21b0 c21b1 c22 c22b0 c22b1
        obtain⟨kq,x28_22,rfl,HA,HJ22,⟨mc22,rfl⟩⟩:=hcut
        cases kq with
        |zero=>exact absurd HA.out (by simp[impl_formOf.j3])
        |succ kj22=>
         have H:=HA.out
         clear HA
         simp only[impl_formOf.j3] at H
         by_cases c37:x28_22=true
         ·
          subst c37
          replace H:=iT_ H
          obtain rfl:=Option.some.inj H
          clear H
          go_wp2
          go_ret
          exact⟨rs_,dr_⟩
         replace c37:=Bool.eq_false_iff.mpr c37
         subst c37
         replace H:=iF_ H
         by_cases c38:a0 > 96
         ·
          rw[if_pos c38] at H
          have c38b0:=decide_eq_true c38
          clear c38
          by_cases c39:a0≤123
          ·
           rw[if_pos c39] at H
           have c39b0:=decide_eq_true c39
           clear c39
           obtain rfl:=Option.some.inj H
           clear H
           go_wp2
           go_ret
           exact⟨rs_,dr_⟩
          rw[if_neg c39] at H
          have c39b0:=decide_eq_false c39
          clear c39
          by_cases c40:a0 > 128
          ·
           rw[if_pos c40] at H
           have c40b0:=decide_eq_true c40
           clear c40
           by_cases c41:a0≤155
           ·
            rw[if_pos c41] at H
            have c41b0:=decide_eq_true c41
            clear c41
            obtain rfl:=Option.some.inj H
            clear H
            go_wp2
            go_ret
            exact⟨rs_,dr_⟩
           rw[if_neg c41] at H
           have c41b0:=decide_eq_false c41
           clear c41
           by_cases c42:a0 > 160
           ·
            rw[if_pos c42] at H
            have c42b0:=decide_eq_true c42
            clear c42
            by_cases c43:a0≤169
            ·
             rw[if_pos c43] at H
             have c43b0:=decide_eq_true c43
             clear c43
             obtain rfl:=Option.some.inj H
             clear H
             go_wp2
             go_ret
             exact⟨rs_,dr_⟩
            rw[if_neg c43] at H
            have c43b0:=decide_eq_false c43
            clear c43
            obtain rfl:=Option.some.inj H
            clear H
            go_wp2
            go_ret
            exact⟨rs_,dr_⟩
           rw[if_neg c42] at H
           have c42b0:=decide_eq_false c42
           clear c42
           obtain rfl:=Option.some.inj H
           clear H
           go_wp2
           go_ret
           exact⟨rs_,dr_⟩
          rw[if_neg c40] at H
          have c40b0:=decide_eq_false c40
          clear c40
          by_cases c44:a0 > 160
          ·
           rw[if_pos c44] at H
           have c44b0:=decide_eq_true c44
           clear c44
           by_cases c45:a0≤169
           ·
            rw[if_pos c45] at H
            have c45b0:=decide_eq_true c45
            clear c45
            obtain rfl:=Option.some.inj H
            clear H
            go_wp2
            go_ret
            exact⟨rs_,dr_⟩
           rw[if_neg c45] at H
           have c45b0:=decide_eq_false c45
           clear c45
           obtain rfl:=Option.some.inj H
           clear H
           go_wp2
           go_ret
           exact⟨rs_,dr_⟩
          rw[if_neg c44] at H
          have c44b0:=decide_eq_false c44
          clear c44
          obtain rfl:=Option.some.inj H
          clear H
          go_wp2
          go_ret
          exact⟨rs_,dr_⟩
         rw[if_neg c38] at H
         have c38b0:=decide_eq_false c38
         clear c38
         by_cases c46:a0 > 128
         ·
          rw[if_pos c46] at H
          have c46b0:=decide_eq_true c46
          clear c46
          by_cases c47:a0≤155
          ·
           rw[if_pos c47] at H
           have c47b0:=decide_eq_true c47
           clear c47
           obtain rfl:=Option.some.inj H
           clear H
           go_wp2
           go_ret
           exact⟨rs_,dr_⟩
          rw[if_neg c47] at H
          have c47b0:=decide_eq_false c47
          clear c47
          by_cases c48:a0 > 160
          ·
           rw[if_pos c48] at H
           have c48b0:=decide_eq_true c48
           clear c48
           by_cases c49:a0≤169
           ·
            rw[if_pos c49] at H
            have c49b0:=decide_eq_true c49
            clear c49
            obtain rfl:=Option.some.inj H
            clear H
            go_wp2
            go_ret
            exact⟨rs_,dr_⟩
           rw[if_neg c49] at H
           have c49b0:=decide_eq_false c49
           clear c49
           obtain rfl:=Option.some.inj H
           clear H
           go_wp2
           go_ret
           exact⟨rs_,dr_⟩
          rw[if_neg c48] at H
          have c48b0:=decide_eq_false c48
          clear c48
          obtain rfl:=Option.some.inj H
          clear H
          go_wp2
          go_ret
          exact⟨rs_,dr_⟩
         rw[if_neg c46] at H
         have c46b0:=decide_eq_false c46
         clear c46
         by_cases c50:a0 > 160
         ·
          rw[if_pos c50] at H
          have c50b0:=decide_eq_true c50
          clear c50
          by_cases c51:a0≤169
          ·
           rw[if_pos c51] at H
           have c51b0:=decide_eq_true c51
           clear c51
           obtain rfl:=Option.some.inj H
           clear H
           go_wp2
           go_ret
           exact⟨rs_,dr_⟩
          rw[if_neg c51] at H
          have c51b0:=decide_eq_false c51
          clear c51
          obtain rfl:=Option.some.inj H
          clear H
          go_wp2
          go_ret
          exact⟨rs_,dr_⟩
         rw[if_neg c50] at H
         have c50b0:=decide_eq_false c50
         clear c50
         obtain rfl:=Option.some.inj H
         clear H
         go_wp2
         go_ret
         exact⟨rs_,dr_⟩

/-! ### impl_GoodIns: function 81 -/
def impl_GoodIns.f (k:Nat) (a0_0:Int) (a0_1:Int):Option (Bool):=(impl_formOf.f k a0_0).bind fun t287=>(if t287=1 then (some (a0_1==0)) else (if t287=2 then ((impl_goodType.f a0_1).bind fun t288=>(if t288=true then (some true) else (some (a0_1==64)))) else (if t287=3 then (if a0_1≥0 then (some (decide (a0_1≤1000))) else (some false)) else (if t287=4 then (if a0_1≥0 then (some (decide (a0_1≤10000))) else (some false)) else (if t287=5 then (if a0_1≥(-2147483648) then (some (decide (a0_1<2147483648))) else (some false)) else (if t287=6 then (some true) else (if t287=7 then (if a0_1≥0 then (some (decide (a0_1<4294967296))) else (some false)) else (some false))))))))
theorem impl_GoodIns.calls (k:Nat) (a0_0:Int) (a0_1:Int) (r:Bool) (w:World) (h:impl_GoodIns.f k a0_0 a0_1=some r):
  Calls Try.prog 81 #[.agg #[.int .i64 a0_0,.int .i64 a0_1]] w fun e w'=>e=.returned (.bool r)∧Below w.heap.size w w':=by
 have hu71:=Try.underlying71
 have HB:=A_ (Below.refl w.heap.size w)
 have H:((impl_formOf.f k a0_0).bind fun t287=>(if t287=1 then (some (a0_1==0)) else (if t287=2 then ((impl_goodType.f a0_1).bind fun t288=>(if t288=true then (some true) else (some (a0_1==64)))) else (if t287=3 then (if a0_1≥0 then (some (decide (a0_1≤1000))) else (some false)) else (if t287=4 then (if a0_1≥0 then (some (decide (a0_1≤10000))) else (some false)) else (if t287=5 then (if a0_1≥(-2147483648) then (some (decide (a0_1<2147483648))) else (some false)) else (if t287=6 then (some true) else (if t287=7 then (if a0_1≥0 then (some (decide (a0_1<4294967296))) else (some false)) else (some false)))))))))=some r:=h
 clear h
 replace H:=bi_ H
 obtain⟨t287,A20,H⟩:=H
 have A2:=A_ A20
 clear A20
 by_cases c3:t287=1
 ·
  rw[if_pos c3] at H
  obtain⟨c3b0,c3b1⟩:=eT_ c3
  clear c3
  obtain rfl:=Option.some.inj H
  clear H
  go_enter Try.func81,Try.ntmps81
  go_wp2_with (first|((with_reducible refine gd_ 1 rfl ?_);refine bx_ #[.int .i64 a0_0,.int .i64 a0_1] 71 ?_;intro gb286 hg w4 hbox hb;have BK286:=A_ hbox;have GW286:=gw_ hg HB;have GE286:=GW286;replace HB:=bs_ HB hb;clear hb hbox hg;obtain⟨hcz5_0,hcz5_1⟩:=cs2_ BK286.out;obtain⟨hfz5_0,hfz5_1⟩:=fz2_ BK286.out)|((with_reducible refine gc_ 76 rfl ?_);refine gn_ (some 5) Try.func76 (impl_formOf.calls k a0_0 t287 _ A2.out) ?_;intro nd))
  go_ret
  exact⟨rr_,bw HB.out⟩
 rw[if_neg c3] at H
 obtain⟨c3b0,c3b1⟩:=eF_ c3
 by_cases c6:t287=2
 ·
  rw[if_pos c6] at H
  obtain⟨c6b0,c6b1⟩:=eT_ c6
  clear c6
  replace H:=bi_ H
  obtain⟨t288,A70,H⟩:=H
  have A7:=A_ A70
  clear A70
  by_cases c8:t288=true
  ·
   subst c8
   replace H:=iT_ H
   obtain rfl:=Option.some.inj H
   clear H
   go_enter Try.func81,Try.ntmps81
   go_wp2_with (first|((with_reducible refine gd_ 1 rfl ?_);refine bx_ #[.int .i64 a0_0,.int .i64 a0_1] 71 ?_;intro gb286 hg w9 hbox hb;have BK286:=A_ hbox;have GW286:=gw_ hg HB;have GE286:=GW286;replace HB:=bs_ HB hb;clear hb hbox hg;obtain⟨hcz10_0,hcz10_1⟩:=cs2_ BK286.out;obtain⟨hfz10_0,hfz10_1⟩:=fz2_ BK286.out)|((with_reducible refine gc_ 76 rfl ?_);refine gn_ (some 5) Try.func76 (impl_formOf.calls k a0_0 t287 _ A2.out) ?_;intro nd)|((with_reducible refine gc_ 52 rfl ?_);refine gn_ (some 15) Try.func52 (impl_goodType.calls a0_1 true _ A7.out) ?_;intro nd))
   go_ret
   exact⟨rr_,bw HB.out⟩
  replace c8:=Bool.eq_false_iff.mpr c8
  subst c8
  replace H:=iF_ H
  obtain rfl:=Option.some.inj H
  clear H
  go_enter Try.func81,Try.ntmps81
  go_wp2_with (first|((with_reducible refine gd_ 1 rfl ?_);refine bx_ #[.int .i64 a0_0,.int .i64 a0_1] 71 ?_;intro gb286 hg w11 hbox hb;have BK286:=A_ hbox;have GW286:=gw_ hg HB;have GE286:=GW286;replace HB:=bs_ HB hb;clear hb hbox hg;obtain⟨hcz12_0,hcz12_1⟩:=cs2_ BK286.out;obtain⟨hfz12_0,hfz12_1⟩:=fz2_ BK286.out)|((with_reducible refine gc_ 76 rfl ?_);refine gn_ (some 5) Try.func76 (impl_formOf.calls k a0_0 t287 _ A2.out) ?_;intro nd)|((with_reducible refine gc_ 52 rfl ?_);refine gn_ (some 15) Try.func52 (impl_goodType.calls a0_1 false _ A7.out) ?_;intro nd))
  go_ret
  exact⟨rr_,bw HB.out⟩
 rw[if_neg c6] at H
 obtain⟨c6b0,c6b1⟩:=eF_ c6
 by_cases c13:t287=3
 ·
  rw[if_pos c13] at H
  obtain⟨c13b0,c13b1⟩:=eT_ c13
  clear c13
  by_cases c14:a0_1≥0
  ·
   rw[if_pos c14] at H
   have c14b0:=decide_eq_true c14
   clear c14
   obtain rfl:=Option.some.inj H
   clear H
   go_enter Try.func81,Try.ntmps81
   go_wp2_with (first|((with_reducible refine gd_ 1 rfl ?_);refine bx_ #[.int .i64 a0_0,.int .i64 a0_1] 71 ?_;intro gb286 hg w15 hbox hb;have BK286:=A_ hbox;have GW286:=gw_ hg HB;have GE286:=GW286;replace HB:=bs_ HB hb;clear hb hbox hg;obtain⟨hcz16_0,hcz16_1⟩:=cs2_ BK286.out;obtain⟨hfz16_0,hfz16_1⟩:=fz2_ BK286.out)|((with_reducible refine gc_ 76 rfl ?_);refine gn_ (some 5) Try.func76 (impl_formOf.calls k a0_0 t287 _ A2.out) ?_;intro nd))
   go_ret
   exact⟨rr_,bw HB.out⟩
  rw[if_neg c14] at H
  have c14b0:=decide_eq_false c14
  clear c14
  obtain rfl:=Option.some.inj H
  clear H
  go_enter Try.func81,Try.ntmps81
  go_wp2_with (first|((with_reducible refine gd_ 1 rfl ?_);refine bx_ #[.int .i64 a0_0,.int .i64 a0_1] 71 ?_;intro gb286 hg w17 hbox hb;have BK286:=A_ hbox;have GW286:=gw_ hg HB;have GE286:=GW286;replace HB:=bs_ HB hb;clear hb hbox hg;obtain⟨hcz18_0,hcz18_1⟩:=cs2_ BK286.out;obtain⟨hfz18_0,hfz18_1⟩:=fz2_ BK286.out)|((with_reducible refine gc_ 76 rfl ?_);refine gn_ (some 5) Try.func76 (impl_formOf.calls k a0_0 t287 _ A2.out) ?_;intro nd))
  go_ret
  exact⟨rr_,bw HB.out⟩
 rw[if_neg c13] at H
 obtain⟨c13b0,c13b1⟩:=eF_ c13
 by_cases c19:t287=4
 ·
  rw[if_pos c19] at H
  obtain⟨c19b0,c19b1⟩:=eT_ c19
  clear c19
  by_cases c20:a0_1≥0
  ·
   rw[if_pos c20] at H
   have c20b0:=decide_eq_true c20
   clear c20
   obtain rfl:=Option.some.inj H
   clear H
   go_enter Try.func81,Try.ntmps81
   go_wp2_with (first|((with_reducible refine gd_ 1 rfl ?_);refine bx_ #[.int .i64 a0_0,.int .i64 a0_1] 71 ?_;intro gb286 hg w21 hbox hb;have BK286:=A_ hbox;have GW286:=gw_ hg HB;have GE286:=GW286;replace HB:=bs_ HB hb;clear hb hbox hg;obtain⟨hcz22_0,hcz22_1⟩:=cs2_ BK286.out;obtain⟨hfz22_0,hfz22_1⟩:=fz2_ BK286.out)|((with_reducible refine gc_ 76 rfl ?_);refine gn_ (some 5) Try.func76 (impl_formOf.calls k a0_0 t287 _ A2.out) ?_;intro nd))
   go_ret
   exact⟨rr_,bw HB.out⟩
  rw[if_neg c20] at H
  have c20b0:=decide_eq_false c20
  clear c20
  obtain rfl:=Option.some.inj H
  clear H
  go_enter Try.func81,Try.ntmps81
  go_wp2_with (first|((with_reducible refine gd_ 1 rfl ?_);refine bx_ #[.int .i64 a0_0,.int .i64 a0_1] 71 ?_;intro gb286 hg w23 hbox hb;have BK286:=A_ hbox;have GW286:=gw_ hg HB;have GE286:=GW286;replace HB:=bs_ HB hb;clear hb hbox hg;obtain⟨hcz24_0,hcz24_1⟩:=cs2_ BK286.out;obtain⟨hfz24_0,hfz24_1⟩:=fz2_ BK286.out)|((with_reducible refine gc_ 76 rfl ?_);refine gn_ (some 5) Try.func76 (impl_formOf.calls k a0_0 t287 _ A2.out) ?_;intro nd))
  go_ret
  exact⟨rr_,bw HB.out⟩
 rw[if_neg c19] at H
 obtain⟨c19b0,c19b1⟩:=eF_ c19
 by_cases c25:t287=5
 ·
  rw[if_pos c25] at H
  obtain⟨c25b0,c25b1⟩:=eT_ c25
  clear c25
  by_cases c26:a0_1≥(-2147483648)
  ·
   rw[if_pos c26] at H
   have c26b0:=decide_eq_true c26
   clear c26
   obtain rfl:=Option.some.inj H
   clear H
   go_enter Try.func81,Try.ntmps81
   go_wp2_with (first|((with_reducible refine gd_ 1 rfl ?_);refine bx_ #[.int .i64 a0_0,.int .i64 a0_1] 71 ?_;intro gb286 hg w27 hbox hb;have BK286:=A_ hbox;have GW286:=gw_ hg HB;have GE286:=GW286;replace HB:=bs_ HB hb;clear hb hbox hg;obtain⟨hcz28_0,hcz28_1⟩:=cs2_ BK286.out;obtain⟨hfz28_0,hfz28_1⟩:=fz2_ BK286.out)|((with_reducible refine gc_ 76 rfl ?_);refine gn_ (some 5) Try.func76 (impl_formOf.calls k a0_0 t287 _ A2.out) ?_;intro nd))
   go_ret
   exact⟨rr_,bw HB.out⟩
  rw[if_neg c26] at H
  have c26b0:=decide_eq_false c26
  clear c26
  obtain rfl:=Option.some.inj H
  clear H
  go_enter Try.func81,Try.ntmps81
  go_wp2_with (first|((with_reducible refine gd_ 1 rfl ?_);refine bx_ #[.int .i64 a0_0,.int .i64 a0_1] 71 ?_;intro gb286 hg w29 hbox hb;have BK286:=A_ hbox;have GW286:=gw_ hg HB;have GE286:=GW286;replace HB:=bs_ HB hb;clear hb hbox hg;obtain⟨hcz30_0,hcz30_1⟩:=cs2_ BK286.out;obtain⟨hfz30_0,hfz30_1⟩:=fz2_ BK286.out)|((with_reducible refine gc_ 76 rfl ?_);refine gn_ (some 5) Try.func76 (impl_formOf.calls k a0_0 t287 _ A2.out) ?_;intro nd))
  go_ret
  exact⟨rr_,bw HB.out⟩
 rw[if_neg c25] at H
 obtain⟨c25b0,c25b1⟩:=eF_ c25
 by_cases c31:t287=6
 ·
  rw[if_pos c31] at H
  obtain⟨c31b0,c31b1⟩:=eT_ c31
  clear c31
  obtain rfl:=Option.some.inj H
  clear H
  go_enter Try.func81,Try.ntmps81
  go_wp2_with (first|((with_reducible refine gd_ 1 rfl ?_);refine bx_ #[.int .i64 a0_0,.int .i64 a0_1] 71 ?_;intro gb286 hg w32 hbox hb;have BK286:=A_ hbox;have GW286:=gw_ hg HB;have GE286:=GW286;replace HB:=bs_ HB hb;clear hb hbox hg;obtain⟨hcz33_0,hcz33_1⟩:=cs2_ BK286.out;obtain⟨hfz33_0,hfz33_1⟩:=fz2_ BK286.out)|((with_reducible refine gc_ 76 rfl ?_);refine gn_ (some 5) Try.func76 (impl_formOf.calls k a0_0 t287 _ A2.out) ?_;intro nd))
  go_ret
  exact⟨rr_,bw HB.out⟩
 rw[if_neg c31] at H
 obtain⟨c31b0,c31b1⟩:=eF_ c31
 by_cases c34:t287=7
 ·
  rw[if_pos c34] at H
  obtain⟨c34b0,c34b1⟩:=eT_ c34
  clear c34
  by_cases c35:a0_1≥0
  ·
   rw[if_pos c35] at H
   have c35b0:=decide_eq_true c35
   clear c35
   obtain rfl:=Option.some.inj H
   clear H
   go_enter Try.func81,Try.ntmps81
   go_wp2_with (first|((with_reducible refine gd_ 1 rfl ?_);refine bx_ #[.int .i64 a0_0,.int .i64 a0_1] 71 ?_;intro gb286 hg w36 hbox hb;have BK286:=A_ hbox;have GW286:=gw_ hg HB;have GE286:=GW286;replace HB:=bs_ HB hb;clear hb hbox hg;obtain⟨hcz37_0,hcz37_1⟩:=cs2_ BK286.out;obtain⟨hfz37_0,hfz37_1⟩:=fz2_ BK286.out)|((with_reducible refine gc_ 76 rfl ?_);refine gn_ (some 5) Try.func76 (impl_formOf.calls k a0_0 t287 _ A2.out) ?_;intro nd))
   go_ret
   exact⟨rr_,bw HB.out⟩
  rw[if_neg c35] at H
  have c35b0:=decide_eq_false c35
  clear c35
  obtain rfl:=Option.some.inj H
  clear H
  go_enter Try.func81,Try.ntmps81
  go_wp2_with (first|((with_reducible refine gd_ 1 rfl ?_);refine bx_ #[.int .i64 a0_0,.int .i64 a0_1] 71 ?_;intro gb286 hg w38 hbox hb;have BK286:=A_ hbox;have GW286:=gw_ hg HB;have GE286:=GW286;replace HB:=bs_ HB hb;clear hb hbox hg;obtain⟨hcz39_0,hcz39_1⟩:=cs2_ BK286.out;obtain⟨hfz39_0,hfz39_1⟩:=fz2_ BK286.out)|((with_reducible refine gc_ 76 rfl ?_);refine gn_ (some 5) Try.func76 (impl_formOf.calls k a0_0 t287 _ A2.out) ?_;intro nd))
  go_ret
  exact⟨rr_,bw HB.out⟩
 rw[if_neg c34] at H
 obtain⟨c34b0,c34b1⟩:=eF_ c34
 obtain rfl:=Option.some.inj H
 clear H
 go_enter Try.func81,Try.ntmps81
 go_wp2_with (first|((with_reducible refine gd_ 1 rfl ?_);refine bx_ #[.int .i64 a0_0,.int .i64 a0_1] 71 ?_;intro gb286 hg w40 hbox hb;have BK286:=A_ hbox;have GW286:=gw_ hg HB;have GE286:=GW286;replace HB:=bs_ HB hb;clear hb hbox hg;obtain⟨hcz41_0,hcz41_1⟩:=cs2_ BK286.out;obtain⟨hfz41_0,hfz41_1⟩:=fz2_ BK286.out)|((with_reducible refine gc_ 76 rfl ?_);refine gn_ (some 5) Try.func76 (impl_formOf.calls k a0_0 t287 _ A2.out) ?_;intro nd))
 go_ret
 exact⟨rr_,bw HB.out⟩

/-! ### impl_goodCode: function 68 -/
def impl_goodCode.l0:Nat→List (S71)→Int→Int→Option (Bool)
 |0,_,_,_=>none
 |k+1,x8,x9,x10=>if x10<x9 then (if 0≤x10 then (if x10<(x8.length:Int) then ((impl_GoodIns.f k ((rd_T71 x8 x10).f0) ((rd_T71 x8 x10).f1)).bind fun t291=>(if t291=true then (impl_goodCode.l0 k x8 x9 (wrap64 (x10+1))) else (some false))) else (none)) else (none)) else (some true)
def impl_goodCode.f (k:Nat) (l0:List (S71)):Option (Bool):=if (l0.length:Int) > 200 then (some false) else (impl_goodCode.l0 k l0 (l0.length:Int) 0)
theorem impl_goodCode.calls (k:Nat) (A0:Option Addr) (c0:Nat) (l0:List (S71)) (r:Bool) (w:World) (hr0:Kd.C k71 w A0 l0.length l0) (hc0:l0.length≤c0) (h:impl_goodCode.f k l0=some r):
  Calls Try.prog 68 #[.slice A0 l0.length c0] w fun e w'=>e=.returned (.bool r)∧Below w.heap.size w w':=by
 have hu71:=Try.underlying71
 have HR0:=A_ hr0
 have HC0:=A_ hc0
 clear hr0 hc0
 have HB:=A_ (Below.refl w.heap.size w)
 have H:(if (l0.length:Int) > 200 then (some false) else (impl_goodCode.l0 k l0 (l0.length:Int) 0))=some r:=h
 clear h
 by_cases c2:(l0.length:Int) > 200
 ·
  rw[if_pos c2] at H
  have c2b0:=decide_eq_true c2
  have c2b1:decide (200<l0.length)=true:=decide_eq_true (by omega)
  clear c2
  obtain rfl:=Option.some.inj H
  clear H
  go_enter Try.func68,Try.ntmps68
  go_wp2
  go_ret
  exact⟨rr_,bw HB.out⟩
 rw[if_neg c2] at H
 have c2b0:=decide_eq_false c2
 have c2b1:decide (200<l0.length)=false:=decide_eq_false (by omega)
 clear c2
 have H':=A_ H
 clear H
 go_enter Try.func68,Try.ntmps68
 go_wp2
 (try simp only[Act.put,List.setIfInBounds_toArray,List.set_cons_zero,List.set_cons_succ])
 go_loopg [10] k (fun kq v10 w'=>∃ (x10_1:Int),v10=.int .i64 x10_1∧Aside0 (impl_goodCode.l0 kq l0 (l0.length:Int) x10_1=some r)∧Aside0 (kq≤k)∧Aside0 (Below w.heap.size w w'))
 case atStart=>exact⟨(0),rs_,H',⟨Nat.le_refl _⟩,⟨bw HB.out⟩⟩
 case round=>
  clear H'
  try clear c2 c2b0 c2b1
  obtain⟨x10_1,rfl,HA,HK1,HB⟩:=hrel
  cases gk with
  |zero=>exact absurd HA.out (by simp[impl_goodCode.l0])
  |succ k1=>
   have H:=HA.out
   clear HA
   simp only[impl_goodCode.l0] at H
   by_cases c3:x10_1<(l0.length:Int)
   ·
    rw[if_pos c3] at H
    have c3b0:=decide_eq_true c3
    clear c3
    by_cases c4:0≤x10_1
    ·
     rw[if_pos c4] at H
     have c4b0:=decide_eq_true c4
     clear c4
     by_cases c5:x10_1<(l0.length:Int)
     ·
      rw[if_pos c5] at H
      have c5b0:=decide_eq_true c5
      clear c5
      replace H:=bi_ H
      obtain⟨t291,A60,H⟩:=H
      have A6:=A_ A60
      clear A60
      by_cases c7:t291=true
      ·
       subst c7
       replace H:=iT_ H
       have H':=A_ H
       clear H
       have p289:0≤(x10_1:Int):=od_
       have q289:x10_1<(l0.length:Int):=od_
       obtain⟨ad289,e289,hx289_0,hx289_1⟩:=at_T71 HR0.out x10_1 p289 q289
       cases e289
       replace hx289_0:=cl_ HB.out hx289_0
       replace hx289_1:=cl_ HB.out hx289_1
       replace p289:=eq_true p289
       replace q289:=eq_true q289
       go_wp2_with (first|((with_reducible refine gd_ 4 rfl ?_);refine bx_ #[.int .i64 0,.int .i64 0] 71 ?_;intro gb290 hg w8 hbox hb;have BK290:=A_ hbox;have GW290:=gw_ hg HB;have GE290:=GW290;replace HB:=bs_ HB hb;clear hb hbox hg;obtain⟨hcz9_0,hcz9_1⟩:=cs2_ BK290.out;obtain⟨hfz9_0,hfz9_1⟩:=fz2_ BK290.out)|((with_reducible refine gc_ 81 rfl ?_);refine gm_ (some 15) Try.func81 (impl_GoodIns.calls k1 ((rd_T71 l0 x10_1).f0) ((rd_T71 l0 x10_1).f1) true _ A6.out) ?_;intro w10 hb;replace BK290:=A_ (blk_below (g:=gb290) (o:=.cells #[.int .i64 ((rd_T71 l0 x10_1).f0),.int .i64 ((rd_T71 l0 x10_1).f1)] 71 (0,0)) (by refine blk_put (cs:=#[.int .i64 ((rd_T71 l0 x10_1).f0),.int .i64 0]) ?_ 1 _ rfl;refine blk_put (cs:=#[.int .i64 0,.int .i64 0]) ?_ 0 _ rfl;(with_reducible repeat (first|refine blk_drewN ?_ _|refine blk_drew ?_|refine blk_alloc ?_ _));exact BK290.out) hb);replace HB:=bs_ HB hb;(try clear hb)))
       go_roundg k1
       case measure=>have:=HK1.out;omega
       case rel=>exact⟨(wrap64 (x10_1+1)),rs_,H',⟨by have:=HK1.out;omega⟩,⟨bw HB.out⟩⟩
      replace c7:=Bool.eq_false_iff.mpr c7
      subst c7
      replace H:=iF_ H
      obtain rfl:=Option.some.inj H
      clear H
      have p289:0≤(x10_1:Int):=od_
      have q289:x10_1<(l0.length:Int):=od_
      obtain⟨ad289,e289,hx289_0,hx289_1⟩:=at_T71 HR0.out x10_1 p289 q289
      cases e289
      replace hx289_0:=cl_ HB.out hx289_0
      replace hx289_1:=cl_ HB.out hx289_1
      replace p289:=eq_true p289
      replace q289:=eq_true q289
      go_wp2_with (first|((with_reducible refine gd_ 4 rfl ?_);refine bx_ #[.int .i64 0,.int .i64 0] 71 ?_;intro gb290 hg w11 hbox hb;have BK290:=A_ hbox;have GW290:=gw_ hg HB;have GE290:=GW290;replace HB:=bs_ HB hb;clear hb hbox hg;obtain⟨hcz12_0,hcz12_1⟩:=cs2_ BK290.out;obtain⟨hfz12_0,hfz12_1⟩:=fz2_ BK290.out)|((with_reducible refine gc_ 81 rfl ?_);refine gm_ (some 15) Try.func81 (impl_GoodIns.calls k1 ((rd_T71 l0 x10_1).f0) ((rd_T71 l0 x10_1).f1) false _ A6.out) ?_;intro w13 hb;replace BK290:=A_ (blk_below (g:=gb290) (o:=.cells #[.int .i64 ((rd_T71 l0 x10_1).f0),.int .i64 ((rd_T71 l0 x10_1).f1)] 71 (0,0)) (by refine blk_put (cs:=#[.int .i64 ((rd_T71 l0 x10_1).f0),.int .i64 0]) ?_ 1 _ rfl;refine blk_put (cs:=#[.int .i64 0,.int .i64 0]) ?_ 0 _ rfl;(with_reducible repeat (first|refine blk_drewN ?_ _|refine blk_drew ?_|refine blk_alloc ?_ _));exact BK290.out) hb);replace HB:=bs_ HB hb;(try clear hb)))
      go_ret
      exact⟨rr_,bw HB.out⟩
     rw[if_neg c5] at H
     exact absurd H (by simp)
    rw[if_neg c4] at H
    exact absurd H (by simp)
   rw[if_neg c3] at H
   have c3b0:=decide_eq_false c3
   clear c3
   obtain rfl:=Option.some.inj H
   clear H
   go_wp2
   go_ret
   exact⟨rr_,bw HB.out⟩

/-! ### impl_opens: function 69 -/
def impl_opens.f (a0:Int):Option (Bool):=if a0=2 then (some true) else (if a0=3 then (some true) else (some (a0==4)))
theorem impl_opens.calls (a0:Int) (r:Bool) (w:World) (h:impl_opens.f a0=some r):
  Calls Try.prog 69 #[.int .i64 a0] w fun e w'=>e=.returned (.bool r)∧Drawn0 w w':=by
 have H:(if a0=2 then (some true) else (if a0=3 then (some true) else (some (a0==4))))=some r:=h
 clear h
 by_cases c2:a0=2
 ·
  rw[if_pos c2] at H
  obtain⟨c2b0,c2b1⟩:=eT_ c2
  clear c2
  obtain rfl:=Option.some.inj H
  clear H
  go_enter Try.func69,Try.ntmps69
  go_wp2
  go_ret
  exact⟨rs_,dr_⟩
 rw[if_neg c2] at H
 obtain⟨c2b0,c2b1⟩:=eF_ c2
 by_cases c3:a0=3
 ·
  rw[if_pos c3] at H
  obtain⟨c3b0,c3b1⟩:=eT_ c3
  clear c3
  obtain rfl:=Option.some.inj H
  clear H
  go_enter Try.func69,Try.ntmps69
  go_wp2
  go_ret
  exact⟨rs_,dr_⟩
 rw[if_neg c3] at H
 obtain⟨c3b0,c3b1⟩:=eF_ c3
 obtain rfl:=Option.some.inj H
 clear H
 go_enter Try.func69,Try.ntmps69
 go_wp2
 go_ret
 exact⟨rs_,dr_⟩

end Go.Proofs.Ytghogonibanieaa.Q

