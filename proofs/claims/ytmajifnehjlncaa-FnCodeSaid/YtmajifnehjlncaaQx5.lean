-- Written by a program of this session; it walks the functions that the law reaches.
import Derived.Test.YtmajifnehjlncaaQx0
namespace Go.Proofs.Ytmajifnehjlncaa.Q
open Go.RowKit Go.Proofs.YtmajifnehjlncaaW.PrintWords Go.Proofs.YtmajifnehjlncaaW.PrintLast Go.Proofs.YtmajifnehjlncaaW.PrintMore
attribute [local go_sem] max2_int min2_int max_two min_two max_three min_three max_four min_four   -- for this text's walks alone
set_option linter.unusedVariables false
set_option linter.unusedSimpArgs false
set_option maxRecDepth 100000
set_option maxHeartbeats 8000000

/-! ### impl_formOf: function 17 -/
mutual
def impl_formOf.j0:Nat→Int→Int→Bool→Option (Int)
 |0,_,_,_=>none
 |k+1,x0,x3,x4=>if x4=true then (some 2) else (if x3=12 then (impl_formOf.j1 k x0 x3 (x3==12)) else (if x3=13 then (impl_formOf.j1 k x0 x3 (x3==13)) else (if x3=16 then (impl_formOf.j1 k x0 x3 (x3==16)) else (if x3=32 then (impl_formOf.j1 k x0 x3 (x3==32)) else (if x3=33 then (impl_formOf.j1 k x0 x3 (x3==33)) else (if x3=34 then (impl_formOf.j1 k x0 x3 (x3==34)) else (if x3=35 then (impl_formOf.j1 k x0 x3 (x3==35)) else (impl_formOf.j1 k x0 x3 (x3==36)))))))))
def impl_formOf.j1:Nat→Int→Int→Bool→Option (Int)
 |0,_,_,_=>none
 |k+1,x0,x3,x8=>if x8=true then (some 3) else (if x3=40 then (impl_formOf.j2 k x0 x3 (x3==40)) else (if x3=41 then (impl_formOf.j2 k x0 x3 (x3==41)) else (if x3=54 then (impl_formOf.j2 k x0 x3 (x3==54)) else (impl_formOf.j2 k x0 x3 (x3==55)))))
def impl_formOf.j2:Nat→Int→Int→Bool→Option (Int)
 |0,_,_,_=>none
 |k+1,x0,x3,x17=>if x17=true then (some 4) else (if x3=65 then (some 5) else (if x3=66 then (some 6) else (if x3=67 then (some 7) else (if x3=0 then (impl_formOf.j3 k x0 (x3==0)) else (if x3=1 then (impl_formOf.j3 k x0 (x3==1)) else (if x3=5 then (impl_formOf.j3 k x0 (x3==5)) else (if x3=11 then (impl_formOf.j3 k x0 (x3==11)) else (if x3=15 then (impl_formOf.j3 k x0 (x3==15)) else (if x3=26 then (impl_formOf.j3 k x0 (x3==26)) else (if x3=27 then (impl_formOf.j3 k x0 (x3==27)) else (if x3=63 then (impl_formOf.j3 k x0 (x3==63)) else (if x3=64 then (impl_formOf.j3 k x0 (x3==64)) else (if x3=176 then (impl_formOf.j3 k x0 (x3==176)) else (if x3=177 then (impl_formOf.j3 k x0 (x3==177)) else (if x3=178 then (impl_formOf.j3 k x0 (x3==178)) else (if x3=179 then (impl_formOf.j3 k x0 (x3==179)) else (impl_formOf.j3 k x0 (x3==180))))))))))))))))))
def impl_formOf.j3:Nat→Int→Bool→Option (Int)
 |0,_,_=>none
 |k+1,x0,x28=>if x28=true then (some 1) else (if x0 > 96 then (if x0≤123 then (some 1) else (if x0 > 128 then (if x0≤155 then (some 1) else (if x0 > 160 then (if x0≤169 then (some 1) else (some 0)) else (some 0))) else (if x0 > 160 then (if x0≤169 then (some 1) else (some 0)) else (some 0)))) else (if x0 > 128 then (if x0≤155 then (some 1) else (if x0 > 160 then (if x0≤169 then (some 1) else (some 0)) else (some 0))) else (if x0 > 160 then (if x0≤169 then (some 1) else (some 0)) else (some 0))))
end
def impl_formOf.f (k:Nat) (a0:Int):Option (Int):=if a0=2 then (impl_formOf.j0 k a0 a0 (a0==2)) else (if a0=3 then (impl_formOf.j0 k a0 a0 (a0==3)) else (impl_formOf.j0 k a0 a0 (a0==4)))
theorem impl_formOf.mono_l:∀ k,(∀ y0 y1 y2,LeO (impl_formOf.j0 k y0 y1 y2) (impl_formOf.j0 (k+1) y0 y1 y2))∧(∀ y0 y1 y2,LeO (impl_formOf.j1 k y0 y1 y2) (impl_formOf.j1 (k+1) y0 y1 y2))∧(∀ y0 y1 y2,LeO (impl_formOf.j2 k y0 y1 y2) (impl_formOf.j2 (k+1) y0 y1 y2))∧(∀ y0 y1,LeO (impl_formOf.j3 k y0 y1) (impl_formOf.j3 (k+1) y0 y1))
 |0=>⟨fun _ _ _ r h=>by simp[impl_formOf.j0] at h,fun _ _ _ r h=>by simp[impl_formOf.j1] at h,fun _ _ _ r h=>by simp[impl_formOf.j2] at h,fun _ _ r h=>by simp[impl_formOf.j3] at h⟩
 |k+1=>by
  obtain⟨ih0,ih1,ih2,ih3⟩:=impl_formOf.mono_l k
  refine⟨?_,?_,?_,?_⟩
  ·
   intro y0 y1 y2
   unfold impl_formOf.j0
   repeat' first
   |(with_reducible exact ih0 _ _ _)
   |(with_reducible exact ih1 _ _ _)
   |(with_reducible exact ih2 _ _ _)
   |(with_reducible exact ih3 _ _)
   |(with_reducible exact LeO.refl _)
   |(with_reducible exact LeO.none _)
   |(with_reducible refine LeO.ite ?_ ?_)
   |(with_reducible refine LeO.bind ?_ (fun _=>?_))
   |exact ih0 _ _ _
   |exact ih1 _ _ _
   |exact ih2 _ _ _
   |exact ih3 _ _
   |exact LeO.none _
   |refine LeO.ite ?_ ?_
   |refine LeO.bind ?_ (fun _=>?_)
  ·
   intro y0 y1 y2
   unfold impl_formOf.j1
   repeat' first
   |(with_reducible exact ih0 _ _ _)
   |(with_reducible exact ih1 _ _ _)
   |(with_reducible exact ih2 _ _ _)
   |(with_reducible exact ih3 _ _)
   |(with_reducible exact LeO.refl _)
   |(with_reducible exact LeO.none _)
   |(with_reducible refine LeO.ite ?_ ?_)
   |(with_reducible refine LeO.bind ?_ (fun _=>?_))
   |exact ih0 _ _ _
   |exact ih1 _ _ _
   |exact ih2 _ _ _
   |exact ih3 _ _
   |exact LeO.none _
   |refine LeO.ite ?_ ?_
   |refine LeO.bind ?_ (fun _=>?_)
  ·
   intro y0 y1 y2
   unfold impl_formOf.j2
   repeat' first
   |(with_reducible exact ih0 _ _ _)
   |(with_reducible exact ih1 _ _ _)
   |(with_reducible exact ih2 _ _ _)
   |(with_reducible exact ih3 _ _)
   |(with_reducible exact LeO.refl _)
   |(with_reducible exact LeO.none _)
   |(with_reducible refine LeO.ite ?_ ?_)
   |(with_reducible refine LeO.bind ?_ (fun _=>?_))
   |exact ih0 _ _ _
   |exact ih1 _ _ _
   |exact ih2 _ _ _
   |exact ih3 _ _
   |exact LeO.none _
   |refine LeO.ite ?_ ?_
   |refine LeO.bind ?_ (fun _=>?_)
  intro y0 y1
  unfold impl_formOf.j3
  repeat' first
  |(with_reducible exact ih0 _ _ _)
  |(with_reducible exact ih1 _ _ _)
  |(with_reducible exact ih2 _ _ _)
  |(with_reducible exact ih3 _ _)
  |(with_reducible exact LeO.refl _)
  |(with_reducible exact LeO.none _)
  |(with_reducible refine LeO.ite ?_ ?_)
  |(with_reducible refine LeO.bind ?_ (fun _=>?_))
  |exact ih0 _ _ _
  |exact ih1 _ _ _
  |exact ih2 _ _ _
  |exact ih3 _ _
  |exact LeO.none _
  |refine LeO.ite ?_ ?_
  |refine LeO.bind ?_ (fun _=>?_)
theorem impl_formOf.mono:∀ a0 k,LeO (impl_formOf.f k a0) (impl_formOf.f (k+1) a0):=by
 intro a0 k
 obtain⟨ih0,ih1,ih2,ih3⟩:=impl_formOf.mono_l k
 unfold impl_formOf.f
 repeat' first
   |(with_reducible exact ih0 _ _ _)
   |(with_reducible exact ih1 _ _ _)
   |(with_reducible exact ih2 _ _ _)
   |(with_reducible exact ih3 _ _)
   |(with_reducible exact LeO.refl _)
   |(with_reducible exact LeO.none _)
   |(with_reducible refine LeO.ite ?_ ?_)
   |(with_reducible refine LeO.bind ?_ (fun _=>?_))
   |exact ih0 _ _ _
   |exact ih1 _ _ _
   |exact ih2 _ _ _
   |exact ih3 _ _
   |exact LeO.none _
   |refine LeO.ite ?_ ?_
   |refine LeO.bind ?_ (fun _=>?_)
theorem impl_formOf.calls (k:Nat) (a0:Int) (r:Int) (w:World) (h:impl_formOf.f k a0=some r):
  Calls Try.prog 17 #[.int .i64 a0] w fun e w'=>e=.returned (.int .i64 r)∧Drawn0 w w':=by
 have H:(if a0=2 then (impl_formOf.j0 k a0 a0 (a0==2)) else (if a0=3 then (impl_formOf.j0 k a0 a0 (a0==3)) else (impl_formOf.j0 k a0 a0 (a0==4))))=some r:=h
 clear h
 have HC2:=A_ H
 clear H
 go_enter Try.func17,Try.ntmps17
 go_upto_if 4 with (fail)
 go_cut [4] (fun v4 wc=>∃ (kq:Nat) (x4_1:Bool),v4=.bool x4_1∧Aside0 (impl_formOf.j0 kq a0 a0 x4_1=some r)∧Aside0 (kq≤k)∧Drawn0 w wc)
 case first=>
  have H:=HC2.out
  clear HC2
  by_cases c3:a0=2
  ·
   rw[if_pos c3] at H
   obtain⟨c3b0,c3b1⟩:=eT_ c3
   clear c3
   (first|rw[c3b0]|(simp only[i64_w,i32_w];rw[c3b0])|skip)
   have H':=A_ H
   clear H
   go_wp2
   go_meet
   case rel=>exact⟨_,((a0==2)),rs_,H',⟨by first|omega|exact Nat.le_refl _⟩,dr_⟩
  rw[if_neg c3] at H
  obtain⟨c3b0,c3b1⟩:=eF_ c3
  (first|rw[c3b0]|(simp only[i64_w,i32_w];rw[c3b0])|skip)
  by_cases c4:a0=3
  ·
   rw[if_pos c4] at H
   obtain⟨c4b0,c4b1⟩:=eT_ c4
   clear c4
   have H':=A_ H
   clear H
   go_wp2
   go_meet
   case rel=>exact⟨_,((a0==3)),rs_,H',⟨by first|omega|exact Nat.le_refl _⟩,dr_⟩
  rw[if_neg c4] at H
  obtain⟨c4b0,c4b1⟩:=eF_ c4
  have H':=A_ H
  clear H
  go_wp2
  go_meet
  case rel=>exact⟨_,((a0==4)),rs_,H',⟨by first|omega|exact Nat.le_refl _⟩,dr_⟩
 case rest=>
  clear HC2
  obtain⟨kq,x4_1,rfl,HA,HJ1,⟨mc1,rfl⟩⟩:=hcut
  cases kq with
  |zero=>exact absurd HA.out (by simp[impl_formOf.j0])
  |succ kj1=>
   have H:=HA.out
   clear HA
   simp only[impl_formOf.j0] at H
   by_cases c5:x4_1=true
   ·
    subst c5
    replace H:=iT_ H
    obtain rfl:=Option.some.inj H
    clear H
    go_wp2
    go_ret
    exact⟨rs_,dr_⟩
   replace c5:=Bool.eq_false_iff.mpr c5
   subst c5
   replace H:=iF_ H
   have HC6:=A_ H
   clear H
   go_upto_if 8 with (fail)
   go_cut [8] (fun v8 wc=>∃ (kq:Nat) (x8_5:Bool),v8=.bool x8_5∧Aside0 (impl_formOf.j1 kq a0 a0 x8_5=some r)∧Aside0 (kq≤kj1)∧Drawn0 w wc)
   case first=>
    have H:=HC6.out
    clear HC6
    by_cases c7:a0=12
    ·
     rw[if_pos c7] at H
     obtain⟨c7b0,c7b1⟩:=eT_ c7
     clear c7
     (first|rw[c7b0]|(simp only[i64_w,i32_w];rw[c7b0])|skip)
     have H':=A_ H
     clear H
     go_wp2
     go_meet
     case rel=>exact⟨_,((a0==12)),rs_,H',⟨by have:=HJ1.out;first|omega|exact Nat.le_refl _⟩,dr_⟩
    rw[if_neg c7] at H
    obtain⟨c7b0,c7b1⟩:=eF_ c7
    (first|rw[c7b0]|(simp only[i64_w,i32_w];rw[c7b0])|skip)
    by_cases c8:a0=13
    ·
     rw[if_pos c8] at H
     obtain⟨c8b0,c8b1⟩:=eT_ c8
     clear c8
     have H':=A_ H
     clear H
     go_wp2
     go_meet
     case rel=>exact⟨_,((a0==13)),rs_,H',⟨by have:=HJ1.out;first|omega|exact Nat.le_refl _⟩,dr_⟩
    rw[if_neg c8] at H
    obtain⟨c8b0,c8b1⟩:=eF_ c8
    by_cases c9:a0=16
    ·
     rw[if_pos c9] at H
     obtain⟨c9b0,c9b1⟩:=eT_ c9
     clear c9
     have H':=A_ H
     clear H
     go_wp2
     go_meet
     case rel=>exact⟨_,((a0==16)),rs_,H',⟨by have:=HJ1.out;first|omega|exact Nat.le_refl _⟩,dr_⟩
    rw[if_neg c9] at H
    obtain⟨c9b0,c9b1⟩:=eF_ c9
    by_cases c10:a0=32
    ·
     rw[if_pos c10] at H
     obtain⟨c10b0,c10b1⟩:=eT_ c10
     clear c10
     have H':=A_ H
     clear H
     go_wp2
     go_meet
     case rel=>exact⟨_,((a0==32)),rs_,H',⟨by have:=HJ1.out;first|omega|exact Nat.le_refl _⟩,dr_⟩
    rw[if_neg c10] at H
    obtain⟨c10b0,c10b1⟩:=eF_ c10
    by_cases c11:a0=33
    ·
     rw[if_pos c11] at H
     obtain⟨c11b0,c11b1⟩:=eT_ c11
     clear c11
     have H':=A_ H
     clear H
     go_wp2
     go_meet
     case rel=>exact⟨_,((a0==33)),rs_,H',⟨by have:=HJ1.out;first|omega|exact Nat.le_refl _⟩,dr_⟩
    rw[if_neg c11] at H
    obtain⟨c11b0,c11b1⟩:=eF_ c11
    by_cases c12:a0=34
    ·
     rw[if_pos c12] at H
     obtain⟨c12b0,c12b1⟩:=eT_ c12
     clear c12
     have H':=A_ H
     clear H
     go_wp2
     go_meet
     case rel=>exact⟨_,((a0==34)),rs_,H',⟨by have:=HJ1.out;first|omega|exact Nat.le_refl _⟩,dr_⟩
    rw[if_neg c12] at H
    obtain⟨c12b0,c12b1⟩:=eF_ c12
    by_cases c13:a0=35
    ·
     rw[if_pos c13] at H
     obtain⟨c13b0,c13b1⟩:=eT_ c13
     clear c13
     have H':=A_ H
     clear H
     go_wp2
     go_meet
     case rel=>exact⟨_,((a0==35)),rs_,H',⟨by have:=HJ1.out;first|omega|exact Nat.le_refl _⟩,dr_⟩
    rw[if_neg c13] at H
    obtain⟨c13b0,c13b1⟩:=eF_ c13
    have H':=A_ H
    clear H
    go_wp2
    go_meet
    case rel=>exact⟨_,((a0==36)),rs_,H',⟨by have:=HJ1.out;first|omega|exact Nat.le_refl _⟩,dr_⟩
   case rest=>
    clear HC6
    try clear c5
    obtain⟨kq,x8_5,rfl,HA,HJ5,⟨mc5,rfl⟩⟩:=hcut
    cases kq with
    |zero=>exact absurd HA.out (by simp[impl_formOf.j1])
    |succ kj5=>
     have H:=HA.out
     clear HA
     simp only[impl_formOf.j1] at H
     by_cases c14:x8_5=true
     ·
      subst c14
      replace H:=iT_ H
      obtain rfl:=Option.some.inj H
      clear H
      go_wp2
      go_ret
      exact⟨rs_,dr_⟩
     replace c14:=Bool.eq_false_iff.mpr c14
     subst c14
     replace H:=iF_ H
     have HC15:=A_ H
     clear H
     go_upto_if 17 with (fail)
     go_cut [17] (fun v17 wc=>∃ (kq:Nat) (x17_14:Bool),v17=.bool x17_14∧Aside0 (impl_formOf.j2 kq a0 a0 x17_14=some r)∧Aside0 (kq≤kj5)∧Drawn0 w wc)
     case first=>
      have H:=HC15.out
      clear HC15
      by_cases c16:a0=40
      ·
       rw[if_pos c16] at H
       obtain⟨c16b0,c16b1⟩:=eT_ c16
       clear c16
       (first|rw[c16b0]|(simp only[i64_w,i32_w];rw[c16b0])|skip)
       have H':=A_ H
       clear H
       go_wp2
       go_meet
       case rel=>exact⟨_,((a0==40)),rs_,H',⟨by have:=HJ1.out;have:=HJ5.out;first|omega|exact Nat.le_refl _⟩,dr_⟩
      rw[if_neg c16] at H
      obtain⟨c16b0,c16b1⟩:=eF_ c16
      (first|rw[c16b0]|(simp only[i64_w,i32_w];rw[c16b0])|skip)
      by_cases c17:a0=41
      ·
       rw[if_pos c17] at H
       obtain⟨c17b0,c17b1⟩:=eT_ c17
       clear c17
       have H':=A_ H
       clear H
       go_wp2
       go_meet
       case rel=>exact⟨_,((a0==41)),rs_,H',⟨by have:=HJ1.out;have:=HJ5.out;first|omega|exact Nat.le_refl _⟩,dr_⟩
      rw[if_neg c17] at H
      obtain⟨c17b0,c17b1⟩:=eF_ c17
      by_cases c18:a0=54
      ·
       rw[if_pos c18] at H
       obtain⟨c18b0,c18b1⟩:=eT_ c18
       clear c18
       have H':=A_ H
       clear H
       go_wp2
       go_meet
       case rel=>exact⟨_,((a0==54)),rs_,H',⟨by have:=HJ1.out;have:=HJ5.out;first|omega|exact Nat.le_refl _⟩,dr_⟩
      rw[if_neg c18] at H
      obtain⟨c18b0,c18b1⟩:=eF_ c18
      have H':=A_ H
      clear H
      go_wp2
      go_meet
      case rel=>exact⟨_,((a0==55)),rs_,H',⟨by have:=HJ1.out;have:=HJ5.out;first|omega|exact Nat.le_refl _⟩,dr_⟩
     case rest=>
      clear HC15
      try clear c5 c14
      obtain⟨kq,x17_14,rfl,HA,HJ14,⟨mc14,rfl⟩⟩:=hcut
      cases kq with
      |zero=>exact absurd HA.out (by simp[impl_formOf.j2])
      |succ kj14=>
       have H:=HA.out
       clear HA
       simp only[impl_formOf.j2] at H
       by_cases c19:x17_14=true
       ·
        subst c19
        replace H:=iT_ H
        obtain rfl:=Option.some.inj H
        clear H
        go_wp2
        go_ret
        exact⟨rs_,dr_⟩
       replace c19:=Bool.eq_false_iff.mpr c19
       subst c19
       replace H:=iF_ H
       by_cases c20:a0=65
       ·
        rw[if_pos c20] at H
        obtain⟨c20b0,c20b1⟩:=eT_ c20
        clear c20
        obtain rfl:=Option.some.inj H
        clear H
        go_wp2
        go_ret
        exact⟨rs_,dr_⟩
       rw[if_neg c20] at H
       obtain⟨c20b0,c20b1⟩:=eF_ c20
       by_cases c21:a0=66
       ·
        rw[if_pos c21] at H
        obtain⟨c21b0,c21b1⟩:=eT_ c21
        clear c21
        obtain rfl:=Option.some.inj H
        clear H
        go_wp2
        go_ret
        exact⟨rs_,dr_⟩
       rw[if_neg c21] at H
       obtain⟨c21b0,c21b1⟩:=eF_ c21
       by_cases c22:a0=67
       ·
        rw[if_pos c22] at H
        obtain⟨c22b0,c22b1⟩:=eT_ c22
        clear c22
        obtain rfl:=Option.some.inj H
        clear H
        go_wp2
        go_ret
        exact⟨rs_,dr_⟩
       rw[if_neg c22] at H
       obtain⟨c22b0,c22b1⟩:=eF_ c22
       have HC23:=A_ H
       clear H
       go_upto_if 28 with (fail)
       go_cut [28] (fun v28 wc=>∃ (kq:Nat) (x28_22:Bool),v28=.bool x28_22∧Aside0 (impl_formOf.j3 kq a0 x28_22=some r)∧Aside0 (kq≤kj14)∧Drawn0 w wc)
       case first=>
        have H:=HC23.out
        clear HC23
        by_cases c24:a0=0
        ·
         rw[if_pos c24] at H
         obtain⟨c24b0,c24b1⟩:=eT_ c24
         clear c24
         (first|rw[c24b0]|(simp only[i64_w,i32_w];rw[c24b0])|skip)
         have H':=A_ H
         clear H
         go_wp2
         go_meet
         case rel=>exact⟨_,((a0==0)),rs_,H',⟨by have:=HJ1.out;have:=HJ5.out;have:=HJ14.out;first|omega|exact Nat.le_refl _⟩,dr_⟩
        rw[if_neg c24] at H
        obtain⟨c24b0,c24b1⟩:=eF_ c24
        (first|rw[c24b0]|(simp only[i64_w,i32_w];rw[c24b0])|skip)
        by_cases c25:a0=1
        ·
         rw[if_pos c25] at H
         obtain⟨c25b0,c25b1⟩:=eT_ c25
         clear c25
         have H':=A_ H
         clear H
         go_wp2
         go_meet
         case rel=>exact⟨_,((a0==1)),rs_,H',⟨by have:=HJ1.out;have:=HJ5.out;have:=HJ14.out;first|omega|exact Nat.le_refl _⟩,dr_⟩
        rw[if_neg c25] at H
        obtain⟨c25b0,c25b1⟩:=eF_ c25
        by_cases c26:a0=5
        ·
         rw[if_pos c26] at H
         obtain⟨c26b0,c26b1⟩:=eT_ c26
         clear c26
         have H':=A_ H
         clear H
         go_wp2
         go_meet
         case rel=>exact⟨_,((a0==5)),rs_,H',⟨by have:=HJ1.out;have:=HJ5.out;have:=HJ14.out;first|omega|exact Nat.le_refl _⟩,dr_⟩
        rw[if_neg c26] at H
        obtain⟨c26b0,c26b1⟩:=eF_ c26
        by_cases c27:a0=11
        ·
         rw[if_pos c27] at H
         obtain⟨c27b0,c27b1⟩:=eT_ c27
         clear c27
         have H':=A_ H
         clear H
         go_wp2
         go_meet
         case rel=>exact⟨_,((a0==11)),rs_,H',⟨by have:=HJ1.out;have:=HJ5.out;have:=HJ14.out;first|omega|exact Nat.le_refl _⟩,dr_⟩
        rw[if_neg c27] at H
        obtain⟨c27b0,c27b1⟩:=eF_ c27
        by_cases c28:a0=15
        ·
         rw[if_pos c28] at H
         obtain⟨c28b0,c28b1⟩:=eT_ c28
         clear c28
         have H':=A_ H
         clear H
         go_wp2
         go_meet
         case rel=>exact⟨_,((a0==15)),rs_,H',⟨by have:=HJ1.out;have:=HJ5.out;have:=HJ14.out;first|omega|exact Nat.le_refl _⟩,dr_⟩
        rw[if_neg c28] at H
        obtain⟨c28b0,c28b1⟩:=eF_ c28
        by_cases c29:a0=26
        ·
         rw[if_pos c29] at H
         obtain⟨c29b0,c29b1⟩:=eT_ c29
         clear c29
         have H':=A_ H
         clear H
         go_wp2
         go_meet
         case rel=>exact⟨_,((a0==26)),rs_,H',⟨by have:=HJ1.out;have:=HJ5.out;have:=HJ14.out;first|omega|exact Nat.le_refl _⟩,dr_⟩
        rw[if_neg c29] at H
        obtain⟨c29b0,c29b1⟩:=eF_ c29
        by_cases c30:a0=27
        ·
         rw[if_pos c30] at H
         obtain⟨c30b0,c30b1⟩:=eT_ c30
         clear c30
         have H':=A_ H
         clear H
         go_wp2
         go_meet
         case rel=>exact⟨_,((a0==27)),rs_,H',⟨by have:=HJ1.out;have:=HJ5.out;have:=HJ14.out;first|omega|exact Nat.le_refl _⟩,dr_⟩
        rw[if_neg c30] at H
        obtain⟨c30b0,c30b1⟩:=eF_ c30
        by_cases c31:a0=63
        ·
         rw[if_pos c31] at H
         obtain⟨c31b0,c31b1⟩:=eT_ c31
         clear c31
         have H':=A_ H
         clear H
         go_wp2
         go_meet
         case rel=>exact⟨_,((a0==63)),rs_,H',⟨by have:=HJ1.out;have:=HJ5.out;have:=HJ14.out;first|omega|exact Nat.le_refl _⟩,dr_⟩
        rw[if_neg c31] at H
        obtain⟨c31b0,c31b1⟩:=eF_ c31
        by_cases c32:a0=64
        ·
         rw[if_pos c32] at H
         obtain⟨c32b0,c32b1⟩:=eT_ c32
         clear c32
         have H':=A_ H
         clear H
         go_wp2
         go_meet
         case rel=>exact⟨_,((a0==64)),rs_,H',⟨by have:=HJ1.out;have:=HJ5.out;have:=HJ14.out;first|omega|exact Nat.le_refl _⟩,dr_⟩
        rw[if_neg c32] at H
        obtain⟨c32b0,c32b1⟩:=eF_ c32
        by_cases c33:a0=176
        ·
         rw[if_pos c33] at H
         obtain⟨c33b0,c33b1⟩:=eT_ c33
         clear c33
         have H':=A_ H
         clear H
         go_wp2
         go_meet
         case rel=>exact⟨_,((a0==176)),rs_,H',⟨by have:=HJ1.out;have:=HJ5.out;have:=HJ14.out;first|omega|exact Nat.le_refl _⟩,dr_⟩
        rw[if_neg c33] at H
        obtain⟨c33b0,c33b1⟩:=eF_ c33
        by_cases c34:a0=177
        ·
         rw[if_pos c34] at H
         obtain⟨c34b0,c34b1⟩:=eT_ c34
         clear c34
         have H':=A_ H
         clear H
         go_wp2
         go_meet
         case rel=>exact⟨_,((a0==177)),rs_,H',⟨by have:=HJ1.out;have:=HJ5.out;have:=HJ14.out;first|omega|exact Nat.le_refl _⟩,dr_⟩
        rw[if_neg c34] at H
        obtain⟨c34b0,c34b1⟩:=eF_ c34
        by_cases c35:a0=178
        ·
         rw[if_pos c35] at H
         obtain⟨c35b0,c35b1⟩:=eT_ c35
         clear c35
         have H':=A_ H
         clear H
         go_wp2
         go_meet
         case rel=>exact⟨_,((a0==178)),rs_,H',⟨by have:=HJ1.out;have:=HJ5.out;have:=HJ14.out;first|omega|exact Nat.le_refl _⟩,dr_⟩
        rw[if_neg c35] at H
        obtain⟨c35b0,c35b1⟩:=eF_ c35
        by_cases c36:a0=179
        ·
         rw[if_pos c36] at H
         obtain⟨c36b0,c36b1⟩:=eT_ c36
         clear c36
         have H':=A_ H
         clear H
         go_wp2
         go_meet
         case rel=>exact⟨_,((a0==179)),rs_,H',⟨by have:=HJ1.out;have:=HJ5.out;have:=HJ14.out;first|omega|exact Nat.le_refl _⟩,dr_⟩
        rw[if_neg c36] at H
        obtain⟨c36b0,c36b1⟩:=eF_ c36
        have H':=A_ H
        clear H
        go_wp2
        go_meet
        case rel=>exact⟨_,((a0==180)),rs_,H',⟨by have:=HJ1.out;have:=HJ5.out;have:=HJ14.out;first|omega|exact Nat.le_refl _⟩,dr_⟩
       case rest=>
        clear HC23
        try clear c5 c14 c19 c20 c20b0 c20b1 c21 c21b0 c21b1 c22 c22b0 c22b1
        obtain⟨kq,x28_22,rfl,HA,HJ22,⟨mc22,rfl⟩⟩:=hcut
        cases kq with
        |zero=>exact absurd HA.out (by simp[impl_formOf.j3])
        |succ kj22=>
         have H:=HA.out
         clear HA
         simp only[impl_formOf.j3] at H
         by_cases c37:x28_22=true
         ·
          subst c37
          replace H:=iT_ H
          obtain rfl:=Option.some.inj H
          clear H
          go_wp2
          go_ret
          exact⟨rs_,dr_⟩
         replace c37:=Bool.eq_false_iff.mpr c37
         subst c37
         replace H:=iF_ H
         by_cases c38:a0 > 96
         ·
          rw[if_pos c38] at H
          have c38b0:=decide_eq_true c38
          clear c38
          by_cases c39:a0≤123
          ·
           rw[if_pos c39] at H
           have c39b0:=decide_eq_true c39
           clear c39
           obtain rfl:=Option.some.inj H
           clear H
           go_wp2
           go_ret
           exact⟨rs_,dr_⟩
          rw[if_neg c39] at H
          have c39b0:=decide_eq_false c39
          clear c39
          by_cases c40:a0 > 128
          ·
           rw[if_pos c40] at H
           have c40b0:=decide_eq_true c40
           clear c40
           by_cases c41:a0≤155
           ·
            rw[if_pos c41] at H
            have c41b0:=decide_eq_true c41
            clear c41
            obtain rfl:=Option.some.inj H
            clear H
            go_wp2
            go_ret
            exact⟨rs_,dr_⟩
           rw[if_neg c41] at H
           have c41b0:=decide_eq_false c41
           clear c41
           by_cases c42:a0 > 160
           ·
            rw[if_pos c42] at H
            have c42b0:=decide_eq_true c42
            clear c42
            by_cases c43:a0≤169
            ·
             rw[if_pos c43] at H
             have c43b0:=decide_eq_true c43
             clear c43
             obtain rfl:=Option.some.inj H
             clear H
             go_wp2
             go_ret
             exact⟨rs_,dr_⟩
            rw[if_neg c43] at H
            have c43b0:=decide_eq_false c43
            clear c43
            obtain rfl:=Option.some.inj H
            clear H
            go_wp2
            go_ret
            exact⟨rs_,dr_⟩
           rw[if_neg c42] at H
           have c42b0:=decide_eq_false c42
           clear c42
           obtain rfl:=Option.some.inj H
           clear H
           go_wp2
           go_ret
           exact⟨rs_,dr_⟩
          rw[if_neg c40] at H
          have c40b0:=decide_eq_false c40
          clear c40
          by_cases c44:a0 > 160
          ·
           rw[if_pos c44] at H
           have c44b0:=decide_eq_true c44
           clear c44
           by_cases c45:a0≤169
           ·
            rw[if_pos c45] at H
            have c45b0:=decide_eq_true c45
            clear c45
            obtain rfl:=Option.some.inj H
            clear H
            go_wp2
            go_ret
            exact⟨rs_,dr_⟩
           rw[if_neg c45] at H
           have c45b0:=decide_eq_false c45
           clear c45
           obtain rfl:=Option.some.inj H
           clear H
           go_wp2
           go_ret
           exact⟨rs_,dr_⟩
          rw[if_neg c44] at H
          have c44b0:=decide_eq_false c44
          clear c44
          obtain rfl:=Option.some.inj H
          clear H
          go_wp2
          go_ret
          exact⟨rs_,dr_⟩
         rw[if_neg c38] at H
         have c38b0:=decide_eq_false c38
         clear c38
         by_cases c46:a0 > 128
         ·
          rw[if_pos c46] at H
          have c46b0:=decide_eq_true c46
          clear c46
          by_cases c47:a0≤155
          ·
           rw[if_pos c47] at H
           have c47b0:=decide_eq_true c47
           clear c47
           obtain rfl:=Option.some.inj H
           clear H
           go_wp2
           go_ret
           exact⟨rs_,dr_⟩
          rw[if_neg c47] at H
          have c47b0:=decide_eq_false c47
          clear c47
          by_cases c48:a0 > 160
          ·
           rw[if_pos c48] at H
           have c48b0:=decide_eq_true c48
           clear c48
           by_cases c49:a0≤169
           ·
            rw[if_pos c49] at H
            have c49b0:=decide_eq_true c49
            clear c49
            obtain rfl:=Option.some.inj H
            clear H
            go_wp2
            go_ret
            exact⟨rs_,dr_⟩
           rw[if_neg c49] at H
           have c49b0:=decide_eq_false c49
           clear c49
           obtain rfl:=Option.some.inj H
           clear H
           go_wp2
           go_ret
           exact⟨rs_,dr_⟩
          rw[if_neg c48] at H
          have c48b0:=decide_eq_false c48
          clear c48
          obtain rfl:=Option.some.inj H
          clear H
          go_wp2
          go_ret
          exact⟨rs_,dr_⟩
         rw[if_neg c46] at H
         have c46b0:=decide_eq_false c46
         clear c46
         by_cases c50:a0 > 160
         ·
          rw[if_pos c50] at H
          have c50b0:=decide_eq_true c50
          clear c50
          by_cases c51:a0≤169
          ·
           rw[if_pos c51] at H
           have c51b0:=decide_eq_true c51
           clear c51
           obtain rfl:=Option.some.inj H
           clear H
           go_wp2
           go_ret
           exact⟨rs_,dr_⟩
          rw[if_neg c51] at H
          have c51b0:=decide_eq_false c51
          clear c51
          obtain rfl:=Option.some.inj H
          clear H
          go_wp2
          go_ret
          exact⟨rs_,dr_⟩
         rw[if_neg c50] at H
         have c50b0:=decide_eq_false c50
         clear c50
         obtain rfl:=Option.some.inj H
         clear H
         go_wp2
         go_ret
         exact⟨rs_,dr_⟩

/-! ### impl_goodType: function 40 -/
def impl_goodType.f (a0:Int):Option (Bool):=if a0=127 then (some true) else (if a0=126 then (some true) else (some (a0==125)))
theorem impl_goodType.calls (a0:Int) (r:Bool) (w:World) (h:impl_goodType.f a0=some r):
  Calls Try.prog 40 #[.int .i64 a0] w fun e w'=>e=.returned (.bool r)∧Drawn0 w w':=by
 have H:(if a0=127 then (some true) else (if a0=126 then (some true) else (some (a0==125))))=some r:=h
 clear h
 by_cases c2:a0=127
 ·
  rw[if_pos c2] at H
  obtain⟨c2b0,c2b1⟩:=eT_ c2
  clear c2
  obtain rfl:=Option.some.inj H
  clear H
  go_enter Try.func40,Try.ntmps40
  go_wp2
  go_ret
  exact⟨rs_,dr_⟩
 rw[if_neg c2] at H
 obtain⟨c2b0,c2b1⟩:=eF_ c2
 by_cases c3:a0=126
 ·
  rw[if_pos c3] at H
  obtain⟨c3b0,c3b1⟩:=eT_ c3
  clear c3
  obtain rfl:=Option.some.inj H
  clear H
  go_enter Try.func40,Try.ntmps40
  go_wp2
  go_ret
  exact⟨rs_,dr_⟩
 rw[if_neg c3] at H
 obtain⟨c3b0,c3b1⟩:=eF_ c3
 obtain rfl:=Option.some.inj H
 clear H
 go_enter Try.func40,Try.ntmps40
 go_wp2
 go_ret
 exact⟨rs_,dr_⟩

/-! ### impl_GoodIns: function 24 -/
def impl_GoodIns.f (k:Nat) (a0_0:Int) (a0_1:Int):Option (Bool):=(impl_formOf.f k a0_0).bind fun t589=>(if t589=1 then (some (a0_1==0)) else (if t589=2 then ((impl_goodType.f a0_1).bind fun t590=>(if t590=true then (some true) else (some (a0_1==64)))) else (if t589=3 then (if a0_1≥0 then (some (decide (a0_1≤1000))) else (some false)) else (if t589=4 then (if a0_1≥0 then (some (decide (a0_1≤10000))) else (some false)) else (if t589=5 then (if a0_1≥(-2147483648) then (some (decide (a0_1<2147483648))) else (some false)) else (if t589=6 then (some true) else (if t589=7 then (if a0_1≥0 then (some (decide (a0_1<4294967296))) else (some false)) else (some false))))))))
theorem impl_GoodIns.calls (k:Nat) (a0_0:Int) (a0_1:Int) (r:Bool) (w:World) (h:impl_GoodIns.f k a0_0 a0_1=some r):
  Calls Try.prog 24 #[.agg #[.int .i64 a0_0,.int .i64 a0_1]] w fun e w'=>e=.returned (.bool r)∧Below w.heap.size w w':=by
 have hu37:=Try.underlying37
 have HB:=A_ (Below.refl w.heap.size w)
 have H:((impl_formOf.f k a0_0).bind fun t589=>(if t589=1 then (some (a0_1==0)) else (if t589=2 then ((impl_goodType.f a0_1).bind fun t590=>(if t590=true then (some true) else (some (a0_1==64)))) else (if t589=3 then (if a0_1≥0 then (some (decide (a0_1≤1000))) else (some false)) else (if t589=4 then (if a0_1≥0 then (some (decide (a0_1≤10000))) else (some false)) else (if t589=5 then (if a0_1≥(-2147483648) then (some (decide (a0_1<2147483648))) else (some false)) else (if t589=6 then (some true) else (if t589=7 then (if a0_1≥0 then (some (decide (a0_1<4294967296))) else (some false)) else (some false)))))))))=some r:=h
 clear h
 replace H:=bi_ H
 obtain⟨t589,A20,H⟩:=H
 have A2:=A_ A20
 clear A20
 by_cases c3:t589=1
 ·
  rw[if_pos c3] at H
  obtain⟨c3b0,c3b1⟩:=eT_ c3
  clear c3
  obtain rfl:=Option.some.inj H
  clear H
  go_enter Try.func24,Try.ntmps24
  go_wp2_with (first|((with_reducible refine gd_ 1 rfl ?_);refine bx_ #[.int .i64 a0_0,.int .i64 a0_1] 37 ?_;intro gb588 hg w4 hbox hb;have BK588:=A_ hbox;have GW588:=gw_ hg HB;have GE588:=GW588;replace HB:=bs_ HB hb;clear hb hbox hg;obtain⟨hcz5_0,hcz5_1⟩:=cs2_ BK588.out;obtain⟨hfz5_0,hfz5_1⟩:=fz2_ BK588.out)|((with_reducible refine gc_ 17 rfl ?_);refine gn_ (some 5) Try.func17 (impl_formOf.calls k a0_0 t589 _ A2.out) ?_;intro nd))
  go_ret
  exact⟨rr_,bw HB.out⟩
 rw[if_neg c3] at H
 obtain⟨c3b0,c3b1⟩:=eF_ c3
 by_cases c6:t589=2
 ·
  rw[if_pos c6] at H
  obtain⟨c6b0,c6b1⟩:=eT_ c6
  clear c6
  replace H:=bi_ H
  obtain⟨t590,A70,H⟩:=H
  have A7:=A_ A70
  clear A70
  by_cases c8:t590=true
  ·
   subst c8
   replace H:=iT_ H
   obtain rfl:=Option.some.inj H
   clear H
   go_enter Try.func24,Try.ntmps24
   go_wp2_with (first|((with_reducible refine gd_ 1 rfl ?_);refine bx_ #[.int .i64 a0_0,.int .i64 a0_1] 37 ?_;intro gb588 hg w9 hbox hb;have BK588:=A_ hbox;have GW588:=gw_ hg HB;have GE588:=GW588;replace HB:=bs_ HB hb;clear hb hbox hg;obtain⟨hcz10_0,hcz10_1⟩:=cs2_ BK588.out;obtain⟨hfz10_0,hfz10_1⟩:=fz2_ BK588.out)|((with_reducible refine gc_ 17 rfl ?_);refine gn_ (some 5) Try.func17 (impl_formOf.calls k a0_0 t589 _ A2.out) ?_;intro nd)|((with_reducible refine gc_ 40 rfl ?_);refine gn_ (some 15) Try.func40 (impl_goodType.calls a0_1 true _ A7.out) ?_;intro nd))
   go_ret
   exact⟨rr_,bw HB.out⟩
  replace c8:=Bool.eq_false_iff.mpr c8
  subst c8
  replace H:=iF_ H
  obtain rfl:=Option.some.inj H
  clear H
  go_enter Try.func24,Try.ntmps24
  go_wp2_with (first|((with_reducible refine gd_ 1 rfl ?_);refine bx_ #[.int .i64 a0_0,.int .i64 a0_1] 37 ?_;intro gb588 hg w11 hbox hb;have BK588:=A_ hbox;have GW588:=gw_ hg HB;have GE588:=GW588;replace HB:=bs_ HB hb;clear hb hbox hg;obtain⟨hcz12_0,hcz12_1⟩:=cs2_ BK588.out;obtain⟨hfz12_0,hfz12_1⟩:=fz2_ BK588.out)|((with_reducible refine gc_ 17 rfl ?_);refine gn_ (some 5) Try.func17 (impl_formOf.calls k a0_0 t589 _ A2.out) ?_;intro nd)|((with_reducible refine gc_ 40 rfl ?_);refine gn_ (some 15) Try.func40 (impl_goodType.calls a0_1 false _ A7.out) ?_;intro nd))
  go_ret
  exact⟨rr_,bw HB.out⟩
 rw[if_neg c6] at H
 obtain⟨c6b0,c6b1⟩:=eF_ c6
 by_cases c13:t589=3
 ·
  rw[if_pos c13] at H
  obtain⟨c13b0,c13b1⟩:=eT_ c13
  clear c13
  by_cases c14:a0_1≥0
  ·
   rw[if_pos c14] at H
   have c14b0:=decide_eq_true c14
   clear c14
   obtain rfl:=Option.some.inj H
   clear H
   go_enter Try.func24,Try.ntmps24
   go_wp2_with (first|((with_reducible refine gd_ 1 rfl ?_);refine bx_ #[.int .i64 a0_0,.int .i64 a0_1] 37 ?_;intro gb588 hg w15 hbox hb;have BK588:=A_ hbox;have GW588:=gw_ hg HB;have GE588:=GW588;replace HB:=bs_ HB hb;clear hb hbox hg;obtain⟨hcz16_0,hcz16_1⟩:=cs2_ BK588.out;obtain⟨hfz16_0,hfz16_1⟩:=fz2_ BK588.out)|((with_reducible refine gc_ 17 rfl ?_);refine gn_ (some 5) Try.func17 (impl_formOf.calls k a0_0 t589 _ A2.out) ?_;intro nd))
   go_ret
   exact⟨rr_,bw HB.out⟩
  rw[if_neg c14] at H
  have c14b0:=decide_eq_false c14
  clear c14
  obtain rfl:=Option.some.inj H
  clear H
  go_enter Try.func24,Try.ntmps24
  go_wp2_with (first|((with_reducible refine gd_ 1 rfl ?_);refine bx_ #[.int .i64 a0_0,.int .i64 a0_1] 37 ?_;intro gb588 hg w17 hbox hb;have BK588:=A_ hbox;have GW588:=gw_ hg HB;have GE588:=GW588;replace HB:=bs_ HB hb;clear hb hbox hg;obtain⟨hcz18_0,hcz18_1⟩:=cs2_ BK588.out;obtain⟨hfz18_0,hfz18_1⟩:=fz2_ BK588.out)|((with_reducible refine gc_ 17 rfl ?_);refine gn_ (some 5) Try.func17 (impl_formOf.calls k a0_0 t589 _ A2.out) ?_;intro nd))
  go_ret
  exact⟨rr_,bw HB.out⟩
 rw[if_neg c13] at H
 obtain⟨c13b0,c13b1⟩:=eF_ c13
 by_cases c19:t589=4
 ·
  rw[if_pos c19] at H
  obtain⟨c19b0,c19b1⟩:=eT_ c19
  clear c19
  by_cases c20:a0_1≥0
  ·
   rw[if_pos c20] at H
   have c20b0:=decide_eq_true c20
   clear c20
   obtain rfl:=Option.some.inj H
   clear H
   go_enter Try.func24,Try.ntmps24
   go_wp2_with (first|((with_reducible refine gd_ 1 rfl ?_);refine bx_ #[.int .i64 a0_0,.int .i64 a0_1] 37 ?_;intro gb588 hg w21 hbox hb;have BK588:=A_ hbox;have GW588:=gw_ hg HB;have GE588:=GW588;replace HB:=bs_ HB hb;clear hb hbox hg;obtain⟨hcz22_0,hcz22_1⟩:=cs2_ BK588.out;obtain⟨hfz22_0,hfz22_1⟩:=fz2_ BK588.out)|((with_reducible refine gc_ 17 rfl ?_);refine gn_ (some 5) Try.func17 (impl_formOf.calls k a0_0 t589 _ A2.out) ?_;intro nd))
   go_ret
   exact⟨rr_,bw HB.out⟩
  rw[if_neg c20] at H
  have c20b0:=decide_eq_false c20
  clear c20
  obtain rfl:=Option.some.inj H
  clear H
  go_enter Try.func24,Try.ntmps24
  go_wp2_with (first|((with_reducible refine gd_ 1 rfl ?_);refine bx_ #[.int .i64 a0_0,.int .i64 a0_1] 37 ?_;intro gb588 hg w23 hbox hb;have BK588:=A_ hbox;have GW588:=gw_ hg HB;have GE588:=GW588;replace HB:=bs_ HB hb;clear hb hbox hg;obtain⟨hcz24_0,hcz24_1⟩:=cs2_ BK588.out;obtain⟨hfz24_0,hfz24_1⟩:=fz2_ BK588.out)|((with_reducible refine gc_ 17 rfl ?_);refine gn_ (some 5) Try.func17 (impl_formOf.calls k a0_0 t589 _ A2.out) ?_;intro nd))
  go_ret
  exact⟨rr_,bw HB.out⟩
 rw[if_neg c19] at H
 obtain⟨c19b0,c19b1⟩:=eF_ c19
 by_cases c25:t589=5
 ·
  rw[if_pos c25] at H
  obtain⟨c25b0,c25b1⟩:=eT_ c25
  clear c25
  by_cases c26:a0_1≥(-2147483648)
  ·
   rw[if_pos c26] at H
   have c26b0:=decide_eq_true c26
   clear c26
   obtain rfl:=Option.some.inj H
   clear H
   go_enter Try.func24,Try.ntmps24
   go_wp2_with (first|((with_reducible refine gd_ 1 rfl ?_);refine bx_ #[.int .i64 a0_0,.int .i64 a0_1] 37 ?_;intro gb588 hg w27 hbox hb;have BK588:=A_ hbox;have GW588:=gw_ hg HB;have GE588:=GW588;replace HB:=bs_ HB hb;clear hb hbox hg;obtain⟨hcz28_0,hcz28_1⟩:=cs2_ BK588.out;obtain⟨hfz28_0,hfz28_1⟩:=fz2_ BK588.out)|((with_reducible refine gc_ 17 rfl ?_);refine gn_ (some 5) Try.func17 (impl_formOf.calls k a0_0 t589 _ A2.out) ?_;intro nd))
   go_ret
   exact⟨rr_,bw HB.out⟩
  rw[if_neg c26] at H
  have c26b0:=decide_eq_false c26
  clear c26
  obtain rfl:=Option.some.inj H
  clear H
  go_enter Try.func24,Try.ntmps24
  go_wp2_with (first|((with_reducible refine gd_ 1 rfl ?_);refine bx_ #[.int .i64 a0_0,.int .i64 a0_1] 37 ?_;intro gb588 hg w29 hbox hb;have BK588:=A_ hbox;have GW588:=gw_ hg HB;have GE588:=GW588;replace HB:=bs_ HB hb;clear hb hbox hg;obtain⟨hcz30_0,hcz30_1⟩:=cs2_ BK588.out;obtain⟨hfz30_0,hfz30_1⟩:=fz2_ BK588.out)|((with_reducible refine gc_ 17 rfl ?_);refine gn_ (some 5) Try.func17 (impl_formOf.calls k a0_0 t589 _ A2.out) ?_;intro nd))
  go_ret
  exact⟨rr_,bw HB.out⟩
 rw[if_neg c25] at H
 obtain⟨c25b0,c25b1⟩:=eF_ c25
 by_cases c31:t589=6
 ·
  rw[if_pos c31] at H
  obtain⟨c31b0,c31b1⟩:=eT_ c31
  clear c31
  obtain rfl:=Option.some.inj H
  clear H
  go_enter Try.func24,Try.ntmps24
  go_wp2_with (first|((with_reducible refine gd_ 1 rfl ?_);refine bx_ #[.int .i64 a0_0,.int .i64 a0_1] 37 ?_;intro gb588 hg w32 hbox hb;have BK588:=A_ hbox;have GW588:=gw_ hg HB;have GE588:=GW588;replace HB:=bs_ HB hb;clear hb hbox hg;obtain⟨hcz33_0,hcz33_1⟩:=cs2_ BK588.out;obtain⟨hfz33_0,hfz33_1⟩:=fz2_ BK588.out)|((with_reducible refine gc_ 17 rfl ?_);refine gn_ (some 5) Try.func17 (impl_formOf.calls k a0_0 t589 _ A2.out) ?_;intro nd))
  go_ret
  exact⟨rr_,bw HB.out⟩
 rw[if_neg c31] at H
 obtain⟨c31b0,c31b1⟩:=eF_ c31
 by_cases c34:t589=7
 ·
  rw[if_pos c34] at H
  obtain⟨c34b0,c34b1⟩:=eT_ c34
  clear c34
  by_cases c35:a0_1≥0
  ·
   rw[if_pos c35] at H
   have c35b0:=decide_eq_true c35
   clear c35
   obtain rfl:=Option.some.inj H
   clear H
   go_enter Try.func24,Try.ntmps24
   go_wp2_with (first|((with_reducible refine gd_ 1 rfl ?_);refine bx_ #[.int .i64 a0_0,.int .i64 a0_1] 37 ?_;intro gb588 hg w36 hbox hb;have BK588:=A_ hbox;have GW588:=gw_ hg HB;have GE588:=GW588;replace HB:=bs_ HB hb;clear hb hbox hg;obtain⟨hcz37_0,hcz37_1⟩:=cs2_ BK588.out;obtain⟨hfz37_0,hfz37_1⟩:=fz2_ BK588.out)|((with_reducible refine gc_ 17 rfl ?_);refine gn_ (some 5) Try.func17 (impl_formOf.calls k a0_0 t589 _ A2.out) ?_;intro nd))
   go_ret
   exact⟨rr_,bw HB.out⟩
  rw[if_neg c35] at H
  have c35b0:=decide_eq_false c35
  clear c35
  obtain rfl:=Option.some.inj H
  clear H
  go_enter Try.func24,Try.ntmps24
  go_wp2_with (first|((with_reducible refine gd_ 1 rfl ?_);refine bx_ #[.int .i64 a0_0,.int .i64 a0_1] 37 ?_;intro gb588 hg w38 hbox hb;have BK588:=A_ hbox;have GW588:=gw_ hg HB;have GE588:=GW588;replace HB:=bs_ HB hb;clear hb hbox hg;obtain⟨hcz39_0,hcz39_1⟩:=cs2_ BK588.out;obtain⟨hfz39_0,hfz39_1⟩:=fz2_ BK588.out)|((with_reducible refine gc_ 17 rfl ?_);refine gn_ (some 5) Try.func17 (impl_formOf.calls k a0_0 t589 _ A2.out) ?_;intro nd))
  go_ret
  exact⟨rr_,bw HB.out⟩
 rw[if_neg c34] at H
 obtain⟨c34b0,c34b1⟩:=eF_ c34
 obtain rfl:=Option.some.inj H
 clear H
 go_enter Try.func24,Try.ntmps24
 go_wp2_with (first|((with_reducible refine gd_ 1 rfl ?_);refine bx_ #[.int .i64 a0_0,.int .i64 a0_1] 37 ?_;intro gb588 hg w40 hbox hb;have BK588:=A_ hbox;have GW588:=gw_ hg HB;have GE588:=GW588;replace HB:=bs_ HB hb;clear hb hbox hg;obtain⟨hcz41_0,hcz41_1⟩:=cs2_ BK588.out;obtain⟨hfz41_0,hfz41_1⟩:=fz2_ BK588.out)|((with_reducible refine gc_ 17 rfl ?_);refine gn_ (some 5) Try.func17 (impl_formOf.calls k a0_0 t589 _ A2.out) ?_;intro nd))
 go_ret
 exact⟨rr_,bw HB.out⟩

/-! ### impl_goodCode: function 16 -/
def impl_goodCode.l0:Nat→List (S37)→Int→Int→Option (Bool)
 |0,_,_,_=>none
 |k+1,x8,x9,x10=>if x10<x9 then (if 0≤x10 then (if x10<(x8.length:Int) then ((impl_GoodIns.f k ((rd_T37 x8 x10).f0) ((rd_T37 x8 x10).f1)).bind fun t593=>(if t593=true then (impl_goodCode.l0 k x8 x9 (wrap64 (x10+1))) else (some false))) else (none)) else (none)) else (some true)
def impl_goodCode.f (k:Nat) (l0:List (S37)):Option (Bool):=if (l0.length:Int) > 200 then (some false) else (impl_goodCode.l0 k l0 (l0.length:Int) 0)
theorem impl_goodCode.calls (k:Nat) (A0:Option Addr) (c0:Nat) (l0:List (S37)) (r:Bool) (w:World) (hr0:Kd.C k37 w A0 l0.length l0) (hc0:l0.length≤c0) (h:impl_goodCode.f k l0=some r):
  Calls Try.prog 16 #[.slice A0 l0.length c0] w fun e w'=>e=.returned (.bool r)∧Below w.heap.size w w':=by
 have hu37:=Try.underlying37
 have HR0:=A_ hr0
 have HC0:=A_ hc0
 clear hr0 hc0
 have HB:=A_ (Below.refl w.heap.size w)
 have H:(if (l0.length:Int) > 200 then (some false) else (impl_goodCode.l0 k l0 (l0.length:Int) 0))=some r:=h
 clear h
 by_cases c2:(l0.length:Int) > 200
 ·
  rw[if_pos c2] at H
  have c2b0:=decide_eq_true c2
  have c2b1:decide (200<l0.length)=true:=decide_eq_true (by omega)
  clear c2
  obtain rfl:=Option.some.inj H
  clear H
  go_enter Try.func16,Try.ntmps16
  go_wp2
  go_ret
  exact⟨rr_,bw HB.out⟩
 rw[if_neg c2] at H
 have c2b0:=decide_eq_false c2
 have c2b1:decide (200<l0.length)=false:=decide_eq_false (by omega)
 clear c2
 have H':=A_ H
 clear H
 go_enter Try.func16,Try.ntmps16
 go_wp2
 (try simp only[Act.put,List.setIfInBounds_toArray,List.set_cons_zero,List.set_cons_succ])
 go_loopg [10] k (fun kq v10 w'=>∃ (x10_1:Int),v10=.int .i64 x10_1∧Aside0 (impl_goodCode.l0 kq l0 (l0.length:Int) x10_1=some r)∧Aside0 (kq≤k)∧Aside0 (Below w.heap.size w w'))
 case atStart=>exact⟨(0),rs_,H',⟨Nat.le_refl _⟩,⟨bw HB.out⟩⟩
 case round=>
  clear H'
  try clear c2 c2b0 c2b1
  obtain⟨x10_1,rfl,HA,HK1,HB⟩:=hrel
  cases gk with
  |zero=>exact absurd HA.out (by simp[impl_goodCode.l0])
  |succ k1=>
   have H:=HA.out
   clear HA
   simp only[impl_goodCode.l0] at H
   by_cases c3:x10_1<(l0.length:Int)
   ·
    rw[if_pos c3] at H
    have c3b0:=decide_eq_true c3
    clear c3
    by_cases c4:0≤x10_1
    ·
     rw[if_pos c4] at H
     have c4b0:=decide_eq_true c4
     clear c4
     by_cases c5:x10_1<(l0.length:Int)
     ·
      rw[if_pos c5] at H
      have c5b0:=decide_eq_true c5
      clear c5
      replace H:=bi_ H
      obtain⟨t593,A60,H⟩:=H
      have A6:=A_ A60
      clear A60
      by_cases c7:t593=true
      ·
       subst c7
       replace H:=iT_ H
       have H':=A_ H
       clear H
       have p591:0≤(x10_1:Int):=od_
       have q591:x10_1<(l0.length:Int):=od_
       obtain⟨ad591,e591,hx591_0,hx591_1⟩:=at_T37 HR0.out x10_1 p591 q591
       cases e591
       replace hx591_0:=cl_ HB.out hx591_0
       replace hx591_1:=cl_ HB.out hx591_1
       replace p591:=eq_true p591
       replace q591:=eq_true q591
       go_wp2_with (first|((with_reducible refine gd_ 4 rfl ?_);refine bx_ #[.int .i64 0,.int .i64 0] 37 ?_;intro gb592 hg w8 hbox hb;have BK592:=A_ hbox;have GW592:=gw_ hg HB;have GE592:=GW592;replace HB:=bs_ HB hb;clear hb hbox hg;obtain⟨hcz9_0,hcz9_1⟩:=cs2_ BK592.out;obtain⟨hfz9_0,hfz9_1⟩:=fz2_ BK592.out)|((with_reducible refine gc_ 24 rfl ?_);refine gm_ (some 15) Try.func24 (impl_GoodIns.calls k1 ((rd_T37 l0 x10_1).f0) ((rd_T37 l0 x10_1).f1) true _ A6.out) ?_;intro w10 hb;replace BK592:=A_ (blk_below (g:=gb592) (o:=.cells #[.int .i64 ((rd_T37 l0 x10_1).f0),.int .i64 ((rd_T37 l0 x10_1).f1)] 37 (0,0)) (by refine blk_put (cs:=#[.int .i64 ((rd_T37 l0 x10_1).f0),.int .i64 0]) ?_ 1 _ rfl;refine blk_put (cs:=#[.int .i64 0,.int .i64 0]) ?_ 0 _ rfl;(with_reducible repeat (first|refine blk_drewN ?_ _|refine blk_drew ?_|refine blk_alloc ?_ _));exact BK592.out) hb);replace HB:=bs_ HB hb;(try clear hb)))
       go_roundg k1
       case measure=>have:=HK1.out;omega
       case rel=>exact⟨(wrap64 (x10_1+1)),rs_,H',⟨by have:=HK1.out;omega⟩,⟨bw HB.out⟩⟩
      replace c7:=Bool.eq_false_iff.mpr c7
      subst c7
      replace H:=iF_ H
      obtain rfl:=Option.some.inj H
      clear H
      have p591:0≤(x10_1:Int):=od_
      have q591:x10_1<(l0.length:Int):=od_
      obtain⟨ad591,e591,hx591_0,hx591_1⟩:=at_T37 HR0.out x10_1 p591 q591
      cases e591
      replace hx591_0:=cl_ HB.out hx591_0
      replace hx591_1:=cl_ HB.out hx591_1
      replace p591:=eq_true p591
      replace q591:=eq_true q591
      go_wp2_with (first|((with_reducible refine gd_ 4 rfl ?_);refine bx_ #[.int .i64 0,.int .i64 0] 37 ?_;intro gb592 hg w11 hbox hb;have BK592:=A_ hbox;have GW592:=gw_ hg HB;have GE592:=GW592;replace HB:=bs_ HB hb;clear hb hbox hg;obtain⟨hcz12_0,hcz12_1⟩:=cs2_ BK592.out;obtain⟨hfz12_0,hfz12_1⟩:=fz2_ BK592.out)|((with_reducible refine gc_ 24 rfl ?_);refine gm_ (some 15) Try.func24 (impl_GoodIns.calls k1 ((rd_T37 l0 x10_1).f0) ((rd_T37 l0 x10_1).f1) false _ A6.out) ?_;intro w13 hb;replace BK592:=A_ (blk_below (g:=gb592) (o:=.cells #[.int .i64 ((rd_T37 l0 x10_1).f0),.int .i64 ((rd_T37 l0 x10_1).f1)] 37 (0,0)) (by refine blk_put (cs:=#[.int .i64 ((rd_T37 l0 x10_1).f0),.int .i64 0]) ?_ 1 _ rfl;refine blk_put (cs:=#[.int .i64 0,.int .i64 0]) ?_ 0 _ rfl;(with_reducible repeat (first|refine blk_drewN ?_ _|refine blk_drew ?_|refine blk_alloc ?_ _));exact BK592.out) hb);replace HB:=bs_ HB hb;(try clear hb)))
      go_ret
      exact⟨rr_,bw HB.out⟩
     rw[if_neg c5] at H
     exact absurd H (by simp)
    rw[if_neg c4] at H
    exact absurd H (by simp)
   rw[if_neg c3] at H
   have c3b0:=decide_eq_false c3
   clear c3
   obtain rfl:=Option.some.inj H
   clear H
   go_wp2
   go_ret
   exact⟨rr_,bw HB.out⟩

/-! ### impl_UlebBytes: function 18 -/
def impl_UlebBytes.l0:Nat→Int→List Int→Option (ByteArray)
 |0,_,_=>none
 |k+1,x0,x3=>if x0≥128 then (if x3.length<140737488355328 then (impl_UlebBytes.l0 k (x0 / 128) (x3++[Go.bits .or .u8 ((x0) % 256) 128])) else (none)) else (if x3.length<140737488355328 then (some (strOfNums (x3++[(x0) % 256]))) else (none))
def impl_UlebBytes.f (k:Nat) (a0:Int):Option (ByteArray):=impl_UlebBytes.l0 k a0 (([]:List Int))
theorem impl_UlebBytes.calls (k:Nat) (a0:Int) (r:ByteArray) (w:World) (h:impl_UlebBytes.f k a0=some r):
  Calls Try.prog 18 #[.int .u64 a0] w fun e w'=>e=.returned (.string r)∧Below w.heap.size w w':=by
 have HB:=A_ (Below.refl w.heap.size w)
 have H:(impl_UlebBytes.l0 k a0 (([]:List Int)))=some r:=h
 clear h
 obtain⟨y594,hy594⟩:∃ y_:List Int,y_=(([]:List Int)):=⟨_,rfl⟩
 replace H:(impl_UlebBytes.l0 k a0 y594)=some r:=by first|(rw[hy594];with_reducible exact H)|(have H2_:=(Option.bind_some _ _).symm.trans H;rw[hy594];with_reducible exact H2_)|(have H2_:=(Option.bind_some _ _).symm.trans H;with_reducible exact H2_)|with_reducible exact H|(rw[hy594];exact H)|exact H
 have Ny594:=A_ hy594
 clear hy594
 have H':=A_ H
 clear H
 go_enter Try.func18,Try.ntmps18
 go_wp2_with (first|((with_reducible refine gd_ 4 rfl ?_);refine Kd.R_lit (Kd.int .u8) _ 5 ?hg (N:=4) ?hd (xs:=([]:List Int)) (inner:=[]) (ok:=fun _=>True) (okp:=fun _=>True) ?hr ?hp (fun _ hk=>hk) trivial (Below.refl _ _) (Nat.le_refl _) (by simp) ?_;(case hd=>rfl);(case hg=>rfl);(case hr=>first|(go_simp;done)|(go_simp;rfl));(case hp=>exact(Reps.none _ _));intro v595 w2 ho3 hb hg_ hnew_;clear hg_ hnew_;(first|rw[←Ny594.out] at ho3|(simp only[Int.reduceToNat] at ho3;rw[←Ny594.out] at ho3));have HO596:=A_ (Kd.R_lower ho3 (below_size (bw HB.out)));replace HB:=bs_ HB hb;clear hb ho3))
 (try simp only[Act.put,List.setIfInBounds_toArray,List.set_cons_zero,List.set_cons_succ])
 go_loopg [0,3] k (fun kq v0 v3 w'=>∃ (x0_1:Int) (x3_1:List Int),v0=.int .u64 x0_1∧Aside0 (impl_UlebBytes.l0 kq x0_1 x3_1=some r)∧Aside0 (kq≤k)∧Aside0 (Kd.R (Kd.int .u8) 5 w' w.heap.size (fun _=>True) v3 x3_1)∧Aside0 (Below w.heap.size w w'))
 case atStart=>exact⟨(a0),(y594),rs_,H',⟨Nat.le_refl _⟩,⟨kr_ HO596.out⟩,⟨bw HB.out⟩⟩
 case round=>
  clear H'
  obtain⟨x0_1,x3_1,rfl,HA,HK1,HO_3,HB⟩:=hrel
  cases gk with
  |zero=>exact absurd HA.out (by simp[impl_UlebBytes.l0])
  |succ k1=>
   have H:=HA.out
   clear HA
   simp only[impl_UlebBytes.l0] at H
   by_cases c4:x0_1≥128
   ·
    rw[if_pos c4] at H
    have c4b0:=decide_eq_true c4
    clear c4
    by_cases c5:x3_1.length<140737488355328
    ·
     rw[if_pos c5] at H
     have LMc5:=A_ c5
     clear c5
     obtain⟨y597,hy597⟩:∃ y_:List Int,y_=(x3_1++[Go.bits .or .u8 ((x0_1) % 256) 128]):=⟨_,rfl⟩
     replace H:(impl_UlebBytes.l0 k1 (x0_1 / 128) y597)=some r:=by first|(rw[hy597];with_reducible exact H)|(have H2_:=(Option.bind_some _ _).symm.trans H;rw[hy597];with_reducible exact H2_)|(have H2_:=(Option.bind_some _ _).symm.trans H;with_reducible exact H2_)|with_reducible exact H|(rw[hy597];exact H)|exact H
     have Ny597:=A_ hy597
     clear hy597
     have H':=A_ H
     clear H
     go_wp2_with (first|((with_reducible refine gate_builtin (b:=.append) (xs:=#[.tmp 7,.tmp 11]) rfl ?_);at_builtin;refine Kd.R_append (Kd.int .u8) (w0:=w) w.heap.size rfl (.tmp 7) (.tmp 11) 22 5 (.int .u8 0) 1 rfl Try.underlying22 info5 rfl (by decide) (by omega) u3 x3_1 (Go.bits .or .u8 ((x0_1) % 256) 128) [.int .u8 (Go.bits .or .u8 ((x0_1) % 256) 128)] (fun _=>True) (fun _=>False) rfl rfl ?aP (fun _ hk=>hk.elim) ?aF ?aO ?aB ?aS ?aL ?_;(case aP=>exact rfl);(case aB=>exact(bw HB.out));(case aF=>exact(fun _ _=>trivial));(case aO=>exact(kr_ HO_3.out));(case aS=>exact(below_size (bw HB.out)));(case aL=>have:=LMc5.out;omega);intro v598 w6 ho hb hg hat;rw[←Ny597.out] at ho;have HO599:=A_ (ho);replace HB:=A_ (hb);clear HO_3;clear ho hb hg hat))
     go_roundg k1
     case measure=>have:=HK1.out;omega
     case rel=>exact⟨(x0_1 / 128),(y597),rs_,H',⟨by have:=HK1.out;omega⟩,⟨kr_ HO599.out⟩,⟨bw HB.out⟩⟩
    rw[if_neg c5] at H
    exact absurd H (by simp)
   rw[if_neg c4] at H
   have c4b0:=decide_eq_false c4
   clear c4
   by_cases c7:x3_1.length<140737488355328
   ·
    rw[if_pos c7] at H
    have LMc7:=A_ c7
    clear c7
    obtain⟨y600,hy600⟩:∃ y_:List Int,y_=(x3_1++[(x0_1) % 256]):=⟨_,rfl⟩
    replace H:(some (strOfNums y600))=some r:=by first|(rw[hy600];with_reducible exact H)|(have H2_:=(Option.bind_some _ _).symm.trans H;rw[hy600];with_reducible exact H2_)|(have H2_:=(Option.bind_some _ _).symm.trans H;with_reducible exact H2_)|with_reducible exact H|(rw[hy600];exact H)|exact H
    have Ny600:=A_ hy600
    clear hy600
    obtain rfl:=Option.some.inj H
    clear H
    go_wp2_with (first|((with_reducible refine gate_builtin (b:=.append) (xs:=#[.tmp 15,.tmp 18]) rfl ?_);at_builtin;refine Kd.R_append (Kd.int .u8) (w0:=w) w.heap.size rfl (.tmp 15) (.tmp 18) 22 5 (.int .u8 0) 1 rfl Try.underlying22 info5 rfl (by decide) (by omega) u3 x3_1 ((x0_1) % 256) [.int .u8 ((x0_1) % 256)] (fun _=>True) (fun _=>False) rfl rfl ?aP (fun _ hk=>hk.elim) ?aF ?aO ?aB ?aS ?aL ?_;(case aP=>exact rfl);(case aB=>exact(bw HB.out));(case aF=>exact(fun _ _=>trivial));(case aO=>exact(kr_ HO_3.out));(case aS=>exact(below_size (bw HB.out)));(case aL=>have:=LMc7.out;omega);intro v601 w8 ho hb hg hat;rw[←Ny600.out] at ho;have HO602:=A_ (ho);replace HB:=A_ (hb);clear HO_3;clear ho hb hg hat;have hcv9:=own_string (P:=Try.prog) Try.underlying22 Try.underlying5 Try.underlying9 (Kd.own_of_R HO602.out)))
    go_ret
    exact⟨rr_,bw HB.out⟩
   rw[if_neg c7] at H
   exact absurd H (by simp)

/-! ### impl_SlebBytes: function 19 -/
def impl_SlebBytes.l0:Nat→Int→List Int→Option (ByteArray)
 |0,_,_=>none
 |k+1,x0,x3=>if (x0 / 128)=0 then (if (Go.bits .and .u8 ((Go.bits .and .i64 x0 127) % 256) 64)=0 then (if x3.length<140737488355328 then (some (strOfNums (x3++[(Go.bits .and .i64 x0 127) % 256]))) else (none)) else (if (x0 / 128)=(-1) then (if x3.length<140737488355328 then (some (strOfNums (x3++[(Go.bits .and .i64 x0 127) % 256]))) else (none)) else (if x3.length<140737488355328 then (impl_SlebBytes.l0 k (x0 / 128) (x3++[Go.bits .or .u8 ((Go.bits .and .i64 x0 127) % 256) 128])) else (none)))) else (if (x0 / 128)=(-1) then (if (Go.bits .and .u8 ((Go.bits .and .i64 x0 127) % 256) 64)=0 then (if x3.length<140737488355328 then (impl_SlebBytes.l0 k (x0 / 128) (x3++[Go.bits .or .u8 ((Go.bits .and .i64 x0 127) % 256) 128])) else (none)) else (if x3.length<140737488355328 then (some (strOfNums (x3++[(Go.bits .and .i64 x0 127) % 256]))) else (none))) else (if x3.length<140737488355328 then (impl_SlebBytes.l0 k (x0 / 128) (x3++[Go.bits .or .u8 ((Go.bits .and .i64 x0 127) % 256) 128])) else (none)))
def impl_SlebBytes.f (k:Nat) (a0:Int):Option (ByteArray):=impl_SlebBytes.l0 k a0 (([]:List Int))
theorem impl_SlebBytes.calls (k:Nat) (a0:Int) (r:ByteArray) (w:World) (h:impl_SlebBytes.f k a0=some r):
  Calls Try.prog 19 #[.int .i64 a0] w fun e w'=>e=.returned (.string r)∧Below w.heap.size w w':=by
 have HB:=A_ (Below.refl w.heap.size w)
 have H:(impl_SlebBytes.l0 k a0 (([]:List Int)))=some r:=h
 clear h
 obtain⟨y603,hy603⟩:∃ y_:List Int,y_=(([]:List Int)):=⟨_,rfl⟩
 replace H:(impl_SlebBytes.l0 k a0 y603)=some r:=by first|(rw[hy603];with_reducible exact H)|(have H2_:=(Option.bind_some _ _).symm.trans H;rw[hy603];with_reducible exact H2_)|(have H2_:=(Option.bind_some _ _).symm.trans H;with_reducible exact H2_)|with_reducible exact H|(rw[hy603];exact H)|exact H
 have Ny603:=A_ hy603
 clear hy603
 have H':=A_ H
 clear H
 go_enter Try.func19,Try.ntmps19
 go_wp2_with (first|((with_reducible refine gd_ 5 rfl ?_);refine Kd.R_lit (Kd.int .u8) _ 5 ?hg (N:=5) ?hd (xs:=([]:List Int)) (inner:=[]) (ok:=fun _=>True) (okp:=fun _=>True) ?hr ?hp (fun _ hk=>hk) trivial (Below.refl _ _) (Nat.le_refl _) (by simp) ?_;(case hd=>rfl);(case hg=>rfl);(case hr=>first|(go_simp;done)|(go_simp;rfl));(case hp=>exact(Reps.none _ _));intro v604 w2 ho3 hb hg_ hnew_;clear hg_ hnew_;(first|rw[←Ny603.out] at ho3|(simp only[Int.reduceToNat] at ho3;rw[←Ny603.out] at ho3));have HO605:=A_ (Kd.R_lower ho3 (below_size (bw HB.out)));replace HB:=bs_ HB hb;clear hb ho3))
 (try simp only[Act.put,List.setIfInBounds_toArray,List.set_cons_zero,List.set_cons_succ])
 go_loopg [0,3] k (fun kq v0 v3 w'=>∃ (x0_1:Int) (x3_1:List Int),v0=.int .i64 x0_1∧Aside0 (impl_SlebBytes.l0 kq x0_1 x3_1=some r)∧Aside0 (kq≤k)∧Aside0 (Kd.R (Kd.int .u8) 5 w' w.heap.size (fun _=>True) v3 x3_1)∧Aside0 (Below w.heap.size w w'))
 case atStart=>exact⟨(a0),(y603),rs_,H',⟨Nat.le_refl _⟩,⟨kr_ HO605.out⟩,⟨bw HB.out⟩⟩
 case round=>
  clear H'
  obtain⟨x0_1,x3_1,rfl,HA,HK1,HO_3,HB⟩:=hrel
  cases gk with
  |zero=>exact absurd HA.out (by simp[impl_SlebBytes.l0])
  |succ k1=>
   have H:=HA.out
   clear HA
   simp only[impl_SlebBytes.l0] at H
   by_cases c4:(x0_1 / 128)=0
   ·
    rw[if_pos c4] at H
    obtain⟨c4b0,c4b1⟩:=eT_ c4
    clear c4
    by_cases c5:(Go.bits .and .u8 ((Go.bits .and .i64 x0_1 127) % 256) 64)=0
    ·
     rw[if_pos c5] at H
     obtain⟨c5b0,c5b1⟩:=eT_ c5
     clear c5
     by_cases c6:x3_1.length<140737488355328
     ·
      rw[if_pos c6] at H
      have LMc6:=A_ c6
      clear c6
      obtain⟨y606,hy606⟩:∃ y_:List Int,y_=(x3_1++[(Go.bits .and .i64 x0_1 127) % 256]):=⟨_,rfl⟩
      replace H:(some (strOfNums y606))=some r:=by first|(rw[hy606];with_reducible exact H)|(have H2_:=(Option.bind_some _ _).symm.trans H;rw[hy606];with_reducible exact H2_)|(have H2_:=(Option.bind_some _ _).symm.trans H;with_reducible exact H2_)|with_reducible exact H|(rw[hy606];exact H)|exact H
      have Ny606:=A_ hy606
      clear hy606
      obtain rfl:=Option.some.inj H
      clear H
      go_wp2_with (first|((with_reducible refine gate_builtin (b:=.append) (xs:=#[.tmp 27,.tmp 29]) rfl ?_);at_builtin;refine Kd.R_append (Kd.int .u8) (w0:=w) w.heap.size rfl (.tmp 27) (.tmp 29) 22 5 (.int .u8 0) 1 rfl Try.underlying22 info5 rfl (by decide) (by omega) u3 x3_1 ((Go.bits .and .i64 x0_1 127) % 256) [.int .u8 ((Go.bits .and .i64 x0_1 127) % 256)] (fun _=>True) (fun _=>False) rfl rfl ?aP (fun _ hk=>hk.elim) ?aF ?aO ?aB ?aS ?aL ?_;(case aP=>exact rfl);(case aB=>exact(bw HB.out));(case aF=>exact(fun _ _=>trivial));(case aO=>exact(kr_ HO_3.out));(case aS=>exact(below_size (bw HB.out)));(case aL=>have:=LMc6.out;omega);intro v607 w7 ho hb hg hat;rw[←Ny606.out] at ho;have HO608:=A_ (ho);replace HB:=A_ (hb);clear HO_3;clear ho hb hg hat;have hcv8:=own_string (P:=Try.prog) Try.underlying22 Try.underlying5 Try.underlying9 (Kd.own_of_R HO608.out)))
      go_ret
      exact⟨rr_,bw HB.out⟩
     rw[if_neg c6] at H
     exact absurd H (by simp)
    rw[if_neg c5] at H
    obtain⟨c5b0,c5b1⟩:=eF_ c5
    by_cases c9:(x0_1 / 128)=(-1)
    ·
     rw[if_pos c9] at H
     obtain⟨c9b0,c9b1⟩:=eT_ c9
     clear c9
     by_cases c10:x3_1.length<140737488355328
     ·
      rw[if_pos c10] at H
      have LMc10:=A_ c10
      clear c10
      obtain⟨y609,hy609⟩:∃ y_:List Int,y_=(x3_1++[(Go.bits .and .i64 x0_1 127) % 256]):=⟨_,rfl⟩
      replace H:(some (strOfNums y609))=some r:=by first|(rw[hy609];with_reducible exact H)|(have H2_:=(Option.bind_some _ _).symm.trans H;rw[hy609];with_reducible exact H2_)|(have H2_:=(Option.bind_some _ _).symm.trans H;with_reducible exact H2_)|with_reducible exact H|(rw[hy609];exact H)|exact H
      have Ny609:=A_ hy609
      clear hy609
      obtain rfl:=Option.some.inj H
      clear H
      go_wp2_with (first|((with_reducible refine gate_builtin (b:=.append) (xs:=#[.tmp 27,.tmp 29]) rfl ?_);at_builtin;refine Kd.R_append (Kd.int .u8) (w0:=w) w.heap.size rfl (.tmp 27) (.tmp 29) 22 5 (.int .u8 0) 1 rfl Try.underlying22 info5 rfl (by decide) (by omega) u3 x3_1 ((Go.bits .and .i64 x0_1 127) % 256) [.int .u8 ((Go.bits .and .i64 x0_1 127) % 256)] (fun _=>True) (fun _=>False) rfl rfl ?aP (fun _ hk=>hk.elim) ?aF ?aO ?aB ?aS ?aL ?_;(case aP=>exact rfl);(case aB=>exact(bw HB.out));(case aF=>exact(fun _ _=>trivial));(case aO=>exact(kr_ HO_3.out));(case aS=>exact(below_size (bw HB.out)));(case aL=>have:=LMc10.out;omega);intro v610 w11 ho hb hg hat;rw[←Ny609.out] at ho;have HO611:=A_ (ho);replace HB:=A_ (hb);clear HO_3;clear ho hb hg hat;have hcv12:=own_string (P:=Try.prog) Try.underlying22 Try.underlying5 Try.underlying9 (Kd.own_of_R HO611.out)))
      go_ret
      exact⟨rr_,bw HB.out⟩
     rw[if_neg c10] at H
     exact absurd H (by simp)
    rw[if_neg c9] at H
    obtain⟨c9b0,c9b1⟩:=eF_ c9
    by_cases c13:x3_1.length<140737488355328
    ·
     rw[if_pos c13] at H
     have LMc13:=A_ c13
     clear c13
     obtain⟨y612,hy612⟩:∃ y_:List Int,y_=(x3_1++[Go.bits .or .u8 ((Go.bits .and .i64 x0_1 127) % 256) 128]):=⟨_,rfl⟩
     replace H:(impl_SlebBytes.l0 k1 (x0_1 / 128) y612)=some r:=by first|(rw[hy612];with_reducible exact H)|(have H2_:=(Option.bind_some _ _).symm.trans H;rw[hy612];with_reducible exact H2_)|(have H2_:=(Option.bind_some _ _).symm.trans H;with_reducible exact H2_)|with_reducible exact H|(rw[hy612];exact H)|exact H
     have Ny612:=A_ hy612
     clear hy612
     have H':=A_ H
     clear H
     go_wp2_with (first|((with_reducible refine gate_builtin (b:=.append) (xs:=#[.tmp 32,.tmp 35]) rfl ?_);at_builtin;refine Kd.R_append (Kd.int .u8) (w0:=w) w.heap.size rfl (.tmp 32) (.tmp 35) 22 5 (.int .u8 0) 1 rfl Try.underlying22 info5 rfl (by decide) (by omega) u3 x3_1 (Go.bits .or .u8 ((Go.bits .and .i64 x0_1 127) % 256) 128) [.int .u8 (Go.bits .or .u8 ((Go.bits .and .i64 x0_1 127) % 256) 128)] (fun _=>True) (fun _=>False) rfl rfl ?aP (fun _ hk=>hk.elim) ?aF ?aO ?aB ?aS ?aL ?_;(case aP=>exact rfl);(case aB=>exact(bw HB.out));(case aF=>exact(fun _ _=>trivial));(case aO=>exact(kr_ HO_3.out));(case aS=>exact(below_size (bw HB.out)));(case aL=>have:=LMc13.out;omega);intro v613 w14 ho hb hg hat;rw[←Ny612.out] at ho;have HO614:=A_ (ho);replace HB:=A_ (hb);clear HO_3;clear ho hb hg hat))
     go_roundg k1
     case measure=>have:=HK1.out;omega
     case rel=>exact⟨(x0_1 / 128),(y612),rs_,H',⟨by have:=HK1.out;omega⟩,⟨kr_ HO614.out⟩,⟨bw HB.out⟩⟩
    rw[if_neg c13] at H
    exact absurd H (by simp)
   rw[if_neg c4] at H
   obtain⟨c4b0,c4b1⟩:=eF_ c4
   by_cases c15:(x0_1 / 128)=(-1)
   ·
    rw[if_pos c15] at H
    obtain⟨c15b0,c15b1⟩:=eT_ c15
    clear c15
    by_cases c16:(Go.bits .and .u8 ((Go.bits .and .i64 x0_1 127) % 256) 64)=0
    ·
     rw[if_pos c16] at H
     obtain⟨c16b0,c16b1⟩:=eT_ c16
     clear c16
     by_cases c17:x3_1.length<140737488355328
     ·
      rw[if_pos c17] at H
      have LMc17:=A_ c17
      clear c17
      obtain⟨y615,hy615⟩:∃ y_:List Int,y_=(x3_1++[Go.bits .or .u8 ((Go.bits .and .i64 x0_1 127) % 256) 128]):=⟨_,rfl⟩
      replace H:(impl_SlebBytes.l0 k1 (x0_1 / 128) y615)=some r:=by first|(rw[hy615];with_reducible exact H)|(have H2_:=(Option.bind_some _ _).symm.trans H;rw[hy615];with_reducible exact H2_)|(have H2_:=(Option.bind_some _ _).symm.trans H;with_reducible exact H2_)|with_reducible exact H|(rw[hy615];exact H)|exact H
      have Ny615:=A_ hy615
      clear hy615
      have H':=A_ H
      clear H
      go_wp2_with (first|((with_reducible refine gate_builtin (b:=.append) (xs:=#[.tmp 32,.tmp 35]) rfl ?_);at_builtin;refine Kd.R_append (Kd.int .u8) (w0:=w) w.heap.size rfl (.tmp 32) (.tmp 35) 22 5 (.int .u8 0) 1 rfl Try.underlying22 info5 rfl (by decide) (by omega) u3 x3_1 (Go.bits .or .u8 ((Go.bits .and .i64 x0_1 127) % 256) 128) [.int .u8 (Go.bits .or .u8 ((Go.bits .and .i64 x0_1 127) % 256) 128)] (fun _=>True) (fun _=>False) rfl rfl ?aP (fun _ hk=>hk.elim) ?aF ?aO ?aB ?aS ?aL ?_;(case aP=>exact rfl);(case aB=>exact(bw HB.out));(case aF=>exact(fun _ _=>trivial));(case aO=>exact(kr_ HO_3.out));(case aS=>exact(below_size (bw HB.out)));(case aL=>have:=LMc17.out;omega);intro v616 w18 ho hb hg hat;rw[←Ny615.out] at ho;have HO617:=A_ (ho);replace HB:=A_ (hb);clear HO_3;clear ho hb hg hat))
      go_roundg k1
      case measure=>have:=HK1.out;omega
      case rel=>exact⟨(x0_1 / 128),(y615),rs_,H',⟨by have:=HK1.out;omega⟩,⟨kr_ HO617.out⟩,⟨bw HB.out⟩⟩
     rw[if_neg c17] at H
     exact absurd H (by simp)
    rw[if_neg c16] at H
    obtain⟨c16b0,c16b1⟩:=eF_ c16
    by_cases c19:x3_1.length<140737488355328
    ·
     rw[if_pos c19] at H
     have LMc19:=A_ c19
     clear c19
     obtain⟨y618,hy618⟩:∃ y_:List Int,y_=(x3_1++[(Go.bits .and .i64 x0_1 127) % 256]):=⟨_,rfl⟩
     replace H:(some (strOfNums y618))=some r:=by first|(rw[hy618];with_reducible exact H)|(have H2_:=(Option.bind_some _ _).symm.trans H;rw[hy618];with_reducible exact H2_)|(have H2_:=(Option.bind_some _ _).symm.trans H;with_reducible exact H2_)|with_reducible exact H|(rw[hy618];exact H)|exact H
     have Ny618:=A_ hy618
     clear hy618
     obtain rfl:=Option.some.inj H
     clear H
     go_wp2_with (first|((with_reducible refine gate_builtin (b:=.append) (xs:=#[.tmp 27,.tmp 29]) rfl ?_);at_builtin;refine Kd.R_append (Kd.int .u8) (w0:=w) w.heap.size rfl (.tmp 27) (.tmp 29) 22 5 (.int .u8 0) 1 rfl Try.underlying22 info5 rfl (by decide) (by omega) u3 x3_1 ((Go.bits .and .i64 x0_1 127) % 256) [.int .u8 ((Go.bits .and .i64 x0_1 127) % 256)] (fun _=>True) (fun _=>False) rfl rfl ?aP (fun _ hk=>hk.elim) ?aF ?aO ?aB ?aS ?aL ?_;(case aP=>exact rfl);(case aB=>exact(bw HB.out));(case aF=>exact(fun _ _=>trivial));(case aO=>exact(kr_ HO_3.out));(case aS=>exact(below_size (bw HB.out)));(case aL=>have:=LMc19.out;omega);intro v619 w20 ho hb hg hat;rw[←Ny618.out] at ho;have HO620:=A_ (ho);replace HB:=A_ (hb);clear HO_3;clear ho hb hg hat;have hcv21:=own_string (P:=Try.prog) Try.underlying22 Try.underlying5 Try.underlying9 (Kd.own_of_R HO620.out)))
     go_ret
     exact⟨rr_,bw HB.out⟩
    rw[if_neg c19] at H
    exact absurd H (by simp)
   rw[if_neg c15] at H
   obtain⟨c15b0,c15b1⟩:=eF_ c15
   by_cases c22:x3_1.length<140737488355328
   ·
    rw[if_pos c22] at H
    have LMc22:=A_ c22
    clear c22
    obtain⟨y621,hy621⟩:∃ y_:List Int,y_=(x3_1++[Go.bits .or .u8 ((Go.bits .and .i64 x0_1 127) % 256) 128]):=⟨_,rfl⟩
    replace H:(impl_SlebBytes.l0 k1 (x0_1 / 128) y621)=some r:=by first|(rw[hy621];with_reducible exact H)|(have H2_:=(Option.bind_some _ _).symm.trans H;rw[hy621];with_reducible exact H2_)|(have H2_:=(Option.bind_some _ _).symm.trans H;with_reducible exact H2_)|with_reducible exact H|(rw[hy621];exact H)|exact H
    have Ny621:=A_ hy621
    clear hy621
    have H':=A_ H
    clear H
    go_wp2_with (first|((with_reducible refine gate_builtin (b:=.append) (xs:=#[.tmp 32,.tmp 35]) rfl ?_);at_builtin;refine Kd.R_append (Kd.int .u8) (w0:=w) w.heap.size rfl (.tmp 32) (.tmp 35) 22 5 (.int .u8 0) 1 rfl Try.underlying22 info5 rfl (by decide) (by omega) u3 x3_1 (Go.bits .or .u8 ((Go.bits .and .i64 x0_1 127) % 256) 128) [.int .u8 (Go.bits .or .u8 ((Go.bits .and .i64 x0_1 127) % 256) 128)] (fun _=>True) (fun _=>False) rfl rfl ?aP (fun _ hk=>hk.elim) ?aF ?aO ?aB ?aS ?aL ?_;(case aP=>exact rfl);(case aB=>exact(bw HB.out));(case aF=>exact(fun _ _=>trivial));(case aO=>exact(kr_ HO_3.out));(case aS=>exact(below_size (bw HB.out)));(case aL=>have:=LMc22.out;omega);intro v622 w23 ho hb hg hat;rw[←Ny621.out] at ho;have HO623:=A_ (ho);replace HB:=A_ (hb);clear HO_3;clear ho hb hg hat))
    go_roundg k1
    case measure=>have:=HK1.out;omega
    case rel=>exact⟨(x0_1 / 128),(y621),rs_,H',⟨by have:=HK1.out;omega⟩,⟨kr_ HO623.out⟩,⟨bw HB.out⟩⟩
   rw[if_neg c22] at H
   exact absurd H (by simp)

/-! ### impl_inBytes: function 20 -/
def impl_inBytes.l0:Nat→Int→List Int→Int→Int→Option (ByteArray)
 |0,_,_,_,_=>none
 |k+1,x0,x5,x10,x11=>if x11<x10 then (if 0≤(wrap64 (8*x11)) then (if 0≤x11 then (if x11<(x5.length:Int) then (impl_inBytes.l0 k x0 (x5.set (x11:Int).toNat ((shr .u64 x0 (wrap64 (8*x11))) % 256)) x10 (wrap64 (x11+1))) else (none)) else (none)) else (none)) else (some (strOfNums x5))
def impl_inBytes.f (k:Nat) (a0:Int) (a1:Int):Option (ByteArray):=if 0≤a1 then (if (a1:Int).toNat≤281474976710656 then ((some (List.replicate (a1:Int).toNat 0:List Int)).bind fun y624=>(impl_inBytes.l0 k a0 y624 (y624.length:Int) 0)) else (none)) else (none)
theorem impl_inBytes.calls (k:Nat) (a0:Int) (a1:Int) (r:ByteArray) (w:World) (h:impl_inBytes.f k a0 a1=some r):
  Calls Try.prog 20 #[.int .u64 a0,.int .i64 a1] w fun e w'=>e=.returned (.string r)∧Below w.heap.size w w':=by
 have HB:=A_ (Below.refl w.heap.size w)
 have H:(if 0≤a1 then (if (a1:Int).toNat≤281474976710656 then ((some (List.replicate (a1:Int).toNat 0:List Int)).bind fun y624=>(impl_inBytes.l0 k a0 y624 (y624.length:Int) 0)) else (none)) else (none))=some r:=h
 clear h
 by_cases c3:0≤a1
 ·
  rw[if_pos c3] at H
  have c3b0:=eq_true c3
  have c3b1:=decide_eq_true c3
  clear c3
  by_cases c4:(a1:Int).toNat≤281474976710656
  ·
   rw[if_pos c4] at H
   have c4b0:=eq_true c4
   have c4b1:=decide_eq_true c4
   clear c4
   obtain⟨y624,hy624⟩:∃ y_:List Int,y_=(List.replicate (a1:Int).toNat 0):=⟨_,rfl⟩
   replace H:(impl_inBytes.l0 k a0 y624 (y624.length:Int) 0)=some r:=by first|(rw[hy624];with_reducible exact H)|(have H2_:=(Option.bind_some _ _).symm.trans H;rw[hy624];with_reducible exact H2_)|(have H2_:=(Option.bind_some _ _).symm.trans H;with_reducible exact H2_)|with_reducible exact H|(rw[hy624];exact H)|exact H
   have Ny624:=A_ hy624
   clear hy624
   have H':=A_ H
   clear H
   go_enter Try.func20,Try.ntmps20
   go_wp2_with (first|((with_reducible refine gd_ 8 rfl ?_);refine Kd.R_make (Kd.int .u8) _ 5 rfl (N:=8) rfl 22 _ _ rfl a1 rfl rfl Try.underlying22 (.int .u8 0) 1 info5 rfl (by decide) (by omega) 0 (ok:=fun _=>True) (okp:=fun _=>True) rfl (fun _ hk=>hk) trivial (od_) (Nat.le_trans (Nat.mul_le_mul_right _ (od_:a1.toNat≤281474976710656)) (by omega)) (Below.refl _ _) (Nat.le_refl _) ?_;intro v625 w5 ho6 hb hg_ hnew_;clear hg_ hnew_;(first|rw[←Ny624.out] at ho6|(simp only[Int.reduceToNat] at ho6;rw[←Ny624.out] at ho6));have HO626:=A_ (Kd.R_lower ho6 (below_size (bw HB.out)));replace HB:=bs_ HB hb;clear hb ho6;obtain⟨Ao7,co7,eo7⟩:=Kd.R_slice HO626.out;subst eo7))
   (try simp only[Act.put,List.setIfInBounds_toArray,List.set_cons_zero,List.set_cons_succ])
   go_loopg [11] k (fun kq v11 w'=>∃ (x5_1:List Int) (x11_1:Int),v11=.int .i64 x11_1∧Aside0 (impl_inBytes.l0 kq a0 x5_1 (y624.length:Int) x11_1=some r)∧Aside0 (kq≤k)∧Aside0 (Kd.R (Kd.int .u8) 5 w' w.heap.size (fun _=>True) (.slice Ao7 y624.length co7) x5_1)∧Aside0 (Below w.heap.size w w'))
   case atStart=>exact⟨(y624),(0),rs_,H',⟨Nat.le_refl _⟩,⟨kr_ HO626.out⟩,⟨bw HB.out⟩⟩
   case round=>
    clear H'
    try clear c3 c3b0 c3b1 c4 c4b0 c4b1
    obtain⟨x5_1,x11_1,rfl,HA,HK1,HO_5,HB⟩:=hrel
    have hl5_1:=(Kd.R_reads' HO_5.out).1
    rw[hl5_1] at HO_5
    (try simp only[hl5_1])
    cases gk with
    |zero=>exact absurd HA.out (by simp[impl_inBytes.l0])
    |succ k1=>
     have H:=HA.out
     clear HA
     simp only[impl_inBytes.l0] at H
     by_cases c8:x11_1<(y624.length:Int)
     ·
      rw[if_pos c8] at H
      have c8b0:=decide_eq_true c8
      clear c8
      obtain⟨ji9,hji9⟩:∃ j_:Int,(wrap64 (8*x11_1))=j_:=⟨_,rfl⟩
      replace H:(if 0≤(ji9) then (if 0≤x11_1 then (if x11_1<(x5_1.length:Int) then (impl_inBytes.l0 k1 a0 (x5_1.set (x11_1:Int).toNat ((shr .u64 a0 (ji9)) % 256)) (y624.length:Int) (wrap64 (x11_1+1))) else (none)) else (none)) else (none))=some r:=by first|(rw[hji9] at H;exact H)|(simp only[hji9] at H ⊢;exact H)
      have hji9w:(IntKind.i64.wrap (8*x11_1))=ji9:=(i64_w _).trans hji9
      by_cases c10:0≤(ji9)
      ·
       rw[if_pos c10] at H
       have c10b0:=eq_true c10
       have c10b1:=decide_eq_true c10
       clear c10
       obtain⟨ji11,hji11⟩:∃ j_:Int,(shr .u64 a0 (ji9))=j_:=⟨_,rfl⟩
       replace H:(if 0≤x11_1 then (if x11_1<(x5_1.length:Int) then (impl_inBytes.l0 k1 a0 (x5_1.set (x11_1:Int).toNat ((ji11) % 256)) (y624.length:Int) (wrap64 (x11_1+1))) else (none)) else (none))=some r:=by first|(rw[hji11] at H;exact H)|(simp only[hji11] at H ⊢;exact H)
       have hji11_:(a0 / 2 ^ min (ji9).toNat 64)=ji11:=hji11
       have hji11z:(ji9)≤64→(a0 / 2 ^ (ji9).toNat)=ji11:=shr_small hji11
       by_cases c12:0≤x11_1
       ·
        rw[if_pos c12] at H
        have c12b0:=decide_eq_true c12
        clear c12
        by_cases c13:x11_1<(x5_1.length:Int)
        ·
         rw[if_pos c13] at H
         have c13b0:=decide_eq_true c13
         clear c13
         obtain⟨y627,hy627⟩:∃ y_:List Int,y_=(x5_1.set (x11_1:Int).toNat ((ji11) % 256)):=⟨_,rfl⟩
         replace H:(impl_inBytes.l0 k1 a0 y627 (y624.length:Int) (wrap64 (x11_1+1)))=some r:=by first|(rw[hy627];with_reducible exact H)|(have H2_:=(Option.bind_some _ _).symm.trans H;rw[hy627];with_reducible exact H2_)|(have H2_:=(Option.bind_some _ _).symm.trans H;with_reducible exact H2_)|with_reducible exact H|(rw[hy627];exact H)|exact H
         have Ny627:=A_ hy627
         clear hy627
         have H':=A_ H
         clear H
         have p14:0≤(x11_1:Int):=od_
         have q14:(x11_1:Int)<((x5_1.length:Int):Int):=od_
         obtain⟨go14,co14,eo14,gb14,gl14,cl14,HG14⟩:=Kd.R_form HO_5.out (by omega)
         (first|cases eo14|(injection eo14 with ea_ en_ ec_;(first|subst ea_|(injection ea_ with ea_;subst ea_));subst ec_;clear en_))
         have GB14:=A_ gb14
         have GG14:=A_ HG14
         clear gb14 gl14 HG14
         obtain⟨hx14_0,hf14_0⟩:=Kd.R_celln 0 HO_5.out (x11_1:Int) p14 q14
         replace p14:=eq_true p14
         replace q14:=eq_true q14
         have HP15:=Kd.R_putg HO_5.out (x11_1:Int) ((ji11) % 256)
         go_wp2_with (first|((with_reducible refine gate_store (t:=5) (p:=21) rfl ?_);refine store_event (t:=5) (p:=21) (v:=?vo_w16) (w1:=(wr.setCell ⟨go14,(x11_1:Int).toNat,none⟩ (.int .u8 ((ji11) % 256)))) ?hg ?ho ?hn ?hr ?_;(case ho=>rfl);(case hg=>rfl);(case hn=>rfl);(case hr=>first|(go_simp;done)|(go_simp;rfl));intro w16 hw;have hg:wr.grownBy w16 (some go14):=(by rw[hw];exact HP15.2);have hp_:Kd.R (Kd.int .u8) 5 w16 w.heap.size (fun _=>True) (.slice (some ⟨go14,0,none⟩) x5_1.length co7) y627:=(by rw[hw,Ny627.out];exact HP15.1);clear HP15;replace HO_5:=A_ (hp_);replace HB:=A_ ((by rw[hw];exact below_set (HB.out) GB14.out:Below w.heap.size w w16));clear hg hw hp_))
         (try simp only[←hl5_1])
         go_roundg k1
         case measure=>have:=HK1.out;omega
         case rel=>exact⟨(y627),(wrap64 (x11_1+1)),rs_,H',⟨by have:=HK1.out;omega⟩,⟨by (try simp only[hl5_1]);(with_reducible repeat (first|apply Kd.R_alloc|apply Kd.R_drewN|apply Kd.R_drew));exact HO_5.out⟩,⟨bw HB.out⟩⟩
        rw[if_neg c13] at H
        exact absurd H (by simp)
       rw[if_neg c12] at H
       exact absurd H (by simp)
      rw[if_neg c10] at H
      exact absurd H (by simp)
     rw[if_neg c8] at H
     have c8b0:=decide_eq_false c8
     (try rw[hl5_1] at c8b0)
     clear c8
     obtain rfl:=Option.some.inj H
     clear H
     have hcv17:=own_string (P:=Try.prog) Try.underlying22 Try.underlying5 Try.underlying9 (Kd.own_of_R HO_5.out)
     go_wp2
     go_ret
     exact⟨rr_,bw HB.out⟩
  rw[if_neg c4] at H
  exact absurd H (by simp)
 rw[if_neg c3] at H
 exact absurd H (by simp)

/-! ### impl_CodeBytes: function 5 -/
mutual
def impl_CodeBytes.l0:Nat→List Int→List (S37)→Int→Int→Option (ByteArray × Bool)
 |0,_,_,_,_=>none
 |k+1,x4,x11,x12,x13=>if x13<x12 then (if 0≤x13 then (if x13<(x11.length:Int) then (if x4.length<140737488355328 then ((some (x4++[((rd_T37 x11 x13).f0) % 256]:List Int)).bind fun y634=>((impl_formOf.f k ((rd_T37 x11 x13).f0)).bind fun t637=>(if t637=2 then (if y634.length<140737488355328 then (impl_CodeBytes.l0 k (y634++[((rd_T37 x11 x13).f1) % 256]) x11 x12 (wrap64 (x13+1))) else (none)) else (if t637=3 then (impl_CodeBytes.j1 k y634 x11 x12 x13 t637 (t637==3) ((rd_T37 x11 x13).f0) ((rd_T37 x11 x13).f1)) else (impl_CodeBytes.j1 k y634 x11 x12 x13 t637 (t637==4) ((rd_T37 x11 x13).f0) ((rd_T37 x11 x13).f1)))))) else (none)) else (none)) else (none)) else (some (strOfNums x4,true))
def impl_CodeBytes.j1:Nat→List Int→List (S37)→Int→Int→Int→Bool→Int→Int→Option (ByteArray × Bool)
 |0,_,_,_,_,_,_,_,_=>none
 |k+1,x4,x11,x12,x13,x25,x34,x634000,x634001=>if x34=true then ((impl_UlebBytes.f k (IntKind.u64.wrap (x634001))).bind fun t641=>(if x4.length+t641.size<140737488355328 then (impl_CodeBytes.l0 k (x4++bytesOf t641) x11 x12 (wrap64 (x13+1))) else (none))) else (if x25=5 then (impl_CodeBytes.j2 k x4 x11 x12 x13 x25 (x25==5) x634000 x634001) else (impl_CodeBytes.j2 k x4 x11 x12 x13 x25 (x25==6) x634000 x634001))
def impl_CodeBytes.j2:Nat→List Int→List (S37)→Int→Int→Int→Bool→Int→Int→Option (ByteArray × Bool)
 |0,_,_,_,_,_,_,_,_=>none
 |k+1,x4,x11,x12,x13,x25,x43,x634000,x634001=>if x43=true then ((impl_SlebBytes.f k x634001).bind fun t645=>(if x4.length+t645.size<140737488355328 then (impl_CodeBytes.l0 k (x4++bytesOf t645) x11 x12 (wrap64 (x13+1))) else (none))) else (if x25=7 then ((impl_inBytes.f k (IntKind.u64.wrap (x634001)) 4).bind fun t649=>(if x4.length+t649.size<140737488355328 then (impl_CodeBytes.l0 k (x4++bytesOf t649) x11 x12 (wrap64 (x13+1))) else (none))) else (impl_CodeBytes.l0 k x4 x11 x12 (wrap64 (x13+1))))
end
def impl_CodeBytes.f (k:Nat) (l0:List (S37)):Option (ByteArray × Bool):=(impl_goodCode.f k l0).bind fun t628=>(if t628=true then (impl_CodeBytes.l0 k (([]:List Int)) l0 (l0.length:Int) 0) else (some ((⟨#[]⟩:ByteArray),false)))
theorem impl_CodeBytes.calls (k:Nat) (A0:Option Addr) (c0:Nat) (l0:List (S37)) (r1:ByteArray) (r2:Bool) (w:World) (hr0:Kd.C k37 w A0 l0.length l0) (hc0:l0.length≤c0) (h:impl_CodeBytes.f k l0=some (r1,r2)):
  Calls Try.prog 5 #[.slice A0 l0.length c0] w fun e w'=>e=.returned (.tuple #[.string r1,.bool r2])∧Below w.heap.size w w':=by
 have hu37:=Try.underlying37
 have HR0:=A_ hr0
 have HC0:=A_ hc0
 clear hr0 hc0
 have HB:=A_ (Below.refl w.heap.size w)
 have H:((impl_goodCode.f k l0).bind fun t628=>(if t628=true then (impl_CodeBytes.l0 k (([]:List Int)) l0 (l0.length:Int) 0) else (some ((⟨#[]⟩:ByteArray),false))))=some (r1,r2):=h
 clear h
 replace H:=bi_ H
 obtain⟨t628,A20,H⟩:=H
 have A2:=A_ A20
 clear A20
 by_cases c3:t628=true
 ·
  subst c3
  replace H:=iT_ H
  obtain⟨y629,hy629⟩:∃ y_:List Int,y_=(([]:List Int)):=⟨_,rfl⟩
  replace H:(impl_CodeBytes.l0 k y629 l0 (l0.length:Int) 0)=some (r1,r2):=by first|(rw[hy629];with_reducible exact H)|(have H2_:=(Option.bind_some _ _).symm.trans H;rw[hy629];with_reducible exact H2_)|(have H2_:=(Option.bind_some _ _).symm.trans H;with_reducible exact H2_)|with_reducible exact H|(rw[hy629];exact H)|exact H
  have Ny629:=A_ hy629
  clear hy629
  have H':=A_ H
  clear H
  go_enter Try.func5,Try.ntmps5
  go_wp2_with (first|((with_reducible refine gc_ 16 rfl ?_);refine goesL_ (some 8) rfl rfl Try.func16 (by kernel_rfl) rfl #[.slice A0 l0.length c0] rfl ar ?_;(with_reducible refine(impl_goodCode.calls k _ _ l0 true _ ?side1 ?side2 A2.out).mono ?_);(case side1=>repeat (first|exact HR0.out|(with_reducible refine Kd.C_alloc ?_ _)|(with_reducible refine Kd.C_drewN ?_ _)|(with_reducible refine Kd.C_drew ?_)));(case side2=>exact HC0.out);rintro e w4 ⟨rfl,hb⟩;refine⟨_,rfl,?_⟩;replace HB:=bs_ HB hb;(try clear hb))|((with_reducible refine gd_ 10 rfl ?_);refine Kd.R_lit (Kd.int .u8) _ 5 ?hg (N:=10) ?hd (xs:=([]:List Int)) (inner:=[]) (ok:=fun _=>True) (okp:=fun _=>True) ?hr ?hp (fun _ hk=>hk) trivial (Below.refl _ _) (Nat.le_refl _) (by simp) ?_;(case hd=>rfl);(case hg=>rfl);(case hr=>first|(go_simp;done)|(go_simp;rfl));(case hp=>exact(Reps.none _ _));intro v630 w5 ho6 hb hg_ hnew_;clear hg_ hnew_;(first|rw[←Ny629.out] at ho6|(simp only[Int.reduceToNat] at ho6;rw[←Ny629.out] at ho6));have HO631:=A_ (Kd.R_lower ho6 (below_size (bw HB.out)));replace HB:=bs_ HB hb;clear hb ho6))
  (try simp only[Act.put,List.setIfInBounds_toArray,List.set_cons_zero,List.set_cons_succ])
  go_loopg [4,13] k (fun kq v4 v13 w'=>∃ (x4_1:List Int) (x13_1:Int),v13=.int .i64 x13_1∧Aside0 (impl_CodeBytes.l0 kq x4_1 l0 (l0.length:Int) x13_1=some (r1,r2))∧Aside0 (kq≤k)∧Aside0 (Kd.R (Kd.int .u8) 5 w' w.heap.size (fun _=>True) v4 x4_1)∧Aside0 (Below w.heap.size w w'))
  case atStart=>exact⟨(y629),(0),rs_,H',⟨Nat.le_refl _⟩,⟨kr_ HO631.out⟩,⟨bw HB.out⟩⟩
  case round=>
   clear H'
   try clear c3
   obtain⟨x4_1,x13_1,rfl,HA,HK1,HO_4,HB⟩:=hrel
   cases gk with
   |zero=>exact absurd HA.out (by simp[impl_CodeBytes.l0])
   |succ k1=>
    have H:=HA.out
    clear HA
    simp only[impl_CodeBytes.l0] at H
    by_cases c7:x13_1<(l0.length:Int)
    ·
     rw[if_pos c7] at H
     have c7b0:=decide_eq_true c7
     clear c7
     by_cases c8:0≤x13_1
     ·
      rw[if_pos c8] at H
      have c8b0:=decide_eq_true c8
      clear c8
      by_cases c9:x13_1<(l0.length:Int)
      ·
       rw[if_pos c9] at H
       have c9b0:=decide_eq_true c9
       clear c9
       by_cases c10:x4_1.length<140737488355328
       ·
        rw[if_pos c10] at H
        have LMc10:=A_ c10
        clear c10
        obtain⟨y634,hy634⟩:∃ y_:List Int,y_=(x4_1++[((rd_T37 l0 x13_1).f0) % 256]):=⟨_,rfl⟩
        replace H:((impl_formOf.f k1 ((rd_T37 l0 x13_1).f0)).bind fun t637=>(if t637=2 then (if y634.length<140737488355328 then (impl_CodeBytes.l0 k1 (y634++[((rd_T37 l0 x13_1).f1) % 256]) l0 (l0.length:Int) (wrap64 (x13_1+1))) else (none)) else (if t637=3 then (impl_CodeBytes.j1 k1 y634 l0 (l0.length:Int) x13_1 t637 (t637==3) ((rd_T37 l0 x13_1).f0) ((rd_T37 l0 x13_1).f1)) else (impl_CodeBytes.j1 k1 y634 l0 (l0.length:Int) x13_1 t637 (t637==4) ((rd_T37 l0 x13_1).f0) ((rd_T37 l0 x13_1).f1)))))=some (r1,r2):=by first|(rw[hy634];with_reducible exact H)|(have H2_:=(Option.bind_some _ _).symm.trans H;rw[hy634];with_reducible exact H2_)|(have H2_:=(Option.bind_some _ _).symm.trans H;with_reducible exact H2_)|with_reducible exact H|(rw[hy634];exact H)|exact H
        have Ny634:=A_ hy634
        clear hy634
        replace H:=bi_ H
        obtain⟨t637,A110,H⟩:=H
        have A11:=A_ A110
        clear A110
        by_cases c12:t637=2
        ·
         rw[if_pos c12] at H
         obtain⟨c12b0,c12b1⟩:=eT_ c12
         clear c12
         by_cases c13:y634.length<140737488355328
         ·
          rw[if_pos c13] at H
          have LMc13:=A_ c13
          clear c13
          obtain⟨y638,hy638⟩:∃ y_:List Int,y_=(y634++[((rd_T37 l0 x13_1).f1) % 256]):=⟨_,rfl⟩
          replace H:(impl_CodeBytes.l0 k1 y638 l0 (l0.length:Int) (wrap64 (x13_1+1)))=some (r1,r2):=by first|(rw[hy638];with_reducible exact H)|(have H2_:=(Option.bind_some _ _).symm.trans H;rw[hy638];with_reducible exact H2_)|(have H2_:=(Option.bind_some _ _).symm.trans H;with_reducible exact H2_)|with_reducible exact H|(rw[hy638];exact H)|exact H
          have Ny638:=A_ hy638
          clear hy638
          have H':=A_ H
          clear H
          have p632:0≤(x13_1:Int):=od_
          have q632:x13_1<(l0.length:Int):=od_
          obtain⟨ad632,e632,hx632_0,hx632_1⟩:=at_T37 HR0.out x13_1 p632 q632
          cases e632
          replace hx632_0:=cl_ HB.out hx632_0
          replace hx632_1:=cl_ HB.out hx632_1
          replace p632:=eq_true p632
          replace q632:=eq_true q632
          go_wp2_with (first|((with_reducible refine gd_ 6 rfl ?_);refine bx_ #[.int .i64 0,.int .i64 0] 37 ?_;intro gb633 hg w14 hbox hb;have BK633:=A_ hbox;have GW633:=gw_ hg HB;have GE633:=GW633;replace HO_4:=A_ (Kd.R_below (kr_ HO_4.out) hb);replace HB:=bs_ HB hb;clear hb hbox hg;obtain⟨hcz15_0,hcz15_1⟩:=cs2_ BK633.out;obtain⟨hfz15_0,hfz15_1⟩:=fz2_ BK633.out)|((with_reducible refine gate_builtin (b:=.append) (xs:=#[.tmp 17,.tmp 21]) rfl ?_);at_builtin;refine Kd.R_append (Kd.int .u8) (w0:=w) w.heap.size rfl (.tmp 17) (.tmp 21) 22 5 (.int .u8 0) 1 rfl Try.underlying22 info5 rfl (by decide) (by omega) u4 x4_1 (((rd_T37 l0 x13_1).f0) % 256) [.int .u8 (((rd_T37 l0 x13_1).f0) % 256)] (fun _=>True) (fun _=>False) rfl (by first|(go_simp;done)|(go_simp;rfl)) ?aP (fun _ hk=>hk.elim) ?aF ?aO ?aB ?aS ?aL ?_;(case aP=>exact rfl);(case aB=>exact(bw HB.out));(case aF=>exact(fun _ _=>trivial));(case aO=>exact(by(with_reducible repeat (first|apply Kd.R_alloc|apply Kd.R_drewN|apply Kd.R_drew));exact Kd.R_mono (Kd.R_far (p:=⟨gb633,1,none⟩) (Kd.R_far (p:=⟨gb633,0,none⟩) (Kd.R_types HO_4.out BK633.out (by decide)) (fun _ hk=>hk.2) (.int .i64 ((rd_T37 l0 x13_1).f0))) (fun _ hk=>hk.2) (.int .i64 ((rd_T37 l0 x13_1).f1))) (fun _ hk=>trivial)));(case aS=>exact(below_size (bw HB.out)));(case aL=>have:=LMc10.out;omega);intro v635 w16 ho hb hg hat;rw[←Ny634.out] at ho;have HO636:=A_ (ho);replace BK633:=A_ (blk_grown (g:=gb633) (o:=.cells #[.int .i64 ((rd_T37 l0 x13_1).f0),.int .i64 ((rd_T37 l0 x13_1).f1)] 37 (0,0)) (by refine blk_put (cs:=#[.int .i64 ((rd_T37 l0 x13_1).f0),.int .i64 0]) ?_ 1 _ rfl;refine blk_put (cs:=#[.int .i64 0,.int .i64 0]) ?_ 0 _ rfl;(with_reducible repeat (first|refine blk_drewN ?_ _|refine blk_drew ?_|refine blk_alloc ?_ _));exact BK633.out) hg (Kd.R_ne HO_4.out BK633.out (by decide)));replace HB:=A_ (hb);clear HO_4;clear ho hb hg hat;obtain⟨hcz17_0,hcz17_1⟩:=cs2_ BK633.out;obtain⟨hfz17_0,hfz17_1⟩:=fz2_ BK633.out)|((with_reducible refine gc_ 17 rfl ?_);refine gn_ (some 25) Try.func17 (impl_formOf.calls k1 ((rd_T37 l0 x13_1).f0) t637 _ A11.out) ?_;intro nd)|((with_reducible refine gate_builtin (b:=.append) (xs:=#[.tmp 28,.tmp 32]) rfl ?_);at_builtin;refine Kd.R_append (Kd.int .u8) (w0:=w) w.heap.size rfl (.tmp 28) (.tmp 32) 22 5 (.int .u8 0) 1 rfl Try.underlying22 info5 rfl (by decide) (by omega) v635 y634 (((rd_T37 l0 x13_1).f1) % 256) [.int .u8 (((rd_T37 l0 x13_1).f1) % 256)] (fun _=>True) (fun _=>False) rfl rfl ?aP (fun _ hk=>hk.elim) ?aF ?aO ?aB ?aS ?aL ?_;(case aP=>exact rfl);(case aB=>exact(bw HB.out));(case aF=>exact(fun _ _=>trivial));(case aO=>exact(kr_ HO636.out));(case aS=>exact(below_size (bw HB.out)));(case aL=>have:=LMc13.out;omega);intro v639 w18 ho hb hg hat;rw[←Ny638.out] at ho;have HO640:=A_ (ho);replace BK633:=A_ (blk_grown (g:=gb633) (o:=.cells #[.int .i64 ((rd_T37 l0 x13_1).f0),.int .i64 ((rd_T37 l0 x13_1).f1)] 37 (0,0)) (bk BK633.out) hg (Kd.R_ne HO636.out BK633.out (by decide)));replace HB:=A_ (hb);clear HO636;clear ho hb hg hat))
          go_roundg k1
          case measure=>have:=HK1.out;omega
          case rel=>exact⟨(y638),(wrap64 (x13_1+1)),rs_,H',⟨by have:=HK1.out;omega⟩,⟨kr_ HO640.out⟩,⟨bw HB.out⟩⟩
         rw[if_neg c13] at H
         exact absurd H (by simp)
        rw[if_neg c12] at H
        obtain⟨c12b0,c12b1⟩:=eF_ c12
        have HC19:=A_ H
        clear H
        have p632:0≤(x13_1:Int):=od_
        have q632:x13_1<(l0.length:Int):=od_
        obtain⟨ad632,e632,hx632_0,hx632_1⟩:=at_T37 HR0.out x13_1 p632 q632
        cases e632
        replace hx632_0:=cl_ HB.out hx632_0
        replace hx632_1:=cl_ HB.out hx632_1
        replace p632:=eq_true p632
        replace q632:=eq_true q632
        go_upto_if 34 with (first|((with_reducible refine gd_ 6 rfl ?_);refine bx_ #[.int .i64 0,.int .i64 0] 37 ?_;intro gb633 hg w20 hbox hb;have BK633:=A_ hbox;have GW633:=gw_ hg HB;have GE633:=GW633;replace HO_4:=A_ (Kd.R_below (kr_ HO_4.out) hb);replace HB:=bs_ HB hb;clear hb hbox hg;obtain⟨hcz21_0,hcz21_1⟩:=cs2_ BK633.out;obtain⟨hfz21_0,hfz21_1⟩:=fz2_ BK633.out)|((with_reducible refine gate_builtin (b:=.append) (xs:=#[.tmp 17,.tmp 21]) rfl ?_);at_builtin;refine Kd.R_append (Kd.int .u8) (w0:=w) w.heap.size rfl (.tmp 17) (.tmp 21) 22 5 (.int .u8 0) 1 rfl Try.underlying22 info5 rfl (by decide) (by omega) u4 x4_1 (((rd_T37 l0 x13_1).f0) % 256) [.int .u8 (((rd_T37 l0 x13_1).f0) % 256)] (fun _=>True) (fun _=>False) rfl (by first|(go_simp;done)|(go_simp;rfl)) ?aP (fun _ hk=>hk.elim) ?aF ?aO ?aB ?aS ?aL ?_;(case aP=>exact rfl);(case aB=>exact(bw HB.out));(case aF=>exact(fun _ _=>trivial));(case aO=>exact(by(with_reducible repeat (first|apply Kd.R_alloc|apply Kd.R_drewN|apply Kd.R_drew));exact Kd.R_mono (Kd.R_far (p:=⟨gb633,1,none⟩) (Kd.R_far (p:=⟨gb633,0,none⟩) (Kd.R_types HO_4.out BK633.out (by decide)) (fun _ hk=>hk.2) (.int .i64 ((rd_T37 l0 x13_1).f0))) (fun _ hk=>hk.2) (.int .i64 ((rd_T37 l0 x13_1).f1))) (fun _ hk=>trivial)));(case aS=>exact(below_size (bw HB.out)));(case aL=>have:=LMc10.out;omega);intro v635 w22 ho hb hg hat;rw[←Ny634.out] at ho;have HO636:=A_ (ho);replace BK633:=A_ (blk_grown (g:=gb633) (o:=.cells #[.int .i64 ((rd_T37 l0 x13_1).f0),.int .i64 ((rd_T37 l0 x13_1).f1)] 37 (0,0)) (by refine blk_put (cs:=#[.int .i64 ((rd_T37 l0 x13_1).f0),.int .i64 0]) ?_ 1 _ rfl;refine blk_put (cs:=#[.int .i64 0,.int .i64 0]) ?_ 0 _ rfl;(with_reducible repeat (first|refine blk_drewN ?_ _|refine blk_drew ?_|refine blk_alloc ?_ _));exact BK633.out) hg (Kd.R_ne HO_4.out BK633.out (by decide)));replace HB:=A_ (hb);clear HO_4;clear ho hb hg hat;obtain⟨hcz23_0,hcz23_1⟩:=cs2_ BK633.out;obtain⟨hfz23_0,hfz23_1⟩:=fz2_ BK633.out)|((with_reducible refine gc_ 17 rfl ?_);refine gn_ (some 25) Try.func17 (impl_formOf.calls k1 ((rd_T37 l0 x13_1).f0) t637 _ A11.out) ?_;intro nd))
        (try simp only[Act.put,List.setIfInBounds_toArray,List.set_cons_zero,List.set_cons_succ])
        go_cut [34] (fun v34 wc=>∃ (kq:Nat) (x34_18:Bool),v34=.bool x34_18∧Aside0 (impl_CodeBytes.j1 kq y634 l0 (l0.length:Int) x13_1 t637 x34_18 ((rd_T37 l0 x13_1).f0) ((rd_T37 l0 x13_1).f1)=some (r1,r2))∧Aside0 (kq≤k1)∧Aside0 (Kd.R (Kd.int .u8) 5 wc w.heap.size (fun _=>True) v635 y634)∧Aside0 (wc.heap[gb633]? =some (.cells #[.int .i64 ((rd_T37 l0 x13_1).f0),.int .i64 ((rd_T37 l0 x13_1).f1)] 37 (0,0)))∧Aside0 (Below w.heap.size w wc))
        case first=>
         have H:=HC19.out
         clear HC19
         by_cases c24:t637=3
         ·
          rw[if_pos c24] at H
          obtain⟨c24b0,c24b1⟩:=eT_ c24
          clear c24
          (first|rw[c24b0]|(simp only[i64_w,i32_w];rw[c24b0])|skip)
          have H':=A_ H
          clear H
          go_wp2
          go_meet
          case rel=>exact⟨_,((t637==3)),rs_,H',⟨by have:=HK1.out;first|omega|exact Nat.le_refl _⟩,⟨kr_ HO636.out⟩,⟨bk BK633.out⟩,⟨bw HB.out⟩⟩
         rw[if_neg c24] at H
         obtain⟨c24b0,c24b1⟩:=eF_ c24
         (first|rw[c24b0]|(simp only[i64_w,i32_w];rw[c24b0])|skip)
         have H':=A_ H
         clear H
         go_wp2
         go_meet
         case rel=>exact⟨_,((t637==4)),rs_,H',⟨by have:=HK1.out;first|omega|exact Nat.le_refl _⟩,⟨kr_ HO636.out⟩,⟨bk BK633.out⟩,⟨bw HB.out⟩⟩
        case rest=>
         clear HC19
         try clear c3 c7 c7b0 c8 c8b0 c9 c9b0 c10 c12 c12b0 c12b1 hcz21_0 hcz21_1 hcz23_0 hcz23_1 hfz21_0 hfz21_1 hfz23_0 hfz23_1 hx632_0 hx632_1 p632 q632
         obtain⟨kq,x34_18,rfl,HA,HJ18,HO_4,BK633,HB⟩:=hcut
         cases kq with
         |zero=>exact absurd HA.out (by simp[impl_CodeBytes.j1])
         |succ kj18=>
          have H:=HA.out
          clear HA
          simp only[impl_CodeBytes.j1] at H
          by_cases c25:x34_18=true
          ·
           subst c25
           replace H:=iT_ H
           replace H:=bi_ H
           obtain⟨t641,A260,H⟩:=H
           have A26:=A_ A260
           clear A260
           by_cases c27:y634.length+t641.size<140737488355328
           ·
            rw[if_pos c27] at H
            have LMc27:=A_ c27
            clear c27
            obtain⟨y642,hy642⟩:∃ y_:List Int,y_=(y634++bytesOf t641):=⟨_,rfl⟩
            replace H:(impl_CodeBytes.l0 kj18 y642 l0 (l0.length:Int) (wrap64 (x13_1+1)))=some (r1,r2):=by first|(rw[hy642];with_reducible exact H)|(have H2_:=(Option.bind_some _ _).symm.trans H;rw[hy642];with_reducible exact H2_)|(have H2_:=(Option.bind_some _ _).symm.trans H;with_reducible exact H2_)|with_reducible exact H|(rw[hy642];exact H)|exact H
            have Ny642:=A_ hy642
            clear hy642
            have H':=A_ H
            clear H
            obtain⟨hcz28_0,hcz28_1⟩:=cs2_ BK633.out
            obtain⟨hfz28_0,hfz28_1⟩:=fz2_ BK633.out
            go_wp2_with (first|((with_reducible refine gc_ 18 rfl ?_);refine gm_ (some 41) Try.func18 (impl_UlebBytes.calls kj18 (IntKind.u64.wrap (((rd_T37 l0 x13_1).f1))) t641 _ A26.out) ?_;intro w29 hb;replace HO_4:=A_ (Kd.R_below (kr_ HO_4.out) hb);replace BK633:=kb_ BK633 hb;replace HB:=bs_ HB hb;(try clear hb))|(at_builtin;refine print_append_str (w0:=w) w.heap.size rfl (.tmp 37) _ 22 9 5 rfl Try.underlying22 Try.underlying9 info5 v635 y634 t641 rfl rfl ?aO ?aB ?aS ?aL ?_;(case aB=>exact(bw HB.out));(case aO=>exact(Kd.own_of_R (kr_ HO_4.out)));(case aS=>exact(below_size (bw HB.out)));(case aL=>have:=LMc27.out;omega);intro v643 w30 ho0 hb hg;have ho:=Kd.R_of_own (h1:=fun _=>rfl) (ok:=fun _=>True) ho0 (fun _ _=>trivial);clear ho0;have hat:=True.intro;rw[←Ny642.out] at ho;change Kd.R (Kd.int .u8) 5 w30 w.heap.size (fun _=>True) v643 y642 at ho;have HO644:=A_ (ho);replace BK633:=A_ (blk_grown (g:=gb633) (o:=.cells #[.int .i64 ((rd_T37 l0 x13_1).f0),.int .i64 ((rd_T37 l0 x13_1).f1)] 37 (0,0)) (bk BK633.out) hg (Kd.R_ne HO_4.out BK633.out (by decide)));replace HB:=A_ (hb);clear HO_4;clear ho hb hg hat))
            go_roundg kj18
            case measure=>have:=HK1.out;have:=HJ18.out;omega
            case rel=>exact⟨(y642),(wrap64 (x13_1+1)),rs_,H',⟨by have:=HK1.out;have:=HJ18.out;omega⟩,⟨kr_ HO644.out⟩,⟨bw HB.out⟩⟩
           rw[if_neg c27] at H
           exact absurd H (by simp)
          replace c25:=Bool.eq_false_iff.mpr c25
          subst c25
          replace H:=iF_ H
          have HC31:=A_ H
          clear H
          go_upto_if 43 with (fail)
          go_cut [43] (fun v43 wc=>∃ (kq:Nat) (x43_30:Bool),v43=.bool x43_30∧Aside0 (impl_CodeBytes.j2 kq y634 l0 (l0.length:Int) x13_1 t637 x43_30 ((rd_T37 l0 x13_1).f0) ((rd_T37 l0 x13_1).f1)=some (r1,r2))∧Aside0 (kq≤kj18)∧Aside0 (Kd.R (Kd.int .u8) 5 wc w.heap.size (fun _=>True) v635 y634)∧Aside0 (wc.heap[gb633]? =some (.cells #[.int .i64 ((rd_T37 l0 x13_1).f0),.int .i64 ((rd_T37 l0 x13_1).f1)] 37 (0,0)))∧Aside0 (Below w.heap.size w wc))
          case first=>
           have H:=HC31.out
           clear HC31
           by_cases c32:t637=5
           ·
            rw[if_pos c32] at H
            obtain⟨c32b0,c32b1⟩:=eT_ c32
            clear c32
            (first|rw[c32b0]|(simp only[i64_w,i32_w];rw[c32b0])|skip)
            have H':=A_ H
            clear H
            go_wp2
            go_meet
            case rel=>exact⟨_,((t637==5)),rs_,H',⟨by have:=HK1.out;have:=HJ18.out;first|omega|exact Nat.le_refl _⟩,⟨kr_ HO_4.out⟩,⟨bk BK633.out⟩,⟨bw HB.out⟩⟩
           rw[if_neg c32] at H
           obtain⟨c32b0,c32b1⟩:=eF_ c32
           (first|rw[c32b0]|(simp only[i64_w,i32_w];rw[c32b0])|skip)
           have H':=A_ H
           clear H
           go_wp2
           go_meet
           case rel=>exact⟨_,((t637==6)),rs_,H',⟨by have:=HK1.out;have:=HJ18.out;first|omega|exact Nat.le_refl _⟩,⟨kr_ HO_4.out⟩,⟨bk BK633.out⟩,⟨bw HB.out⟩⟩
          case rest=>
           clear HC31
           try clear c3 c7 c7b0 c8 c8b0 c9 c9b0 c10 c12 c12b0 c12b1 c25 hcz21_0 hcz21_1 hcz23_0 hcz23_1 hfz21_0 hfz21_1 hfz23_0 hfz23_1 hx632_0 hx632_1 p632 q632
           obtain⟨kq,x43_30,rfl,HA,HJ30,HO_4,BK633,HB⟩:=hcut
           cases kq with
           |zero=>exact absurd HA.out (by simp[impl_CodeBytes.j2])
           |succ kj30=>
            have H:=HA.out
            clear HA
            simp only[impl_CodeBytes.j2] at H
            by_cases c33:x43_30=true
            ·
             subst c33
             replace H:=iT_ H
             replace H:=bi_ H
             obtain⟨t645,A340,H⟩:=H
             have A34:=A_ A340
             clear A340
             by_cases c35:y634.length+t645.size<140737488355328
             ·
              rw[if_pos c35] at H
              have LMc35:=A_ c35
              clear c35
              obtain⟨y646,hy646⟩:∃ y_:List Int,y_=(y634++bytesOf t645):=⟨_,rfl⟩
              replace H:(impl_CodeBytes.l0 kj30 y646 l0 (l0.length:Int) (wrap64 (x13_1+1)))=some (r1,r2):=by first|(rw[hy646];with_reducible exact H)|(have H2_:=(Option.bind_some _ _).symm.trans H;rw[hy646];with_reducible exact H2_)|(have H2_:=(Option.bind_some _ _).symm.trans H;with_reducible exact H2_)|with_reducible exact H|(rw[hy646];exact H)|exact H
              have Ny646:=A_ hy646
              clear hy646
              have H':=A_ H
              clear H
              obtain⟨hcz36_0,hcz36_1⟩:=cs2_ BK633.out
              obtain⟨hfz36_0,hfz36_1⟩:=fz2_ BK633.out
              go_wp2_with (first|((with_reducible refine gc_ 19 rfl ?_);refine gm_ (some 49) Try.func19 (impl_SlebBytes.calls kj30 ((rd_T37 l0 x13_1).f1) t645 _ A34.out) ?_;intro w37 hb;replace HO_4:=A_ (Kd.R_below (kr_ HO_4.out) hb);replace BK633:=kb_ BK633 hb;replace HB:=bs_ HB hb;(try clear hb))|(at_builtin;refine print_append_str (w0:=w) w.heap.size rfl (.tmp 46) _ 22 9 5 rfl Try.underlying22 Try.underlying9 info5 v635 y634 t645 rfl rfl ?aO ?aB ?aS ?aL ?_;(case aB=>exact(bw HB.out));(case aO=>exact(Kd.own_of_R (kr_ HO_4.out)));(case aS=>exact(below_size (bw HB.out)));(case aL=>have:=LMc35.out;omega);intro v647 w38 ho0 hb hg;have ho:=Kd.R_of_own (h1:=fun _=>rfl) (ok:=fun _=>True) ho0 (fun _ _=>trivial);clear ho0;have hat:=True.intro;rw[←Ny646.out] at ho;change Kd.R (Kd.int .u8) 5 w38 w.heap.size (fun _=>True) v647 y646 at ho;have HO648:=A_ (ho);replace BK633:=A_ (blk_grown (g:=gb633) (o:=.cells #[.int .i64 ((rd_T37 l0 x13_1).f0),.int .i64 ((rd_T37 l0 x13_1).f1)] 37 (0,0)) (bk BK633.out) hg (Kd.R_ne HO_4.out BK633.out (by decide)));replace HB:=A_ (hb);clear HO_4;clear ho hb hg hat))
              go_roundg kj30
              case measure=>have:=HK1.out;have:=HJ18.out;have:=HJ30.out;omega
              case rel=>exact⟨(y646),(wrap64 (x13_1+1)),rs_,H',⟨by have:=HK1.out;have:=HJ18.out;have:=HJ30.out;omega⟩,⟨kr_ HO648.out⟩,⟨bw HB.out⟩⟩
             rw[if_neg c35] at H
             exact absurd H (by simp)
            replace c33:=Bool.eq_false_iff.mpr c33
            subst c33
            replace H:=iF_ H
            by_cases c39:t637=7
            ·
             rw[if_pos c39] at H
             obtain⟨c39b0,c39b1⟩:=eT_ c39
             clear c39
             replace H:=bi_ H
             obtain⟨t649,A400,H⟩:=H
             have A40:=A_ A400
             clear A400
             by_cases c41:y634.length+t649.size<140737488355328
             ·
              rw[if_pos c41] at H
              have LMc41:=A_ c41
              clear c41
              obtain⟨y650,hy650⟩:∃ y_:List Int,y_=(y634++bytesOf t649):=⟨_,rfl⟩
              replace H:(impl_CodeBytes.l0 kj30 y650 l0 (l0.length:Int) (wrap64 (x13_1+1)))=some (r1,r2):=by first|(rw[hy650];with_reducible exact H)|(have H2_:=(Option.bind_some _ _).symm.trans H;rw[hy650];with_reducible exact H2_)|(have H2_:=(Option.bind_some _ _).symm.trans H;with_reducible exact H2_)|with_reducible exact H|(rw[hy650];exact H)|exact H
              have Ny650:=A_ hy650
              clear hy650
              have H':=A_ H
              clear H
              obtain⟨hcz42_0,hcz42_1⟩:=cs2_ BK633.out
              obtain⟨hfz42_0,hfz42_1⟩:=fz2_ BK633.out
              go_wp2_with (first|((with_reducible refine gc_ 20 rfl ?_);refine gm_ (some 57) Try.func20 (impl_inBytes.calls kj30 (IntKind.u64.wrap (((rd_T37 l0 x13_1).f1))) 4 t649 _ A40.out) ?_;intro w43 hb;replace HO_4:=A_ (Kd.R_below (kr_ HO_4.out) hb);replace BK633:=kb_ BK633 hb;replace HB:=bs_ HB hb;(try clear hb))|(at_builtin;refine print_append_str (w0:=w) w.heap.size rfl (.tmp 53) _ 22 9 5 rfl Try.underlying22 Try.underlying9 info5 v635 y634 t649 rfl rfl ?aO ?aB ?aS ?aL ?_;(case aB=>exact(bw HB.out));(case aO=>exact(Kd.own_of_R (kr_ HO_4.out)));(case aS=>exact(below_size (bw HB.out)));(case aL=>have:=LMc41.out;omega);intro v651 w44 ho0 hb hg;have ho:=Kd.R_of_own (h1:=fun _=>rfl) (ok:=fun _=>True) ho0 (fun _ _=>trivial);clear ho0;have hat:=True.intro;rw[←Ny650.out] at ho;change Kd.R (Kd.int .u8) 5 w44 w.heap.size (fun _=>True) v651 y650 at ho;have HO652:=A_ (ho);replace BK633:=A_ (blk_grown (g:=gb633) (o:=.cells #[.int .i64 ((rd_T37 l0 x13_1).f0),.int .i64 ((rd_T37 l0 x13_1).f1)] 37 (0,0)) (bk BK633.out) hg (Kd.R_ne HO_4.out BK633.out (by decide)));replace HB:=A_ (hb);clear HO_4;clear ho hb hg hat))
              go_roundg kj30
              case measure=>have:=HK1.out;have:=HJ18.out;have:=HJ30.out;omega
              case rel=>exact⟨(y650),(wrap64 (x13_1+1)),rs_,H',⟨by have:=HK1.out;have:=HJ18.out;have:=HJ30.out;omega⟩,⟨kr_ HO652.out⟩,⟨bw HB.out⟩⟩
             rw[if_neg c41] at H
             exact absurd H (by simp)
            rw[if_neg c39] at H
            obtain⟨c39b0,c39b1⟩:=eF_ c39
            have H':=A_ H
            clear H
            go_wp2
            go_roundg kj30
            case measure=>have:=HK1.out;have:=HJ18.out;have:=HJ30.out;omega
            case rel=>exact⟨(y634),(wrap64 (x13_1+1)),rs_,H',⟨by have:=HK1.out;have:=HJ18.out;have:=HJ30.out;omega⟩,⟨kr_ HO_4.out⟩,⟨bw HB.out⟩⟩
       rw[if_neg c10] at H
       exact absurd H (by simp)
      rw[if_neg c9] at H
      exact absurd H (by simp)
     rw[if_neg c8] at H
     exact absurd H (by simp)
    rw[if_neg c7] at H
    have c7b0:=decide_eq_false c7
    clear c7
    simp only[Option.some.injEq,Prod.mk.injEq] at H
    obtain⟨rfl,rfl⟩:=H
    have hcv45:=own_string (P:=Try.prog) Try.underlying22 Try.underlying5 Try.underlying9 (Kd.own_of_R HO_4.out)
    go_wp2
    go_ret2
    exact⟨rr_,bw HB.out⟩
 replace c3:=Bool.eq_false_iff.mpr c3
 subst c3
 replace H:=iF_ H
 simp only[Option.some.injEq,Prod.mk.injEq] at H
 obtain⟨rfl,rfl⟩:=H
 go_enter Try.func5,Try.ntmps5
 go_wp2_with (first|((with_reducible refine gc_ 16 rfl ?_);refine goesL_ (some 8) rfl rfl Try.func16 (by kernel_rfl) rfl #[.slice A0 l0.length c0] rfl ar ?_;(with_reducible refine(impl_goodCode.calls k _ _ l0 false _ ?side1 ?side2 A2.out).mono ?_);(case side1=>repeat (first|exact HR0.out|(with_reducible refine Kd.C_alloc ?_ _)|(with_reducible refine Kd.C_drewN ?_ _)|(with_reducible refine Kd.C_drew ?_)));(case side2=>exact HC0.out);rintro e w46 ⟨rfl,hb⟩;refine⟨_,rfl,?_⟩;replace HB:=bs_ HB hb;(try clear hb)))
 go_ret2
 exact⟨rr_,bw HB.out⟩

/-! ### spec_l1In: function 44 -/
def spec_l1In.f (a0:Int) (a1:Int) (a2:Int):Option (Bool):=if a0≥a1 then (some (decide (a0≤a2))) else (some false)
theorem spec_l1In.calls (a0:Int) (a1:Int) (a2:Int) (r:Bool) (w:World) (h:spec_l1In.f a0 a1 a2=some r):
  Calls Try.prog 44 #[.int .i64 a0,.int .i64 a1,.int .i64 a2] w fun e w'=>e=.returned (.bool r)∧Drawn0 w w':=by
 have H:(if a0≥a1 then (some (decide (a0≤a2))) else (some false))=some r:=h
 clear h
 by_cases c4:a0≥a1
 ·
  rw[if_pos c4] at H
  have c4b0:=decide_eq_true c4
  clear c4
  obtain rfl:=Option.some.inj H
  clear H
  go_enter Try.func44,Try.ntmps44
  go_wp2
  go_ret
  exact⟨rs_,dr_⟩
 rw[if_neg c4] at H
 have c4b0:=decide_eq_false c4
 clear c4
 obtain rfl:=Option.some.inj H
 clear H
 go_enter Try.func44,Try.ntmps44
 go_wp2
 go_ret
 exact⟨rs_,dr_⟩

/-! ### spec_l6Shape: function 33 -/
mutual
def spec_l6Shape.j0:Nat→Int→Int→Bool→Option (Int)
 |0,_,_,_=>none
 |k+1,x0,x3,x4=>if x4=true then (some 0) else (if x3=2 then (spec_l6Shape.j1 k x0 x3 (x3==2)) else (if x3=3 then (spec_l6Shape.j1 k x0 x3 (x3==3)) else (spec_l6Shape.j1 k x0 x3 (x3==4))))
def spec_l6Shape.j1:Nat→Int→Int→Bool→Option (Int)
 |0,_,_,_=>none
 |k+1,x0,x3,x19=>if x19=true then (some 1) else (if x3=12 then (spec_l6Shape.j2 k x0 x3 (x3==12)) else (if x3=13 then (spec_l6Shape.j2 k x0 x3 (x3==13)) else (if x3=16 then (spec_l6Shape.j2 k x0 x3 (x3==16)) else (if x3=32 then (spec_l6Shape.j2 k x0 x3 (x3==32)) else (if x3=33 then (spec_l6Shape.j2 k x0 x3 (x3==33)) else (if x3=34 then (spec_l6Shape.j2 k x0 x3 (x3==34)) else (if x3=35 then (spec_l6Shape.j2 k x0 x3 (x3==35)) else (spec_l6Shape.j2 k x0 x3 (x3==36)))))))))
def spec_l6Shape.j2:Nat→Int→Int→Bool→Option (Int)
 |0,_,_,_=>none
 |k+1,x0,x3,x23=>if x23=true then (some 2) else (if x3=40 then (spec_l6Shape.j3 k x0 x3 (x3==40)) else (if x3=41 then (spec_l6Shape.j3 k x0 x3 (x3==41)) else (if x3=54 then (spec_l6Shape.j3 k x0 x3 (x3==54)) else (spec_l6Shape.j3 k x0 x3 (x3==55)))))
def spec_l6Shape.j3:Nat→Int→Int→Bool→Option (Int)
 |0,_,_,_=>none
 |k+1,x0,x3,x32=>if x32=true then (some 3) else (if x3=65 then (some 4) else (if x3=66 then (some 5) else (if x3=67 then (some 6) else ((spec_l1In.f x0 97 123).bind fun t653=>(if t653=true then (some 0) else ((spec_l1In.f x0 129 155).bind fun t654=>(if t654=true then (some 0) else ((spec_l1In.f x0 161 169).bind fun t655=>(if t655=true then (some 0) else (some (-1)))))))))))
end
def spec_l6Shape.f (k:Nat) (a0:Int):Option (Int):=if a0=0 then (spec_l6Shape.j0 k a0 a0 (a0==0)) else (if a0=1 then (spec_l6Shape.j0 k a0 a0 (a0==1)) else (if a0=5 then (spec_l6Shape.j0 k a0 a0 (a0==5)) else (if a0=11 then (spec_l6Shape.j0 k a0 a0 (a0==11)) else (if a0=15 then (spec_l6Shape.j0 k a0 a0 (a0==15)) else (if a0=26 then (spec_l6Shape.j0 k a0 a0 (a0==26)) else (if a0=27 then (spec_l6Shape.j0 k a0 a0 (a0==27)) else (if a0=63 then (spec_l6Shape.j0 k a0 a0 (a0==63)) else (if a0=64 then (spec_l6Shape.j0 k a0 a0 (a0==64)) else (if a0=176 then (spec_l6Shape.j0 k a0 a0 (a0==176)) else (if a0=177 then (spec_l6Shape.j0 k a0 a0 (a0==177)) else (if a0=178 then (spec_l6Shape.j0 k a0 a0 (a0==178)) else (if a0=179 then (spec_l6Shape.j0 k a0 a0 (a0==179)) else (spec_l6Shape.j0 k a0 a0 (a0==180))))))))))))))
theorem spec_l6Shape.mono_l:∀ k,(∀ y0 y1 y2,LeO (spec_l6Shape.j0 k y0 y1 y2) (spec_l6Shape.j0 (k+1) y0 y1 y2))∧(∀ y0 y1 y2,LeO (spec_l6Shape.j1 k y0 y1 y2) (spec_l6Shape.j1 (k+1) y0 y1 y2))∧(∀ y0 y1 y2,LeO (spec_l6Shape.j2 k y0 y1 y2) (spec_l6Shape.j2 (k+1) y0 y1 y2))∧(∀ y0 y1 y2,LeO (spec_l6Shape.j3 k y0 y1 y2) (spec_l6Shape.j3 (k+1) y0 y1 y2))
 |0=>⟨fun _ _ _ r h=>by simp[spec_l6Shape.j0] at h,fun _ _ _ r h=>by simp[spec_l6Shape.j1] at h,fun _ _ _ r h=>by simp[spec_l6Shape.j2] at h,fun _ _ _ r h=>by simp[spec_l6Shape.j3] at h⟩
 |k+1=>by
  obtain⟨ih0,ih1,ih2,ih3⟩:=spec_l6Shape.mono_l k
  refine⟨?_,?_,?_,?_⟩
  ·
   intro y0 y1 y2
   unfold spec_l6Shape.j0
   repeat' first
   |(with_reducible exact ih0 _ _ _)
   |(with_reducible exact ih1 _ _ _)
   |(with_reducible exact ih2 _ _ _)
   |(with_reducible exact ih3 _ _ _)
   |(with_reducible exact LeO.refl _)
   |(with_reducible exact LeO.none _)
   |(with_reducible refine LeO.ite ?_ ?_)
   |(with_reducible refine LeO.bind ?_ (fun _=>?_))
   |exact ih0 _ _ _
   |exact ih1 _ _ _
   |exact ih2 _ _ _
   |exact ih3 _ _ _
   |exact LeO.none _
   |refine LeO.ite ?_ ?_
   |refine LeO.bind ?_ (fun _=>?_)
  ·
   intro y0 y1 y2
   unfold spec_l6Shape.j1
   repeat' first
   |(with_reducible exact ih0 _ _ _)
   |(with_reducible exact ih1 _ _ _)
   |(with_reducible exact ih2 _ _ _)
   |(with_reducible exact ih3 _ _ _)
   |(with_reducible exact LeO.refl _)
   |(with_reducible exact LeO.none _)
   |(with_reducible refine LeO.ite ?_ ?_)
   |(with_reducible refine LeO.bind ?_ (fun _=>?_))
   |exact ih0 _ _ _
   |exact ih1 _ _ _
   |exact ih2 _ _ _
   |exact ih3 _ _ _
   |exact LeO.none _
   |refine LeO.ite ?_ ?_
   |refine LeO.bind ?_ (fun _=>?_)
  ·
   intro y0 y1 y2
   unfold spec_l6Shape.j2
   repeat' first
   |(with_reducible exact ih0 _ _ _)
   |(with_reducible exact ih1 _ _ _)
   |(with_reducible exact ih2 _ _ _)
   |(with_reducible exact ih3 _ _ _)
   |(with_reducible exact LeO.refl _)
   |(with_reducible exact LeO.none _)
   |(with_reducible refine LeO.ite ?_ ?_)
   |(with_reducible refine LeO.bind ?_ (fun _=>?_))
   |exact ih0 _ _ _
   |exact ih1 _ _ _
   |exact ih2 _ _ _
   |exact ih3 _ _ _
   |exact LeO.none _
   |refine LeO.ite ?_ ?_
   |refine LeO.bind ?_ (fun _=>?_)
  intro y0 y1 y2
  unfold spec_l6Shape.j3
  repeat' first
  |(with_reducible exact ih0 _ _ _)
  |(with_reducible exact ih1 _ _ _)
  |(with_reducible exact ih2 _ _ _)
  |(with_reducible exact ih3 _ _ _)
  |(with_reducible exact LeO.refl _)
  |(with_reducible exact LeO.none _)
  |(with_reducible refine LeO.ite ?_ ?_)
  |(with_reducible refine LeO.bind ?_ (fun _=>?_))
  |exact ih0 _ _ _
  |exact ih1 _ _ _
  |exact ih2 _ _ _
  |exact ih3 _ _ _
  |exact LeO.none _
  |refine LeO.ite ?_ ?_
  |refine LeO.bind ?_ (fun _=>?_)
theorem spec_l6Shape.mono:∀ a0 k,LeO (spec_l6Shape.f k a0) (spec_l6Shape.f (k+1) a0):=by
 intro a0 k
 obtain⟨ih0,ih1,ih2,ih3⟩:=spec_l6Shape.mono_l k
 unfold spec_l6Shape.f
 repeat' first
   |(with_reducible exact ih0 _ _ _)
   |(with_reducible exact ih1 _ _ _)
   |(with_reducible exact ih2 _ _ _)
   |(with_reducible exact ih3 _ _ _)
   |(with_reducible exact LeO.refl _)
   |(with_reducible exact LeO.none _)
   |(with_reducible refine LeO.ite ?_ ?_)
   |(with_reducible refine LeO.bind ?_ (fun _=>?_))
   |exact ih0 _ _ _
   |exact ih1 _ _ _
   |exact ih2 _ _ _
   |exact ih3 _ _ _
   |exact LeO.none _
   |refine LeO.ite ?_ ?_
   |refine LeO.bind ?_ (fun _=>?_)
theorem spec_l6Shape.calls (k:Nat) (a0:Int) (r:Int) (w:World) (h:spec_l6Shape.f k a0=some r):
  Calls Try.prog 33 #[.int .i64 a0] w fun e w'=>e=.returned (.int .i64 r)∧Drawn0 w w':=by
 have H:(if a0=0 then (spec_l6Shape.j0 k a0 a0 (a0==0)) else (if a0=1 then (spec_l6Shape.j0 k a0 a0 (a0==1)) else (if a0=5 then (spec_l6Shape.j0 k a0 a0 (a0==5)) else (if a0=11 then (spec_l6Shape.j0 k a0 a0 (a0==11)) else (if a0=15 then (spec_l6Shape.j0 k a0 a0 (a0==15)) else (if a0=26 then (spec_l6Shape.j0 k a0 a0 (a0==26)) else (if a0=27 then (spec_l6Shape.j0 k a0 a0 (a0==27)) else (if a0=63 then (spec_l6Shape.j0 k a0 a0 (a0==63)) else (if a0=64 then (spec_l6Shape.j0 k a0 a0 (a0==64)) else (if a0=176 then (spec_l6Shape.j0 k a0 a0 (a0==176)) else (if a0=177 then (spec_l6Shape.j0 k a0 a0 (a0==177)) else (if a0=178 then (spec_l6Shape.j0 k a0 a0 (a0==178)) else (if a0=179 then (spec_l6Shape.j0 k a0 a0 (a0==179)) else (spec_l6Shape.j0 k a0 a0 (a0==180)))))))))))))))=some r:=h
 clear h
 have HC2:=A_ H
 clear H
 go_enter Try.func33,Try.ntmps33
 go_upto_if 4 with (fail)
 go_cut [4] (fun v4 wc=>∃ (kq:Nat) (x4_1:Bool),v4=.bool x4_1∧Aside0 (spec_l6Shape.j0 kq a0 a0 x4_1=some r)∧Aside0 (kq≤k)∧Drawn0 w wc)
 case first=>
  have H:=HC2.out
  clear HC2
  by_cases c3:a0=0
  ·
   rw[if_pos c3] at H
   obtain⟨c3b0,c3b1⟩:=eT_ c3
   clear c3
   (first|rw[c3b0]|(simp only[i64_w,i32_w];rw[c3b0])|skip)
   have H':=A_ H
   clear H
   go_wp2
   go_meet
   case rel=>exact⟨_,((a0==0)),rs_,H',⟨by first|omega|exact Nat.le_refl _⟩,dr_⟩
  rw[if_neg c3] at H
  obtain⟨c3b0,c3b1⟩:=eF_ c3
  (first|rw[c3b0]|(simp only[i64_w,i32_w];rw[c3b0])|skip)
  by_cases c4:a0=1
  ·
   rw[if_pos c4] at H
   obtain⟨c4b0,c4b1⟩:=eT_ c4
   clear c4
   have H':=A_ H
   clear H
   go_wp2
   go_meet
   case rel=>exact⟨_,((a0==1)),rs_,H',⟨by first|omega|exact Nat.le_refl _⟩,dr_⟩
  rw[if_neg c4] at H
  obtain⟨c4b0,c4b1⟩:=eF_ c4
  by_cases c5:a0=5
  ·
   rw[if_pos c5] at H
   obtain⟨c5b0,c5b1⟩:=eT_ c5
   clear c5
   have H':=A_ H
   clear H
   go_wp2
   go_meet
   case rel=>exact⟨_,((a0==5)),rs_,H',⟨by first|omega|exact Nat.le_refl _⟩,dr_⟩
  rw[if_neg c5] at H
  obtain⟨c5b0,c5b1⟩:=eF_ c5
  by_cases c6:a0=11
  ·
   rw[if_pos c6] at H
   obtain⟨c6b0,c6b1⟩:=eT_ c6
   clear c6
   have H':=A_ H
   clear H
   go_wp2
   go_meet
   case rel=>exact⟨_,((a0==11)),rs_,H',⟨by first|omega|exact Nat.le_refl _⟩,dr_⟩
  rw[if_neg c6] at H
  obtain⟨c6b0,c6b1⟩:=eF_ c6
  by_cases c7:a0=15
  ·
   rw[if_pos c7] at H
   obtain⟨c7b0,c7b1⟩:=eT_ c7
   clear c7
   have H':=A_ H
   clear H
   go_wp2
   go_meet
   case rel=>exact⟨_,((a0==15)),rs_,H',⟨by first|omega|exact Nat.le_refl _⟩,dr_⟩
  rw[if_neg c7] at H
  obtain⟨c7b0,c7b1⟩:=eF_ c7
  by_cases c8:a0=26
  ·
   rw[if_pos c8] at H
   obtain⟨c8b0,c8b1⟩:=eT_ c8
   clear c8
   have H':=A_ H
   clear H
   go_wp2
   go_meet
   case rel=>exact⟨_,((a0==26)),rs_,H',⟨by first|omega|exact Nat.le_refl _⟩,dr_⟩
  rw[if_neg c8] at H
  obtain⟨c8b0,c8b1⟩:=eF_ c8
  by_cases c9:a0=27
  ·
   rw[if_pos c9] at H
   obtain⟨c9b0,c9b1⟩:=eT_ c9
   clear c9
   have H':=A_ H
   clear H
   go_wp2
   go_meet
   case rel=>exact⟨_,((a0==27)),rs_,H',⟨by first|omega|exact Nat.le_refl _⟩,dr_⟩
  rw[if_neg c9] at H
  obtain⟨c9b0,c9b1⟩:=eF_ c9
  by_cases c10:a0=63
  ·
   rw[if_pos c10] at H
   obtain⟨c10b0,c10b1⟩:=eT_ c10
   clear c10
   have H':=A_ H
   clear H
   go_wp2
   go_meet
   case rel=>exact⟨_,((a0==63)),rs_,H',⟨by first|omega|exact Nat.le_refl _⟩,dr_⟩
  rw[if_neg c10] at H
  obtain⟨c10b0,c10b1⟩:=eF_ c10
  by_cases c11:a0=64
  ·
   rw[if_pos c11] at H
   obtain⟨c11b0,c11b1⟩:=eT_ c11
   clear c11
   have H':=A_ H
   clear H
   go_wp2
   go_meet
   case rel=>exact⟨_,((a0==64)),rs_,H',⟨by first|omega|exact Nat.le_refl _⟩,dr_⟩
  rw[if_neg c11] at H
  obtain⟨c11b0,c11b1⟩:=eF_ c11
  by_cases c12:a0=176
  ·
   rw[if_pos c12] at H
   obtain⟨c12b0,c12b1⟩:=eT_ c12
   clear c12
   have H':=A_ H
   clear H
   go_wp2
   go_meet
   case rel=>exact⟨_,((a0==176)),rs_,H',⟨by first|omega|exact Nat.le_refl _⟩,dr_⟩
  rw[if_neg c12] at H
  obtain⟨c12b0,c12b1⟩:=eF_ c12
  by_cases c13:a0=177
  ·
   rw[if_pos c13] at H
   obtain⟨c13b0,c13b1⟩:=eT_ c13
   clear c13
   have H':=A_ H
   clear H
   go_wp2
   go_meet
   case rel=>exact⟨_,((a0==177)),rs_,H',⟨by first|omega|exact Nat.le_refl _⟩,dr_⟩
  rw[if_neg c13] at H
  obtain⟨c13b0,c13b1⟩:=eF_ c13
  by_cases c14:a0=178
  ·
   rw[if_pos c14] at H
   obtain⟨c14b0,c14b1⟩:=eT_ c14
   clear c14
   have H':=A_ H
   clear H
   go_wp2
   go_meet
   case rel=>exact⟨_,((a0==178)),rs_,H',⟨by first|omega|exact Nat.le_refl _⟩,dr_⟩
  rw[if_neg c14] at H
  obtain⟨c14b0,c14b1⟩:=eF_ c14
  by_cases c15:a0=179
  ·
   rw[if_pos c15] at H
   obtain⟨c15b0,c15b1⟩:=eT_ c15
   clear c15
   have H':=A_ H
   clear H
   go_wp2
   go_meet
   case rel=>exact⟨_,((a0==179)),rs_,H',⟨by first|omega|exact Nat.le_refl _⟩,dr_⟩
  rw[if_neg c15] at H
  obtain⟨c15b0,c15b1⟩:=eF_ c15
  have H':=A_ H
  clear H
  go_wp2
  go_meet
  case rel=>exact⟨_,((a0==180)),rs_,H',⟨by first|omega|exact Nat.le_refl _⟩,dr_⟩
 case rest=>
  clear HC2
  obtain⟨kq,x4_1,rfl,HA,HJ1,⟨mc1,rfl⟩⟩:=hcut
  cases kq with
  |zero=>exact absurd HA.out (by simp[spec_l6Shape.j0])
  |succ kj1=>
   have H:=HA.out
   clear HA
   simp only[spec_l6Shape.j0] at H
   by_cases c16:x4_1=true
   ·
    subst c16
    replace H:=iT_ H
    obtain rfl:=Option.some.inj H
    clear H
    go_wp2
    go_ret
    exact⟨rs_,dr_⟩
   replace c16:=Bool.eq_false_iff.mpr c16
   subst c16
   replace H:=iF_ H
   have HC17:=A_ H
   clear H
   go_upto_if 19 with (fail)
   go_cut [19] (fun v19 wc=>∃ (kq:Nat) (x19_16:Bool),v19=.bool x19_16∧Aside0 (spec_l6Shape.j1 kq a0 a0 x19_16=some r)∧Aside0 (kq≤kj1)∧Drawn0 w wc)
   case first=>
    have H:=HC17.out
    clear HC17
    by_cases c18:a0=2
    ·
     rw[if_pos c18] at H
     obtain⟨c18b0,c18b1⟩:=eT_ c18
     clear c18
     (first|rw[c18b0]|(simp only[i64_w,i32_w];rw[c18b0])|skip)
     have H':=A_ H
     clear H
     go_wp2
     go_meet
     case rel=>exact⟨_,((a0==2)),rs_,H',⟨by have:=HJ1.out;first|omega|exact Nat.le_refl _⟩,dr_⟩
    rw[if_neg c18] at H
    obtain⟨c18b0,c18b1⟩:=eF_ c18
    (first|rw[c18b0]|(simp only[i64_w,i32_w];rw[c18b0])|skip)
    by_cases c19:a0=3
    ·
     rw[if_pos c19] at H
     obtain⟨c19b0,c19b1⟩:=eT_ c19
     clear c19
     have H':=A_ H
     clear H
     go_wp2
     go_meet
     case rel=>exact⟨_,((a0==3)),rs_,H',⟨by have:=HJ1.out;first|omega|exact Nat.le_refl _⟩,dr_⟩
    rw[if_neg c19] at H
    obtain⟨c19b0,c19b1⟩:=eF_ c19
    have H':=A_ H
    clear H
    go_wp2
    go_meet
    case rel=>exact⟨_,((a0==4)),rs_,H',⟨by have:=HJ1.out;first|omega|exact Nat.le_refl _⟩,dr_⟩
   case rest=>
    clear HC17
    try clear c16
    obtain⟨kq,x19_16,rfl,HA,HJ16,⟨mc16,rfl⟩⟩:=hcut
    cases kq with
    |zero=>exact absurd HA.out (by simp[spec_l6Shape.j1])
    |succ kj16=>
     have H:=HA.out
     clear HA
     simp only[spec_l6Shape.j1] at H
     by_cases c20:x19_16=true
     ·
      subst c20
      replace H:=iT_ H
      obtain rfl:=Option.some.inj H
      clear H
      go_wp2
      go_ret
      exact⟨rs_,dr_⟩
     replace c20:=Bool.eq_false_iff.mpr c20
     subst c20
     replace H:=iF_ H
     have HC21:=A_ H
     clear H
     go_upto_if 23 with (fail)
     go_cut [23] (fun v23 wc=>∃ (kq:Nat) (x23_20:Bool),v23=.bool x23_20∧Aside0 (spec_l6Shape.j2 kq a0 a0 x23_20=some r)∧Aside0 (kq≤kj16)∧Drawn0 w wc)
     case first=>
      have H:=HC21.out
      clear HC21
      by_cases c22:a0=12
      ·
       rw[if_pos c22] at H
       obtain⟨c22b0,c22b1⟩:=eT_ c22
       clear c22
       (first|rw[c22b0]|(simp only[i64_w,i32_w];rw[c22b0])|skip)
       have H':=A_ H
       clear H
       go_wp2
       go_meet
       case rel=>exact⟨_,((a0==12)),rs_,H',⟨by have:=HJ1.out;have:=HJ16.out;first|omega|exact Nat.le_refl _⟩,dr_⟩
      rw[if_neg c22] at H
      obtain⟨c22b0,c22b1⟩:=eF_ c22
      (first|rw[c22b0]|(simp only[i64_w,i32_w];rw[c22b0])|skip)
      by_cases c23:a0=13
      ·
       rw[if_pos c23] at H
       obtain⟨c23b0,c23b1⟩:=eT_ c23
       clear c23
       have H':=A_ H
       clear H
       go_wp2
       go_meet
       case rel=>exact⟨_,((a0==13)),rs_,H',⟨by have:=HJ1.out;have:=HJ16.out;first|omega|exact Nat.le_refl _⟩,dr_⟩
      rw[if_neg c23] at H
      obtain⟨c23b0,c23b1⟩:=eF_ c23
      by_cases c24:a0=16
      ·
       rw[if_pos c24] at H
       obtain⟨c24b0,c24b1⟩:=eT_ c24
       clear c24
       have H':=A_ H
       clear H
       go_wp2
       go_meet
       case rel=>exact⟨_,((a0==16)),rs_,H',⟨by have:=HJ1.out;have:=HJ16.out;first|omega|exact Nat.le_refl _⟩,dr_⟩
      rw[if_neg c24] at H
      obtain⟨c24b0,c24b1⟩:=eF_ c24
      by_cases c25:a0=32
      ·
       rw[if_pos c25] at H
       obtain⟨c25b0,c25b1⟩:=eT_ c25
       clear c25
       have H':=A_ H
       clear H
       go_wp2
       go_meet
       case rel=>exact⟨_,((a0==32)),rs_,H',⟨by have:=HJ1.out;have:=HJ16.out;first|omega|exact Nat.le_refl _⟩,dr_⟩
      rw[if_neg c25] at H
      obtain⟨c25b0,c25b1⟩:=eF_ c25
      by_cases c26:a0=33
      ·
       rw[if_pos c26] at H
       obtain⟨c26b0,c26b1⟩:=eT_ c26
       clear c26
       have H':=A_ H
       clear H
       go_wp2
       go_meet
       case rel=>exact⟨_,((a0==33)),rs_,H',⟨by have:=HJ1.out;have:=HJ16.out;first|omega|exact Nat.le_refl _⟩,dr_⟩
      rw[if_neg c26] at H
      obtain⟨c26b0,c26b1⟩:=eF_ c26
      by_cases c27:a0=34
      ·
       rw[if_pos c27] at H
       obtain⟨c27b0,c27b1⟩:=eT_ c27
       clear c27
       have H':=A_ H
       clear H
       go_wp2
       go_meet
       case rel=>exact⟨_,((a0==34)),rs_,H',⟨by have:=HJ1.out;have:=HJ16.out;first|omega|exact Nat.le_refl _⟩,dr_⟩
      rw[if_neg c27] at H
      obtain⟨c27b0,c27b1⟩:=eF_ c27
      by_cases c28:a0=35
      ·
       rw[if_pos c28] at H
       obtain⟨c28b0,c28b1⟩:=eT_ c28
       clear c28
       have H':=A_ H
       clear H
       go_wp2
       go_meet
       case rel=>exact⟨_,((a0==35)),rs_,H',⟨by have:=HJ1.out;have:=HJ16.out;first|omega|exact Nat.le_refl _⟩,dr_⟩
      rw[if_neg c28] at H
      obtain⟨c28b0,c28b1⟩:=eF_ c28
      have H':=A_ H
      clear H
      go_wp2
      go_meet
      case rel=>exact⟨_,((a0==36)),rs_,H',⟨by have:=HJ1.out;have:=HJ16.out;first|omega|exact Nat.le_refl _⟩,dr_⟩
     case rest=>
      clear HC21
      try clear c16 c20
      obtain⟨kq,x23_20,rfl,HA,HJ20,⟨mc20,rfl⟩⟩:=hcut
      cases kq with
      |zero=>exact absurd HA.out (by simp[spec_l6Shape.j2])
      |succ kj20=>
       have H:=HA.out
       clear HA
       simp only[spec_l6Shape.j2] at H
       by_cases c29:x23_20=true
       ·
        subst c29
        replace H:=iT_ H
        obtain rfl:=Option.some.inj H
        clear H
        go_wp2
        go_ret
        exact⟨rs_,dr_⟩
       replace c29:=Bool.eq_false_iff.mpr c29
       subst c29
       replace H:=iF_ H
       have HC30:=A_ H
       clear H
       go_upto_if 32 with (fail)
       go_cut [32] (fun v32 wc=>∃ (kq:Nat) (x32_29:Bool),v32=.bool x32_29∧Aside0 (spec_l6Shape.j3 kq a0 a0 x32_29=some r)∧Aside0 (kq≤kj20)∧Drawn0 w wc)
       case first=>
        have H:=HC30.out
        clear HC30
        by_cases c31:a0=40
        ·
         rw[if_pos c31] at H
         obtain⟨c31b0,c31b1⟩:=eT_ c31
         clear c31
         (first|rw[c31b0]|(simp only[i64_w,i32_w];rw[c31b0])|skip)
         have H':=A_ H
         clear H
         go_wp2
         go_meet
         case rel=>exact⟨_,((a0==40)),rs_,H',⟨by have:=HJ1.out;have:=HJ16.out;have:=HJ20.out;first|omega|exact Nat.le_refl _⟩,dr_⟩
        rw[if_neg c31] at H
        obtain⟨c31b0,c31b1⟩:=eF_ c31
        (first|rw[c31b0]|(simp only[i64_w,i32_w];rw[c31b0])|skip)
        by_cases c32:a0=41
        ·
         rw[if_pos c32] at H
         obtain⟨c32b0,c32b1⟩:=eT_ c32
         clear c32
         have H':=A_ H
         clear H
         go_wp2
         go_meet
         case rel=>exact⟨_,((a0==41)),rs_,H',⟨by have:=HJ1.out;have:=HJ16.out;have:=HJ20.out;first|omega|exact Nat.le_refl _⟩,dr_⟩
        rw[if_neg c32] at H
        obtain⟨c32b0,c32b1⟩:=eF_ c32
        by_cases c33:a0=54
        ·
         rw[if_pos c33] at H
         obtain⟨c33b0,c33b1⟩:=eT_ c33
         clear c33
         have H':=A_ H
         clear H
         go_wp2
         go_meet
         case rel=>exact⟨_,((a0==54)),rs_,H',⟨by have:=HJ1.out;have:=HJ16.out;have:=HJ20.out;first|omega|exact Nat.le_refl _⟩,dr_⟩
        rw[if_neg c33] at H
        obtain⟨c33b0,c33b1⟩:=eF_ c33
        have H':=A_ H
        clear H
        go_wp2
        go_meet
        case rel=>exact⟨_,((a0==55)),rs_,H',⟨by have:=HJ1.out;have:=HJ16.out;have:=HJ20.out;first|omega|exact Nat.le_refl _⟩,dr_⟩
       case rest=>
        clear HC30
        try clear c16 c20 c29
        obtain⟨kq,x32_29,rfl,HA,HJ29,⟨mc29,rfl⟩⟩:=hcut
        cases kq with
        |zero=>exact absurd HA.out (by simp[spec_l6Shape.j3])
        |succ kj29=>
         have H:=HA.out
         clear HA
         simp only[spec_l6Shape.j3] at H
         by_cases c34:x32_29=true
         ·
          subst c34
          replace H:=iT_ H
          obtain rfl:=Option.some.inj H
          clear H
          go_wp2
          go_ret
          exact⟨rs_,dr_⟩
         replace c34:=Bool.eq_false_iff.mpr c34
         subst c34
         replace H:=iF_ H
         by_cases c35:a0=65
         ·
          rw[if_pos c35] at H
          obtain⟨c35b0,c35b1⟩:=eT_ c35
          clear c35
          obtain rfl:=Option.some.inj H
          clear H
          go_wp2
          go_ret
          exact⟨rs_,dr_⟩
         rw[if_neg c35] at H
         obtain⟨c35b0,c35b1⟩:=eF_ c35
         by_cases c36:a0=66
         ·
          rw[if_pos c36] at H
          obtain⟨c36b0,c36b1⟩:=eT_ c36
          clear c36
          obtain rfl:=Option.some.inj H
          clear H
          go_wp2
          go_ret
          exact⟨rs_,dr_⟩
         rw[if_neg c36] at H
         obtain⟨c36b0,c36b1⟩:=eF_ c36
         by_cases c37:a0=67
         ·
          rw[if_pos c37] at H
          obtain⟨c37b0,c37b1⟩:=eT_ c37
          clear c37
          obtain rfl:=Option.some.inj H
          clear H
          go_wp2
          go_ret
          exact⟨rs_,dr_⟩
         rw[if_neg c37] at H
         obtain⟨c37b0,c37b1⟩:=eF_ c37
         replace H:=bi_ H
         obtain⟨t653,A380,H⟩:=H
         have A38:=A_ A380
         clear A380
         by_cases c39:t653=true
         ·
          subst c39
          replace H:=iT_ H
          obtain rfl:=Option.some.inj H
          clear H
          go_wp2_with (first|((with_reducible refine gc_ 44 rfl ?_);refine gn_ (some 44) Try.func44 (spec_l1In.calls a0 97 123 true _ A38.out) ?_;intro nd))
          go_ret
          exact⟨rs_,dr_⟩
         replace c39:=Bool.eq_false_iff.mpr c39
         subst c39
         replace H:=iF_ H
         replace H:=bi_ H
         obtain⟨t654,A400,H⟩:=H
         have A40:=A_ A400
         clear A400
         by_cases c41:t654=true
         ·
          subst c41
          replace H:=iT_ H
          obtain rfl:=Option.some.inj H
          clear H
          go_wp2_with (first|((with_reducible refine gc_ 44 rfl ?_);refine gn_ (some 44) Try.func44 (spec_l1In.calls a0 97 123 false _ A38.out) ?_;intro nd)|(go_at_call 44;(with_reducible refine(spec_l1In.calls a0 129 155 true _ A40.out).mono ?_);rintro e w' ⟨rfl,⟨nd,rfl⟩⟩))
          go_ret
          exact⟨rs_,dr_⟩
         replace c41:=Bool.eq_false_iff.mpr c41
         subst c41
         replace H:=iF_ H
         replace H:=bi_ H
         obtain⟨t655,A420,H⟩:=H
         have A42:=A_ A420
         clear A420
         by_cases c43:t655=true
         ·
          subst c43
          replace H:=iT_ H
          obtain rfl:=Option.some.inj H
          clear H
          go_wp2_with (first|((with_reducible refine gc_ 44 rfl ?_);refine gn_ (some 44) Try.func44 (spec_l1In.calls a0 97 123 false _ A38.out) ?_;intro nd)|(go_at_call 44;(with_reducible refine(spec_l1In.calls a0 129 155 false _ A40.out).mono ?_);rintro e w' ⟨rfl,⟨nd,rfl⟩⟩)|(go_at_call 44;(with_reducible refine(spec_l1In.calls a0 161 169 true _ A42.out).mono ?_);rintro e w' ⟨rfl,⟨nd,rfl⟩⟩))
          go_ret
          exact⟨rs_,dr_⟩
         replace c43:=Bool.eq_false_iff.mpr c43
         subst c43
         replace H:=iF_ H
         obtain rfl:=Option.some.inj H
         clear H
         go_wp2_with (first|((with_reducible refine gc_ 44 rfl ?_);refine gn_ (some 44) Try.func44 (spec_l1In.calls a0 97 123 false _ A38.out) ?_;intro nd)|(go_at_call 44;(with_reducible refine(spec_l1In.calls a0 129 155 false _ A40.out).mono ?_);rintro e w' ⟨rfl,⟨nd,rfl⟩⟩)|(go_at_call 44;(with_reducible refine(spec_l1In.calls a0 161 169 false _ A42.out).mono ?_);rintro e w' ⟨rfl,⟨nd,rfl⟩⟩))
         go_ret
         exact⟨rs_,dr_⟩

/-! ### spec_l6Type: function 43 -/
def spec_l6Type.f (a0:Int):Option (Bool):=(spec_l1In.f a0 125 127).bind fun t656=>(some t656)
theorem spec_l6Type.calls (a0:Int) (r:Bool) (w:World) (h:spec_l6Type.f a0=some r):
  Calls Try.prog 43 #[.int .i64 a0] w fun e w'=>e=.returned (.bool r)∧Drawn0 w w':=by
 have H:((spec_l1In.f a0 125 127).bind fun t656=>(some t656))=some r:=h
 clear h
 replace H:=bi_ H
 obtain⟨t656,A20,H⟩:=H
 have A2:=A_ A20
 clear A20
 obtain rfl:=Option.some.inj H
 clear H
 go_enter Try.func43,Try.ntmps43
 go_wp2_with (first|((with_reducible refine gc_ 44 rfl ?_);refine gn_ (some 4) Try.func44 (spec_l1In.calls a0 125 127 t656 _ A2.out) ?_;intro nd))
 go_ret
 exact⟨rs_,dr_⟩

end Go.Proofs.Ytmajifnehjlncaa.Q

