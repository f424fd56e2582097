-- Written by a program of this session; it walks the functions that the law reaches.
import Derived.Test.YtghogonibanieaaQx0
import Derived.Test.YtghogonibanieaaQx3
namespace Go.Proofs.Ytghogonibanieaa.Q
open Go.RowKit Go.Proofs.YtghogonibanieaaW.PrintWords Go.Proofs.YtghogonibanieaaW.PrintLast Go.Proofs.YtghogonibanieaaW.PrintMore
attribute [local go_sem] max2_int min2_int max_two min_two max_three min_three max_four min_four   -- for this text's walks alone
set_option linter.unusedVariables false
set_option linter.unusedSimpArgs false
set_option maxRecDepth 100000
set_option maxHeartbeats 8000000

/-! ### laws_eqFuncS: function 24 -/
def laws_eqFuncS.l0:Nat→List (S59)→List (S59)→Int→Option (Bool)
 |0,_,_,_=>none
 |k+1,x0,x1,x5=>if x5<(x0.length:Int) then (if 0≤x5 then (if x5<(x1.length:Int) then ((laws_eqFunc.f k ((rd_T59 x0 x5).f0) ((rd_T59 x0 x5).f1) ((rd_T59 x0 x5).f2) ((rd_T59 x0 x5).f3) ((rd_T59 x1 x5).f0) ((rd_T59 x1 x5).f1) ((rd_T59 x1 x5).f2) ((rd_T59 x1 x5).f3)).bind fun t186=>(if t186=true then (laws_eqFuncS.l0 k x0 x1 (wrap64 (x5+1))) else (some false))) else (none)) else (none)) else (some true)
def laws_eqFuncS.f (k:Nat) (l0:List (S59)) (l1:List (S59)):Option (Bool):=if (l0.length:Int)=(l1.length:Int) then (laws_eqFuncS.l0 k l0 l1 0) else (some false)
def laws_eqFuncS.T6:Bool × List (List Nat × List Nat):=(true,[([],[]),([],[]),([0,1],[0,1]),([2],[2]),([],[]),([],[]),([4,5],[4,5]),([6],[6]),([3,7],[3,7]),([8],[8])])
def laws_eqFuncS.B6:List Nat:=[0,0,3,7,0,0,48,112,255,511]
theorem laws_eqFuncS.tab6:rtab .any (opsOf Try.f24 6)=laws_eqFuncS.T6:=by kernel_rfl
theorem laws_eqFuncS.bits6:waitsOk laws_eqFuncS.T6.2 laws_eqFuncS.B6=true:=by kernel_rfl
theorem laws_eqFuncS.calls (k:Nat) (A0:Option Addr) (c0:Nat) (l0:List (S59)) (A1:Option Addr) (c1:Nat) (l1:List (S59)) (r:Bool) (w:World) (hr0:Kd.C k59 w A0 l0.length l0) (hc0:l0.length≤c0) (hr1:Kd.C k59 w A1 l1.length l1) (hc1:l1.length≤c1) (h:laws_eqFuncS.f k l0 l1=some r):
  Calls Try.prog 24 #[.slice A0 l0.length c0,.slice A1 l1.length c1] w fun e w'=>e=.returned (.bool r)∧Below w.heap.size w w':=by
 have hu59:=Try.underlying59
 have HR0:=A_ hr0
 have HC0:=A_ hc0
 clear hr0 hc0
 have HR1:=A_ hr1
 have HC1:=A_ hc1
 clear hr1 hc1
 have HB:=A_ (Below.refl w.heap.size w)
 have H:(if (l0.length:Int)=(l1.length:Int) then (laws_eqFuncS.l0 k l0 l1 0) else (some false))=some r:=h
 clear h
 by_cases c3:(l0.length:Int)=(l1.length:Int)
 ·
  rw[if_pos c3] at H
  obtain⟨c3b0,c3b1⟩:=eT_ c3
  have c3b2:(l0.length==l1.length)=true:=by first|simpa using c3|(simp at c3 ⊢;omega)
  clear c3
  have H':=A_ H
  clear H
  go_enter Try.func24,Try.ntmps24
  go_wp2
  (try simp only[Act.put,List.setIfInBounds_toArray,List.set_cons_zero,List.set_cons_succ])
  go_loopg [5] k (fun kq v5 w'=>∃ (x5_1:Int),v5=.int .i64 x5_1∧Aside0 (laws_eqFuncS.l0 kq l0 l1 x5_1=some r)∧Aside0 (kq≤k)∧Aside0 (Below w.heap.size w w'))
  case atStart=>exact⟨(0),rs_,H',⟨Nat.le_refl _⟩,⟨bw HB.out⟩⟩
  case round=>
   clear H'
   try clear c1 c3 c3b0 c3b1 c3b2
   obtain⟨x5_1,rfl,HA,HK1,HB⟩:=hrel
   cases gk with
   |zero=>exact absurd HA.out (by simp[laws_eqFuncS.l0])
   |succ k1=>
    have H:=HA.out
    clear HA
    simp only[laws_eqFuncS.l0] at H
    by_cases c4:x5_1<(l0.length:Int)
    ·
     rw[if_pos c4] at H
     have c4b0:=decide_eq_true c4
     clear c4
     by_cases c5:0≤x5_1
     ·
      rw[if_pos c5] at H
      have c5b0:=decide_eq_true c5
      clear c5
      by_cases c6:x5_1<(l1.length:Int)
      ·
       rw[if_pos c6] at H
       have c6b0:=decide_eq_true c6
       clear c6
       replace H:=bi_ H
       obtain⟨t186,A70,H⟩:=H
       have A7:=A_ A70
       clear A70
       by_cases c8:t186=true
       ·
        subst c8
        replace H:=iT_ H
        have H':=A_ H
        clear H
        try go_wp2
        have n0_:=A_ (below_drew1 HB.out)
        clear HB
        have HB:=n0_
        clear n0_
        have p184:0≤(x5_1:Int):=od_
        have q184:x5_1<(l0.length:Int):=od_
        obtain⟨ad184,A184_0,c184_0,A184_2,c184_2,A184_3,c184_3,e184,hx184_0,hx184_1,hx184_2,hx184_3,hl184_0,hi184_0,hl184_2,hi184_2,hl184_3,hi184_3⟩:=at_T59 HR0.out x5_1 p184 q184
        have hw184_3:=hx184_3
        have hw184_2:=hx184_2
        have hw184_1:=hx184_1
        have hw184_0:=hx184_0
        cases e184
        replace hx184_0:=cl_ HB.out hx184_0
        replace hx184_1:=cl_ HB.out hx184_1
        replace hx184_2:=cl_ HB.out hx184_2
        replace hx184_3:=cl_ HB.out hx184_3
        have HR184_0:=A_ hi184_0
        have HC184_0:=A_ hl184_0
        clear hi184_0 hl184_0
        have HR184_2:=A_ hi184_2
        have HC184_2:=A_ hl184_2
        clear hi184_2 hl184_2
        have HR184_3:=A_ hi184_3
        have HC184_3:=A_ hl184_3
        clear hi184_3 hl184_3
        replace p184:=eq_true p184
        replace q184:=eq_true q184
        have p185:0≤(x5_1:Int):=od_
        have q185:x5_1<(l1.length:Int):=od_
        obtain⟨ad185,A185_0,c185_0,A185_2,c185_2,A185_3,c185_3,e185,hx185_0,hx185_1,hx185_2,hx185_3,hl185_0,hi185_0,hl185_2,hi185_2,hl185_3,hi185_3⟩:=at_T59 HR1.out x5_1 p185 q185
        have hw185_3:=hx185_3
        have hw185_2:=hx185_2
        have hw185_1:=hx185_1
        have hw185_0:=hx185_0
        cases e185
        replace hx185_0:=cl_ HB.out hx185_0
        replace hx185_1:=cl_ HB.out hx185_1
        replace hx185_2:=cl_ HB.out hx185_2
        replace hx185_3:=cl_ HB.out hx185_3
        have HR185_0:=A_ hi185_0
        have HC185_0:=A_ hl185_0
        clear hi185_0 hl185_0
        have HR185_2:=A_ hi185_2
        have HC185_2:=A_ hl185_2
        clear hi185_2 hl185_2
        have HR185_3:=A_ hi185_3
        have HC185_3:=A_ hl185_3
        clear hi185_3 hl185_3
        replace p185:=eq_true p185
        replace q185:=eq_true q185
        refine start_ (n:=10) (S:=fun w'=>w'.cell? (ad184.add ((x5_1).toNat*4))=some (.slice A184_0 ((rd_T59 l0 x5_1).f0).length c184_0)∧w'.cell? ⟨(ad184.add ((x5_1).toNat*4)).block,(ad184.add ((x5_1).toNat*4)).off+1,none⟩=some (.int .i64 ((rd_T59 l0 x5_1).f1))∧w'.cell? ⟨(ad184.add ((x5_1).toNat*4)).block,(ad184.add ((x5_1).toNat*4)).off+2,none⟩=some (.slice A184_2 ((rd_T59 l0 x5_1).f2).length c184_2)∧w'.cell? ⟨(ad184.add ((x5_1).toNat*4)).block,(ad184.add ((x5_1).toNat*4)).off+3,none⟩=some (.slice A184_3 ((rd_T59 l0 x5_1).f3).length c184_3)∧w'.cell? (ad185.add ((x5_1).toNat*4))=some (.slice A185_0 ((rd_T59 l1 x5_1).f0).length c185_0)∧w'.cell? ⟨(ad185.add ((x5_1).toNat*4)).block,(ad185.add ((x5_1).toNat*4)).off+1,none⟩=some (.int .i64 ((rd_T59 l1 x5_1).f1))∧w'.cell? ⟨(ad185.add ((x5_1).toNat*4)).block,(ad185.add ((x5_1).toNat*4)).off+2,none⟩=some (.slice A185_2 ((rd_T59 l1 x5_1).f2).length c185_2)∧w'.cell? ⟨(ad185.add ((x5_1).toNat*4)).block,(ad185.add ((x5_1).toNat*4)).off+3,none⟩=some (.slice A185_3 ((rd_T59 l1 x5_1).f3).length c185_3)) (ds:=[]) #[false,false,false,false,false,false,false,false,false,false] (by kernel_rfl) rfl rfl ⟨(ce_ HB hw184_0),(ce_ HB hw184_1),(ce_ HB hw184_2),(ce_ HB hw184_3),(ce_ HB hw185_0),(ce_ HB hw185_1),(ce_ HB hw185_2),(ce_ HB hw185_3)⟩ (fun hHeld=>?_);refine with_tabW laws_eqFuncS.tab6 laws_eqFuncS.bits6 (fun HT_ HW_=>?_)
        generalize wr.drew=w9 at HB HR184_0 HR184_2 HR184_3 HR185_0 HR185_2 HR185_3 hx184_0 hx184_1 hx184_2 hx184_3 hx185_0 hx185_1 hx185_2 hx185_3 hHeld ⊢
        refine pure_ (i:=0) (N:=some 17) (v:=?_) (a':=?_) #[true,false,false,false,false,false,false,false,false,false] rfl rfl (any_of HT_.out (by kernel_rfl)) (fun _ _ _ h=>h) (Or.inl ⟨by rfl,?_⟩) ?_ ?_
        rotate_left
        ·
         intro w'
         go_simp
         with_reducible rfl
        rotate_left
        ·
         simp only[Act.put,List.setIfInBounds_toArray,List.set_cons_zero,List.set_cons_succ,i64_w,i32_w]
         rfl
        refine pure_ (i:=1) (N:=some 18) (v:=?_) (a':=?_) #[true,true,false,false,false,false,false,false,false,false] rfl rfl (any_of HT_.out (by kernel_rfl)) (fun _ _ _ h=>h) (Or.inl ⟨by rfl,?_⟩) ?_ ?_
        rotate_left
        ·
         intro w'
         go_simp
         with_reducible rfl
        rotate_left
        ·
         simp only[Act.put,List.setIfInBounds_toArray,List.set_cons_zero,List.set_cons_succ,i64_w,i32_w]
         rfl
        refine pure_ (i:=2) (N:=some 19) (v:=?_) (a':=?_) #[true,true,true,false,false,false,false,false,false,false] rfl rfl (any_of HT_.out (by kernel_rfl)) (fun _ _ _ h=>h) (Or.inl ⟨by rfl,?_⟩) ?_ ?_
        rotate_left
        ·
         intro w'
         go_simp
         with_reducible rfl
        rotate_left
        ·
         simp only[Act.put,List.setIfInBounds_toArray,List.set_cons_zero,List.set_cons_succ,i64_w,i32_w]
         rfl
        refine pure_ (i:=4) (N:=some 21) (v:=?_) (a':=?_) #[true,true,true,false,true,false,false,false,false,false] rfl rfl (any_of HT_.out (by kernel_rfl)) (fun _ _ _ h=>h) (Or.inl ⟨by rfl,?_⟩) ?_ ?_
        rotate_left
        ·
         intro w'
         go_simp
         with_reducible rfl
        rotate_left
        ·
         simp only[Act.put,List.setIfInBounds_toArray,List.set_cons_zero,List.set_cons_succ,i64_w,i32_w]
         rfl
        refine pure_ (i:=5) (N:=some 22) (v:=?_) (a':=?_) #[true,true,true,false,true,true,false,false,false,false] rfl rfl (any_of HT_.out (by kernel_rfl)) (fun _ _ _ h=>h) (Or.inl ⟨by rfl,?_⟩) ?_ ?_
        rotate_left
        ·
         intro w'
         go_simp
         with_reducible rfl
        rotate_left
        ·
         simp only[Act.put,List.setIfInBounds_toArray,List.set_cons_zero,List.set_cons_succ,i64_w,i32_w]
         rfl
        refine pure_ (i:=6) (N:=some 23) (v:=?_) (a':=?_) #[true,true,true,false,true,true,true,false,false,false] rfl rfl (any_of HT_.out (by kernel_rfl)) (fun _ _ _ h=>h) (Or.inl ⟨by rfl,?_⟩) ?_ ?_
        rotate_left
        ·
         intro w'
         go_simp
         with_reducible rfl
        rotate_left
        ·
         simp only[Act.put,List.setIfInBounds_toArray,List.set_cons_zero,List.set_cons_succ,i64_w,i32_w]
         rfl
        refine take_ (i:=3) (N:=some 20) (v:=?_) (a':=?_) #[true,true,true,true,true,true,true,false,false,false] rfl rfl (take_ofW HT_.out HW_.out (by kernel_rfl)) (fun _ _ _ h=>h) (Or.inl ⟨by rfl,?_⟩) hHeld ?_ ?_
        rotate_left
        ·
         rintro w' ⟨s0,s1,s2,s3,s4,s5,s6,s7⟩
         go_simp
         with_reducible rfl
        rotate_left
        ·
         simp only[Act.put,List.setIfInBounds_toArray,List.set_cons_zero,List.set_cons_succ,i64_w,i32_w]
         rfl
        refine take_ (i:=7) (N:=some 24) (v:=?_) (a':=?_) #[true,true,true,true,true,true,true,true,false,false] rfl rfl (take_ofW HT_.out HW_.out (by kernel_rfl)) (fun _ _ _ h=>h) (Or.inl ⟨by rfl,?_⟩) hHeld ?_ ?_
        rotate_left
        ·
         rintro w' ⟨s0,s1,s2,s3,s4,s5,s6,s7⟩
         go_simp
         with_reducible rfl
        rotate_left
        ·
         simp only[Act.put,List.setIfInBounds_toArray,List.set_cons_zero,List.set_cons_succ,i64_w,i32_w]
         rfl
        refine one_ (i:=8) (N:=some 25) #[true,true,true,true,true,true,true,true,true,false] rfl rfl (one_of HT_.out (by kernel_rfl)) (by decide) (fun K hK=>?_)
        refine goes_ Try.func36 (by kernel_rfl) rfl #[.agg #[.slice A184_0 ((rd_T59 l0 x5_1).f0).length c184_0,.int .i64 ((rd_T59 l0 x5_1).f1),.slice A184_2 ((rd_T59 l0 x5_1).f2).length c184_2,.slice A184_3 ((rd_T59 l0 x5_1).f3).length c184_3],.agg #[.slice A185_0 ((rd_T59 l1 x5_1).f0).length c185_0,.int .i64 ((rd_T59 l1 x5_1).f1),.slice A185_2 ((rd_T59 l1 x5_1).f2).length c185_2,.slice A185_3 ((rd_T59 l1 x5_1).f3).length c185_3]] (by rfl) rfl rfl ar ?_
        with_reducible refine(laws_eqFunc.calls k1 _ _ ((rd_T59 l0 x5_1).f0) ((rd_T59 l0 x5_1).f1) _ _ ((rd_T59 l0 x5_1).f2) _ _ ((rd_T59 l0 x5_1).f3) _ _ ((rd_T59 l1 x5_1).f0) ((rd_T59 l1 x5_1).f1) _ _ ((rd_T59 l1 x5_1).f2) _ _ ((rd_T59 l1 x5_1).f3) true _ ?side1 ?side2 ?side3 ?side4 ?side5 ?side6 ?side7 ?side8 ?side9 ?side10 ?side11 ?side12 A7.out).mono ?_
        (case side1=>repeat (first|exact(Kd.C_below HR184_0.out HB.out)|(with_reducible refine Kd.C_alloc ?_ _)|(with_reducible refine Kd.C_drewN ?_ _)|(with_reducible refine Kd.C_drew ?_)))
        (case side2=>exact HC184_0.out)
        (case side3=>repeat (first|exact(Kd.C_below HR184_2.out HB.out)|(with_reducible refine Kd.C_alloc ?_ _)|(with_reducible refine Kd.C_drewN ?_ _)|(with_reducible refine Kd.C_drew ?_)))
        (case side4=>exact HC184_2.out)
        (case side5=>repeat (first|exact(Kd.C_below HR184_3.out HB.out)|(with_reducible refine Kd.C_alloc ?_ _)|(with_reducible refine Kd.C_drewN ?_ _)|(with_reducible refine Kd.C_drew ?_)))
        (case side6=>exact HC184_3.out)
        (case side7=>repeat (first|exact(Kd.C_below HR185_0.out HB.out)|(with_reducible refine Kd.C_alloc ?_ _)|(with_reducible refine Kd.C_drewN ?_ _)|(with_reducible refine Kd.C_drew ?_)))
        (case side8=>exact HC185_0.out)
        (case side9=>repeat (first|exact(Kd.C_below HR185_2.out HB.out)|(with_reducible refine Kd.C_alloc ?_ _)|(with_reducible refine Kd.C_drewN ?_ _)|(with_reducible refine Kd.C_drew ?_)))
        (case side10=>exact HC185_2.out)
        (case side11=>repeat (first|exact(Kd.C_below HR185_3.out HB.out)|(with_reducible refine Kd.C_alloc ?_ _)|(with_reducible refine Kd.C_drewN ?_ _)|(with_reducible refine Kd.C_drew ?_)))
        (case side12=>exact HC185_3.out)
        rintro e w10 ⟨rfl,hb⟩
        refine⟨_,rfl,?_⟩
        have n0_:=A_ (below_step (bw HB.out) hb)
        clear HB
        have HB:=n0_
        clear n0_
        (try clear hb)
        (try clear hb2)
        (try clear hk)
        (try clear hi)
        refine hK.out _ _ ⟨(ce_ HB hw184_0),(ce_ HB hw184_1),(ce_ HB hw184_2),(ce_ HB hw184_3),(ce_ HB hw185_0),(ce_ HB hw185_1),(ce_ HB hw185_2),(ce_ HB hw185_3)⟩ (fun hHeld=>?_)
        clear hK K
        refine norm_ (a':=?_) ?_ ?_
        rotate_left
        ·
         show Act.put _ (some 25) _=_
         simp only[Act.put,List.setIfInBounds_toArray,List.set_cons_zero,List.set_cons_succ,i64_w,i32_w]
         rfl
        refine pure_ (i:=9) (N:=some 26) (v:=?_) (a':=?_) #[true,true,true,true,true,true,true,true,true,true] rfl rfl (any_of HT_.out (by kernel_rfl)) (fun _ _ _ h=>h) (Or.inl ⟨by rfl,?_⟩) ?_ ?_
        rotate_left
        ·
         intro w'
         go_simp
         with_reducible rfl
        rotate_left
        ·
         simp only[Act.put,List.setIfInBounds_toArray,List.set_cons_zero,List.set_cons_succ,i64_w,i32_w]
         rfl
        refine done_ (done_of HT_.out (by kernel_rfl)) ?_
        try go_wp2
        go_roundg k1
        case measure=>have:=HK1.out;omega
        case rel=>exact⟨(wrap64 (x5_1+1)),rs_,H',⟨by have:=HK1.out;omega⟩,⟨bw HB.out⟩⟩
       replace c8:=Bool.eq_false_iff.mpr c8
       subst c8
       replace H:=iF_ H
       obtain rfl:=Option.some.inj H
       clear H
       try go_wp2
       have n0_:=A_ (below_drew1 HB.out)
       clear HB
       have HB:=n0_
       clear n0_
       have p184:0≤(x5_1:Int):=od_
       have q184:x5_1<(l0.length:Int):=od_
       obtain⟨ad184,A184_0,c184_0,A184_2,c184_2,A184_3,c184_3,e184,hx184_0,hx184_1,hx184_2,hx184_3,hl184_0,hi184_0,hl184_2,hi184_2,hl184_3,hi184_3⟩:=at_T59 HR0.out x5_1 p184 q184
       have hw184_3:=hx184_3
       have hw184_2:=hx184_2
       have hw184_1:=hx184_1
       have hw184_0:=hx184_0
       cases e184
       replace hx184_0:=cl_ HB.out hx184_0
       replace hx184_1:=cl_ HB.out hx184_1
       replace hx184_2:=cl_ HB.out hx184_2
       replace hx184_3:=cl_ HB.out hx184_3
       have HR184_0:=A_ hi184_0
       have HC184_0:=A_ hl184_0
       clear hi184_0 hl184_0
       have HR184_2:=A_ hi184_2
       have HC184_2:=A_ hl184_2
       clear hi184_2 hl184_2
       have HR184_3:=A_ hi184_3
       have HC184_3:=A_ hl184_3
       clear hi184_3 hl184_3
       replace p184:=eq_true p184
       replace q184:=eq_true q184
       have p185:0≤(x5_1:Int):=od_
       have q185:x5_1<(l1.length:Int):=od_
       obtain⟨ad185,A185_0,c185_0,A185_2,c185_2,A185_3,c185_3,e185,hx185_0,hx185_1,hx185_2,hx185_3,hl185_0,hi185_0,hl185_2,hi185_2,hl185_3,hi185_3⟩:=at_T59 HR1.out x5_1 p185 q185
       have hw185_3:=hx185_3
       have hw185_2:=hx185_2
       have hw185_1:=hx185_1
       have hw185_0:=hx185_0
       cases e185
       replace hx185_0:=cl_ HB.out hx185_0
       replace hx185_1:=cl_ HB.out hx185_1
       replace hx185_2:=cl_ HB.out hx185_2
       replace hx185_3:=cl_ HB.out hx185_3
       have HR185_0:=A_ hi185_0
       have HC185_0:=A_ hl185_0
       clear hi185_0 hl185_0
       have HR185_2:=A_ hi185_2
       have HC185_2:=A_ hl185_2
       clear hi185_2 hl185_2
       have HR185_3:=A_ hi185_3
       have HC185_3:=A_ hl185_3
       clear hi185_3 hl185_3
       replace p185:=eq_true p185
       replace q185:=eq_true q185
       refine start_ (n:=10) (S:=fun w'=>w'.cell? (ad184.add ((x5_1).toNat*4))=some (.slice A184_0 ((rd_T59 l0 x5_1).f0).length c184_0)∧w'.cell? ⟨(ad184.add ((x5_1).toNat*4)).block,(ad184.add ((x5_1).toNat*4)).off+1,none⟩=some (.int .i64 ((rd_T59 l0 x5_1).f1))∧w'.cell? ⟨(ad184.add ((x5_1).toNat*4)).block,(ad184.add ((x5_1).toNat*4)).off+2,none⟩=some (.slice A184_2 ((rd_T59 l0 x5_1).f2).length c184_2)∧w'.cell? ⟨(ad184.add ((x5_1).toNat*4)).block,(ad184.add ((x5_1).toNat*4)).off+3,none⟩=some (.slice A184_3 ((rd_T59 l0 x5_1).f3).length c184_3)∧w'.cell? (ad185.add ((x5_1).toNat*4))=some (.slice A185_0 ((rd_T59 l1 x5_1).f0).length c185_0)∧w'.cell? ⟨(ad185.add ((x5_1).toNat*4)).block,(ad185.add ((x5_1).toNat*4)).off+1,none⟩=some (.int .i64 ((rd_T59 l1 x5_1).f1))∧w'.cell? ⟨(ad185.add ((x5_1).toNat*4)).block,(ad185.add ((x5_1).toNat*4)).off+2,none⟩=some (.slice A185_2 ((rd_T59 l1 x5_1).f2).length c185_2)∧w'.cell? ⟨(ad185.add ((x5_1).toNat*4)).block,(ad185.add ((x5_1).toNat*4)).off+3,none⟩=some (.slice A185_3 ((rd_T59 l1 x5_1).f3).length c185_3)) (ds:=[]) #[false,false,false,false,false,false,false,false,false,false] (by kernel_rfl) rfl rfl ⟨(ce_ HB hw184_0),(ce_ HB hw184_1),(ce_ HB hw184_2),(ce_ HB hw184_3),(ce_ HB hw185_0),(ce_ HB hw185_1),(ce_ HB hw185_2),(ce_ HB hw185_3)⟩ (fun hHeld=>?_);refine with_tabW laws_eqFuncS.tab6 laws_eqFuncS.bits6 (fun HT_ HW_=>?_)
       generalize wr.drew=w11 at HB HR184_0 HR184_2 HR184_3 HR185_0 HR185_2 HR185_3 hx184_0 hx184_1 hx184_2 hx184_3 hx185_0 hx185_1 hx185_2 hx185_3 hHeld ⊢
       refine pure_ (i:=0) (N:=some 17) (v:=?_) (a':=?_) #[true,false,false,false,false,false,false,false,false,false] rfl rfl (any_of HT_.out (by kernel_rfl)) (fun _ _ _ h=>h) (Or.inl ⟨by rfl,?_⟩) ?_ ?_
       rotate_left
       ·
        intro w'
        go_simp
        with_reducible rfl
       rotate_left
       ·
        simp only[Act.put,List.setIfInBounds_toArray,List.set_cons_zero,List.set_cons_succ,i64_w,i32_w]
        rfl
       refine pure_ (i:=1) (N:=some 18) (v:=?_) (a':=?_) #[true,true,false,false,false,false,false,false,false,false] rfl rfl (any_of HT_.out (by kernel_rfl)) (fun _ _ _ h=>h) (Or.inl ⟨by rfl,?_⟩) ?_ ?_
       rotate_left
       ·
        intro w'
        go_simp
        with_reducible rfl
       rotate_left
       ·
        simp only[Act.put,List.setIfInBounds_toArray,List.set_cons_zero,List.set_cons_succ,i64_w,i32_w]
        rfl
       refine pure_ (i:=2) (N:=some 19) (v:=?_) (a':=?_) #[true,true,true,false,false,false,false,false,false,false] rfl rfl (any_of HT_.out (by kernel_rfl)) (fun _ _ _ h=>h) (Or.inl ⟨by rfl,?_⟩) ?_ ?_
       rotate_left
       ·
        intro w'
        go_simp
        with_reducible rfl
       rotate_left
       ·
        simp only[Act.put,List.setIfInBounds_toArray,List.set_cons_zero,List.set_cons_succ,i64_w,i32_w]
        rfl
       refine pure_ (i:=4) (N:=some 21) (v:=?_) (a':=?_) #[true,true,true,false,true,false,false,false,false,false] rfl rfl (any_of HT_.out (by kernel_rfl)) (fun _ _ _ h=>h) (Or.inl ⟨by rfl,?_⟩) ?_ ?_
       rotate_left
       ·
        intro w'
        go_simp
        with_reducible rfl
       rotate_left
       ·
        simp only[Act.put,List.setIfInBounds_toArray,List.set_cons_zero,List.set_cons_succ,i64_w,i32_w]
        rfl
       refine pure_ (i:=5) (N:=some 22) (v:=?_) (a':=?_) #[true,true,true,false,true,true,false,false,false,false] rfl rfl (any_of HT_.out (by kernel_rfl)) (fun _ _ _ h=>h) (Or.inl ⟨by rfl,?_⟩) ?_ ?_
       rotate_left
       ·
        intro w'
        go_simp
        with_reducible rfl
       rotate_left
       ·
        simp only[Act.put,List.setIfInBounds_toArray,List.set_cons_zero,List.set_cons_succ,i64_w,i32_w]
        rfl
       refine pure_ (i:=6) (N:=some 23) (v:=?_) (a':=?_) #[true,true,true,false,true,true,true,false,false,false] rfl rfl (any_of HT_.out (by kernel_rfl)) (fun _ _ _ h=>h) (Or.inl ⟨by rfl,?_⟩) ?_ ?_
       rotate_left
       ·
        intro w'
        go_simp
        with_reducible rfl
       rotate_left
       ·
        simp only[Act.put,List.setIfInBounds_toArray,List.set_cons_zero,List.set_cons_succ,i64_w,i32_w]
        rfl
       refine take_ (i:=3) (N:=some 20) (v:=?_) (a':=?_) #[true,true,true,true,true,true,true,false,false,false] rfl rfl (take_ofW HT_.out HW_.out (by kernel_rfl)) (fun _ _ _ h=>h) (Or.inl ⟨by rfl,?_⟩) hHeld ?_ ?_
       rotate_left
       ·
        rintro w' ⟨s0,s1,s2,s3,s4,s5,s6,s7⟩
        go_simp
        with_reducible rfl
       rotate_left
       ·
        simp only[Act.put,List.setIfInBounds_toArray,List.set_cons_zero,List.set_cons_succ,i64_w,i32_w]
        rfl
       refine take_ (i:=7) (N:=some 24) (v:=?_) (a':=?_) #[true,true,true,true,true,true,true,true,false,false] rfl rfl (take_ofW HT_.out HW_.out (by kernel_rfl)) (fun _ _ _ h=>h) (Or.inl ⟨by rfl,?_⟩) hHeld ?_ ?_
       rotate_left
       ·
        rintro w' ⟨s0,s1,s2,s3,s4,s5,s6,s7⟩
        go_simp
        with_reducible rfl
       rotate_left
       ·
        simp only[Act.put,List.setIfInBounds_toArray,List.set_cons_zero,List.set_cons_succ,i64_w,i32_w]
        rfl
       refine one_ (i:=8) (N:=some 25) #[true,true,true,true,true,true,true,true,true,false] rfl rfl (one_of HT_.out (by kernel_rfl)) (by decide) (fun K hK=>?_)
       refine goes_ Try.func36 (by kernel_rfl) rfl #[.agg #[.slice A184_0 ((rd_T59 l0 x5_1).f0).length c184_0,.int .i64 ((rd_T59 l0 x5_1).f1),.slice A184_2 ((rd_T59 l0 x5_1).f2).length c184_2,.slice A184_3 ((rd_T59 l0 x5_1).f3).length c184_3],.agg #[.slice A185_0 ((rd_T59 l1 x5_1).f0).length c185_0,.int .i64 ((rd_T59 l1 x5_1).f1),.slice A185_2 ((rd_T59 l1 x5_1).f2).length c185_2,.slice A185_3 ((rd_T59 l1 x5_1).f3).length c185_3]] (by rfl) rfl rfl ar ?_
       with_reducible refine(laws_eqFunc.calls k1 _ _ ((rd_T59 l0 x5_1).f0) ((rd_T59 l0 x5_1).f1) _ _ ((rd_T59 l0 x5_1).f2) _ _ ((rd_T59 l0 x5_1).f3) _ _ ((rd_T59 l1 x5_1).f0) ((rd_T59 l1 x5_1).f1) _ _ ((rd_T59 l1 x5_1).f2) _ _ ((rd_T59 l1 x5_1).f3) false _ ?side1 ?side2 ?side3 ?side4 ?side5 ?side6 ?side7 ?side8 ?side9 ?side10 ?side11 ?side12 A7.out).mono ?_
       (case side1=>repeat (first|exact(Kd.C_below HR184_0.out HB.out)|(with_reducible refine Kd.C_alloc ?_ _)|(with_reducible refine Kd.C_drewN ?_ _)|(with_reducible refine Kd.C_drew ?_)))
       (case side2=>exact HC184_0.out)
       (case side3=>repeat (first|exact(Kd.C_below HR184_2.out HB.out)|(with_reducible refine Kd.C_alloc ?_ _)|(with_reducible refine Kd.C_drewN ?_ _)|(with_reducible refine Kd.C_drew ?_)))
       (case side4=>exact HC184_2.out)
       (case side5=>repeat (first|exact(Kd.C_below HR184_3.out HB.out)|(with_reducible refine Kd.C_alloc ?_ _)|(with_reducible refine Kd.C_drewN ?_ _)|(with_reducible refine Kd.C_drew ?_)))
       (case side6=>exact HC184_3.out)
       (case side7=>repeat (first|exact(Kd.C_below HR185_0.out HB.out)|(with_reducible refine Kd.C_alloc ?_ _)|(with_reducible refine Kd.C_drewN ?_ _)|(with_reducible refine Kd.C_drew ?_)))
       (case side8=>exact HC185_0.out)
       (case side9=>repeat (first|exact(Kd.C_below HR185_2.out HB.out)|(with_reducible refine Kd.C_alloc ?_ _)|(with_reducible refine Kd.C_drewN ?_ _)|(with_reducible refine Kd.C_drew ?_)))
       (case side10=>exact HC185_2.out)
       (case side11=>repeat (first|exact(Kd.C_below HR185_3.out HB.out)|(with_reducible refine Kd.C_alloc ?_ _)|(with_reducible refine Kd.C_drewN ?_ _)|(with_reducible refine Kd.C_drew ?_)))
       (case side12=>exact HC185_3.out)
       rintro e w12 ⟨rfl,hb⟩
       refine⟨_,rfl,?_⟩
       have n0_:=A_ (below_step (bw HB.out) hb)
       clear HB
       have HB:=n0_
       clear n0_
       (try clear hb)
       (try clear hb2)
       (try clear hk)
       (try clear hi)
       refine hK.out _ _ ⟨(ce_ HB hw184_0),(ce_ HB hw184_1),(ce_ HB hw184_2),(ce_ HB hw184_3),(ce_ HB hw185_0),(ce_ HB hw185_1),(ce_ HB hw185_2),(ce_ HB hw185_3)⟩ (fun hHeld=>?_)
       clear hK K
       refine norm_ (a':=?_) ?_ ?_
       rotate_left
       ·
        show Act.put _ (some 25) _=_
        simp only[Act.put,List.setIfInBounds_toArray,List.set_cons_zero,List.set_cons_succ,i64_w,i32_w]
        rfl
       refine pure_ (i:=9) (N:=some 26) (v:=?_) (a':=?_) #[true,true,true,true,true,true,true,true,true,true] rfl rfl (any_of HT_.out (by kernel_rfl)) (fun _ _ _ h=>h) (Or.inl ⟨by rfl,?_⟩) ?_ ?_
       rotate_left
       ·
        intro w'
        go_simp
        with_reducible rfl
       rotate_left
       ·
        simp only[Act.put,List.setIfInBounds_toArray,List.set_cons_zero,List.set_cons_succ,i64_w,i32_w]
        rfl
       refine done_ (done_of HT_.out (by kernel_rfl)) ?_
       try go_wp2
       go_ret
       exact⟨rr_,bw HB.out⟩
      rw[if_neg c6] at H
      exact absurd H (by simp)
     rw[if_neg c5] at H
     exact absurd H (by simp)
    rw[if_neg c4] at H
    have c4b0:=decide_eq_false c4
    clear c4
    obtain rfl:=Option.some.inj H
    clear H
    go_wp2
    go_ret
    exact⟨rr_,bw HB.out⟩
 rw[if_neg c3] at H
 obtain⟨c3b0,c3b1⟩:=eF_ c3
 have c3b2:(l0.length==l1.length)=false:=by first|simpa using c3|(simp at c3 ⊢;omega)
 obtain rfl:=Option.some.inj H
 clear H
 go_enter Try.func24,Try.ntmps24
 go_wp2
 go_ret
 exact⟨rr_,bw HB.out⟩

/-! ### laws_eqGlobal: function 37 -/
def laws_eqGlobal.f (a0_0:Int) (a0_1:Bool) (a0_2:Int) (a1_0:Int) (a1_1:Bool) (a1_2:Int):Option (Bool):=if a0_0=a1_0 then (if (a0_1 !=a1_1)=true then (some false) else (if a0_2=a1_2 then (some true) else (some false))) else (some false)
theorem laws_eqGlobal.calls (a0_0:Int) (a0_1:Bool) (a0_2:Int) (a1_0:Int) (a1_1:Bool) (a1_2:Int) (r:Bool) (w:World) (h:laws_eqGlobal.f a0_0 a0_1 a0_2 a1_0 a1_1 a1_2=some r):
  Calls Try.prog 37 #[.agg #[.int .i64 a0_0,.bool a0_1,.int .u64 a0_2],.agg #[.int .i64 a1_0,.bool a1_1,.int .u64 a1_2]] w fun e w'=>e=.returned (.bool r)∧Below w.heap.size w w':=by
 have hu63:=Try.underlying63
 have HB:=A_ (Below.refl w.heap.size w)
 have H:(if a0_0=a1_0 then (if (a0_1 !=a1_1)=true then (some false) else (if a0_2=a1_2 then (some true) else (some false))) else (some false))=some r:=h
 clear h
 by_cases c3:a0_0=a1_0
 ·
  rw[if_pos c3] at H
  obtain⟨c3b0,c3b1⟩:=eT_ c3
  clear c3
  by_cases c4:(a0_1 !=a1_1)=true
  ·
   rw[if_pos c4] at H
   have c4b0:(a0_1 !=a1_1)=true:=c4
   (try (have c4b1:decide (a0_1=a1_1)=false:=by simpa using c4))
   (try (have c4b2:(a0_1==a1_1)=false:=by simpa using c4))
   (try (have c4b3:¬(a0_1=a1_1):=by simpa using c4))
   clear c4
   obtain rfl:=Option.some.inj H
   clear H
   go_enter Try.func37,Try.ntmps37
   go_wp2_with (first|((with_reducible refine gd_ 2 rfl ?_);refine bx_ #[.int .i64 a0_0,.bool a0_1,.int .u64 a0_2] 63 ?_;intro gb187 hg w5 hbox hb;have BK187:=A_ hbox;have GW187:=gw_ hg HB;have GE187:=GW187;replace HB:=bs_ HB hb;clear hb hbox hg)|((with_reducible refine gd_ 3 rfl ?_);refine bx_ #[.int .i64 a1_0,.bool a1_1,.int .u64 a1_2] 63 ?_;intro gb188 hg w6 hbox hb;have BK188:=A_ hbox;have GW188:=gw_ hg HB;have GE188:=GW188;obtain⟨NB187_188,NB188_187⟩:=nb_ BK187 hg;replace BK187:=kb_ BK187 hb;replace HB:=bs_ HB hb;clear hb hbox hg;have hnb7:=NB187_188.out;have hnc7:=NB188_187.out;obtain⟨hcz8_0,hcz8_1,hcz8_2⟩:=cs3_ BK187.out;obtain⟨hfz8_0,hfz8_1,hfz8_2⟩:=fz3_ BK187.out;obtain⟨hcz9_0,hcz9_1,hcz9_2⟩:=cs3_ BK188.out;obtain⟨hfz9_0,hfz9_1,hfz9_2⟩:=fz3_ BK188.out))
   go_ret
   exact⟨rr_,bw HB.out⟩
  rw[if_neg c4] at H
  have c4b0:(a0_1 !=a1_1)=false:=by simpa using c4
  (try (have c4b1:decide (a0_1=a1_1)=true:=by simpa using c4))
  (try (have c4b2:(a0_1==a1_1)=true:=by simpa using c4))
  clear c4
  by_cases c10:a0_2=a1_2
  ·
   rw[if_pos c10] at H
   obtain⟨c10b0,c10b1⟩:=eT_ c10
   clear c10
   obtain rfl:=Option.some.inj H
   clear H
   go_enter Try.func37,Try.ntmps37
   go_wp2_with (first|((with_reducible refine gd_ 2 rfl ?_);refine bx_ #[.int .i64 a0_0,.bool a0_1,.int .u64 a0_2] 63 ?_;intro gb187 hg w11 hbox hb;have BK187:=A_ hbox;have GW187:=gw_ hg HB;have GE187:=GW187;replace HB:=bs_ HB hb;clear hb hbox hg)|((with_reducible refine gd_ 3 rfl ?_);refine bx_ #[.int .i64 a1_0,.bool a1_1,.int .u64 a1_2] 63 ?_;intro gb188 hg w12 hbox hb;have BK188:=A_ hbox;have GW188:=gw_ hg HB;have GE188:=GW188;obtain⟨NB187_188,NB188_187⟩:=nb_ BK187 hg;replace BK187:=kb_ BK187 hb;replace HB:=bs_ HB hb;clear hb hbox hg;have hnb13:=NB187_188.out;have hnc13:=NB188_187.out;obtain⟨hcz14_0,hcz14_1,hcz14_2⟩:=cs3_ BK187.out;obtain⟨hfz14_0,hfz14_1,hfz14_2⟩:=fz3_ BK187.out;obtain⟨hcz15_0,hcz15_1,hcz15_2⟩:=cs3_ BK188.out;obtain⟨hfz15_0,hfz15_1,hfz15_2⟩:=fz3_ BK188.out))
   go_ret
   exact⟨rr_,bw HB.out⟩
  rw[if_neg c10] at H
  obtain⟨c10b0,c10b1⟩:=eF_ c10
  obtain rfl:=Option.some.inj H
  clear H
  go_enter Try.func37,Try.ntmps37
  go_wp2_with (first|((with_reducible refine gd_ 2 rfl ?_);refine bx_ #[.int .i64 a0_0,.bool a0_1,.int .u64 a0_2] 63 ?_;intro gb187 hg w16 hbox hb;have BK187:=A_ hbox;have GW187:=gw_ hg HB;have GE187:=GW187;replace HB:=bs_ HB hb;clear hb hbox hg)|((with_reducible refine gd_ 3 rfl ?_);refine bx_ #[.int .i64 a1_0,.bool a1_1,.int .u64 a1_2] 63 ?_;intro gb188 hg w17 hbox hb;have BK188:=A_ hbox;have GW188:=gw_ hg HB;have GE188:=GW188;obtain⟨NB187_188,NB188_187⟩:=nb_ BK187 hg;replace BK187:=kb_ BK187 hb;replace HB:=bs_ HB hb;clear hb hbox hg;have hnb18:=NB187_188.out;have hnc18:=NB188_187.out;obtain⟨hcz19_0,hcz19_1,hcz19_2⟩:=cs3_ BK187.out;obtain⟨hfz19_0,hfz19_1,hfz19_2⟩:=fz3_ BK187.out;obtain⟨hcz20_0,hcz20_1,hcz20_2⟩:=cs3_ BK188.out;obtain⟨hfz20_0,hfz20_1,hfz20_2⟩:=fz3_ BK188.out))
  go_ret
  exact⟨rr_,bw HB.out⟩
 rw[if_neg c3] at H
 obtain⟨c3b0,c3b1⟩:=eF_ c3
 obtain rfl:=Option.some.inj H
 clear H
 go_enter Try.func37,Try.ntmps37
 go_wp2_with (first|((with_reducible refine gd_ 2 rfl ?_);refine bx_ #[.int .i64 a0_0,.bool a0_1,.int .u64 a0_2] 63 ?_;intro gb187 hg w21 hbox hb;have BK187:=A_ hbox;have GW187:=gw_ hg HB;have GE187:=GW187;replace HB:=bs_ HB hb;clear hb hbox hg)|((with_reducible refine gd_ 3 rfl ?_);refine bx_ #[.int .i64 a1_0,.bool a1_1,.int .u64 a1_2] 63 ?_;intro gb188 hg w22 hbox hb;have BK188:=A_ hbox;have GW188:=gw_ hg HB;have GE188:=GW188;obtain⟨NB187_188,NB188_187⟩:=nb_ BK187 hg;replace BK187:=kb_ BK187 hb;replace HB:=bs_ HB hb;clear hb hbox hg;have hnb23:=NB187_188.out;have hnc23:=NB188_187.out;obtain⟨hcz24_0,hcz24_1,hcz24_2⟩:=cs3_ BK187.out;obtain⟨hfz24_0,hfz24_1,hfz24_2⟩:=fz3_ BK187.out;obtain⟨hcz25_0,hcz25_1,hcz25_2⟩:=cs3_ BK188.out;obtain⟨hfz25_0,hfz25_1,hfz25_2⟩:=fz3_ BK188.out))
 go_ret
 exact⟨rr_,bw HB.out⟩

/-! ### laws_eqGlobalS: function 25 -/
def laws_eqGlobalS.l0:Nat→List (S63)→List (S63)→Int→Option (Bool)
 |0,_,_,_=>none
 |k+1,x0,x1,x5=>if x5<(x0.length:Int) then (if 0≤x5 then (if x5<(x1.length:Int) then ((laws_eqGlobal.f ((rd_T63 x0 x5).f0) ((rd_T63 x0 x5).f1) ((rd_T63 x0 x5).f2) ((rd_T63 x1 x5).f0) ((rd_T63 x1 x5).f1) ((rd_T63 x1 x5).f2)).bind fun t191=>(if t191=true then (laws_eqGlobalS.l0 k x0 x1 (wrap64 (x5+1))) else (some false))) else (none)) else (none)) else (some true)
def laws_eqGlobalS.f (k:Nat) (l0:List (S63)) (l1:List (S63)):Option (Bool):=if (l0.length:Int)=(l1.length:Int) then (laws_eqGlobalS.l0 k l0 l1 0) else (some false)
def laws_eqGlobalS.T6:Bool × List (List Nat × List Nat):=(true,[([],[]),([],[]),([0,1],[0,1]),([2],[2]),([],[]),([],[]),([4,5],[4,5]),([6],[6]),([3,7],[3,7]),([8],[8])])
def laws_eqGlobalS.B6:List Nat:=[0,0,3,7,0,0,48,112,255,511]
theorem laws_eqGlobalS.tab6:rtab .any (opsOf Try.f25 6)=laws_eqGlobalS.T6:=by kernel_rfl
theorem laws_eqGlobalS.bits6:waitsOk laws_eqGlobalS.T6.2 laws_eqGlobalS.B6=true:=by kernel_rfl
theorem laws_eqGlobalS.calls (k:Nat) (A0:Option Addr) (c0:Nat) (l0:List (S63)) (A1:Option Addr) (c1:Nat) (l1:List (S63)) (r:Bool) (w:World) (hr0:Kd.C k63 w A0 l0.length l0) (hc0:l0.length≤c0) (hr1:Kd.C k63 w A1 l1.length l1) (hc1:l1.length≤c1) (h:laws_eqGlobalS.f k l0 l1=some r):
  Calls Try.prog 25 #[.slice A0 l0.length c0,.slice A1 l1.length c1] w fun e w'=>e=.returned (.bool r)∧Below w.heap.size w w':=by
 have hu63:=Try.underlying63
 have HR0:=A_ hr0
 have HC0:=A_ hc0
 clear hr0 hc0
 have HR1:=A_ hr1
 have HC1:=A_ hc1
 clear hr1 hc1
 have HB:=A_ (Below.refl w.heap.size w)
 have H:(if (l0.length:Int)=(l1.length:Int) then (laws_eqGlobalS.l0 k l0 l1 0) else (some false))=some r:=h
 clear h
 by_cases c3:(l0.length:Int)=(l1.length:Int)
 ·
  rw[if_pos c3] at H
  obtain⟨c3b0,c3b1⟩:=eT_ c3
  have c3b2:(l0.length==l1.length)=true:=by first|simpa using c3|(simp at c3 ⊢;omega)
  clear c3
  have H':=A_ H
  clear H
  go_enter Try.func25,Try.ntmps25
  go_wp2
  (try simp only[Act.put,List.setIfInBounds_toArray,List.set_cons_zero,List.set_cons_succ])
  go_loopg [5] k (fun kq v5 w'=>∃ (x5_1:Int),v5=.int .i64 x5_1∧Aside0 (laws_eqGlobalS.l0 kq l0 l1 x5_1=some r)∧Aside0 (kq≤k)∧Aside0 (Below w.heap.size w w'))
  case atStart=>exact⟨(0),rs_,H',⟨Nat.le_refl _⟩,⟨bw HB.out⟩⟩
  case round=>
   clear H'
   try clear c1 c3 c3b0 c3b1 c3b2
   obtain⟨x5_1,rfl,HA,HK1,HB⟩:=hrel
   cases gk with
   |zero=>exact absurd HA.out (by simp[laws_eqGlobalS.l0])
   |succ k1=>
    have H:=HA.out
    clear HA
    simp only[laws_eqGlobalS.l0] at H
    by_cases c4:x5_1<(l0.length:Int)
    ·
     rw[if_pos c4] at H
     have c4b0:=decide_eq_true c4
     clear c4
     by_cases c5:0≤x5_1
     ·
      rw[if_pos c5] at H
      have c5b0:=decide_eq_true c5
      clear c5
      by_cases c6:x5_1<(l1.length:Int)
      ·
       rw[if_pos c6] at H
       have c6b0:=decide_eq_true c6
       clear c6
       replace H:=bi_ H
       obtain⟨t191,A70,H⟩:=H
       have A7:=A_ A70
       clear A70
       by_cases c8:t191=true
       ·
        subst c8
        replace H:=iT_ H
        have H':=A_ H
        clear H
        try go_wp2
        have n0_:=A_ (below_drew1 HB.out)
        clear HB
        have HB:=n0_
        clear n0_
        have p189:0≤(x5_1:Int):=od_
        have q189:x5_1<(l0.length:Int):=od_
        obtain⟨ad189,e189,hx189_0,hx189_1,hx189_2⟩:=at_T63 HR0.out x5_1 p189 q189
        have hw189_2:=hx189_2
        have hw189_1:=hx189_1
        have hw189_0:=hx189_0
        cases e189
        replace hx189_0:=cl_ HB.out hx189_0
        replace hx189_1:=cl_ HB.out hx189_1
        replace hx189_2:=cl_ HB.out hx189_2
        replace p189:=eq_true p189
        replace q189:=eq_true q189
        have p190:0≤(x5_1:Int):=od_
        have q190:x5_1<(l1.length:Int):=od_
        obtain⟨ad190,e190,hx190_0,hx190_1,hx190_2⟩:=at_T63 HR1.out x5_1 p190 q190
        have hw190_2:=hx190_2
        have hw190_1:=hx190_1
        have hw190_0:=hx190_0
        cases e190
        replace hx190_0:=cl_ HB.out hx190_0
        replace hx190_1:=cl_ HB.out hx190_1
        replace hx190_2:=cl_ HB.out hx190_2
        replace p190:=eq_true p190
        replace q190:=eq_true q190
        refine start_ (n:=10) (S:=fun w'=>w'.cell? (ad189.add ((x5_1).toNat*3))=some (.int .i64 ((rd_T63 l0 x5_1).f0))∧w'.cell? ⟨(ad189.add ((x5_1).toNat*3)).block,(ad189.add ((x5_1).toNat*3)).off+1,none⟩=some (.bool ((rd_T63 l0 x5_1).f1))∧w'.cell? ⟨(ad189.add ((x5_1).toNat*3)).block,(ad189.add ((x5_1).toNat*3)).off+2,none⟩=some (.int .u64 ((rd_T63 l0 x5_1).f2))∧w'.cell? (ad190.add ((x5_1).toNat*3))=some (.int .i64 ((rd_T63 l1 x5_1).f0))∧w'.cell? ⟨(ad190.add ((x5_1).toNat*3)).block,(ad190.add ((x5_1).toNat*3)).off+1,none⟩=some (.bool ((rd_T63 l1 x5_1).f1))∧w'.cell? ⟨(ad190.add ((x5_1).toNat*3)).block,(ad190.add ((x5_1).toNat*3)).off+2,none⟩=some (.int .u64 ((rd_T63 l1 x5_1).f2))) (ds:=[]) #[false,false,false,false,false,false,false,false,false,false] (by kernel_rfl) rfl rfl ⟨(ce_ HB hw189_0),(ce_ HB hw189_1),(ce_ HB hw189_2),(ce_ HB hw190_0),(ce_ HB hw190_1),(ce_ HB hw190_2)⟩ (fun hHeld=>?_);refine with_tabW laws_eqGlobalS.tab6 laws_eqGlobalS.bits6 (fun HT_ HW_=>?_)
        generalize wr.drew=w9 at HB hx189_0 hx189_1 hx189_2 hx190_0 hx190_1 hx190_2 hHeld ⊢
        refine pure_ (i:=0) (N:=some 17) (v:=?_) (a':=?_) #[true,false,false,false,false,false,false,false,false,false] rfl rfl (any_of HT_.out (by kernel_rfl)) (fun _ _ _ h=>h) (Or.inl ⟨by rfl,?_⟩) ?_ ?_
        rotate_left
        ·
         intro w'
         go_simp
         with_reducible rfl
        rotate_left
        ·
         simp only[Act.put,List.setIfInBounds_toArray,List.set_cons_zero,List.set_cons_succ,i64_w,i32_w]
         rfl
        refine pure_ (i:=1) (N:=some 18) (v:=?_) (a':=?_) #[true,true,false,false,false,false,false,false,false,false] rfl rfl (any_of HT_.out (by kernel_rfl)) (fun _ _ _ h=>h) (Or.inl ⟨by rfl,?_⟩) ?_ ?_
        rotate_left
        ·
         intro w'
         go_simp
         with_reducible rfl
        rotate_left
        ·
         simp only[Act.put,List.setIfInBounds_toArray,List.set_cons_zero,List.set_cons_succ,i64_w,i32_w]
         rfl
        refine pure_ (i:=2) (N:=some 19) (v:=?_) (a':=?_) #[true,true,true,false,false,false,false,false,false,false] rfl rfl (any_of HT_.out (by kernel_rfl)) (fun _ _ _ h=>h) (Or.inl ⟨by rfl,?_⟩) ?_ ?_
        rotate_left
        ·
         intro w'
         go_simp
         with_reducible rfl
        rotate_left
        ·
         simp only[Act.put,List.setIfInBounds_toArray,List.set_cons_zero,List.set_cons_succ,i64_w,i32_w]
         rfl
        refine pure_ (i:=4) (N:=some 21) (v:=?_) (a':=?_) #[true,true,true,false,true,false,false,false,false,false] rfl rfl (any_of HT_.out (by kernel_rfl)) (fun _ _ _ h=>h) (Or.inl ⟨by rfl,?_⟩) ?_ ?_
        rotate_left
        ·
         intro w'
         go_simp
         with_reducible rfl
        rotate_left
        ·
         simp only[Act.put,List.setIfInBounds_toArray,List.set_cons_zero,List.set_cons_succ,i64_w,i32_w]
         rfl
        refine pure_ (i:=5) (N:=some 22) (v:=?_) (a':=?_) #[true,true,true,false,true,true,false,false,false,false] rfl rfl (any_of HT_.out (by kernel_rfl)) (fun _ _ _ h=>h) (Or.inl ⟨by rfl,?_⟩) ?_ ?_
        rotate_left
        ·
         intro w'
         go_simp
         with_reducible rfl
        rotate_left
        ·
         simp only[Act.put,List.setIfInBounds_toArray,List.set_cons_zero,List.set_cons_succ,i64_w,i32_w]
         rfl
        refine pure_ (i:=6) (N:=some 23) (v:=?_) (a':=?_) #[true,true,true,false,true,true,true,false,false,false] rfl rfl (any_of HT_.out (by kernel_rfl)) (fun _ _ _ h=>h) (Or.inl ⟨by rfl,?_⟩) ?_ ?_
        rotate_left
        ·
         intro w'
         go_simp
         with_reducible rfl
        rotate_left
        ·
         simp only[Act.put,List.setIfInBounds_toArray,List.set_cons_zero,List.set_cons_succ,i64_w,i32_w]
         rfl
        refine take_ (i:=3) (N:=some 20) (v:=?_) (a':=?_) #[true,true,true,true,true,true,true,false,false,false] rfl rfl (take_ofW HT_.out HW_.out (by kernel_rfl)) (fun _ _ _ h=>h) (Or.inl ⟨by rfl,?_⟩) hHeld ?_ ?_
        rotate_left
        ·
         rintro w' ⟨s0,s1,s2,s3,s4,s5⟩
         go_simp
         with_reducible rfl
        rotate_left
        ·
         simp only[Act.put,List.setIfInBounds_toArray,List.set_cons_zero,List.set_cons_succ,i64_w,i32_w]
         rfl
        refine take_ (i:=7) (N:=some 24) (v:=?_) (a':=?_) #[true,true,true,true,true,true,true,true,false,false] rfl rfl (take_ofW HT_.out HW_.out (by kernel_rfl)) (fun _ _ _ h=>h) (Or.inl ⟨by rfl,?_⟩) hHeld ?_ ?_
        rotate_left
        ·
         rintro w' ⟨s0,s1,s2,s3,s4,s5⟩
         go_simp
         with_reducible rfl
        rotate_left
        ·
         simp only[Act.put,List.setIfInBounds_toArray,List.set_cons_zero,List.set_cons_succ,i64_w,i32_w]
         rfl
        refine one_ (i:=8) (N:=some 25) #[true,true,true,true,true,true,true,true,true,false] rfl rfl (one_of HT_.out (by kernel_rfl)) (by decide) (fun K hK=>?_)
        refine goes_ Try.func37 (by kernel_rfl) rfl #[.agg #[.int .i64 ((rd_T63 l0 x5_1).f0),.bool ((rd_T63 l0 x5_1).f1),.int .u64 ((rd_T63 l0 x5_1).f2)],.agg #[.int .i64 ((rd_T63 l1 x5_1).f0),.bool ((rd_T63 l1 x5_1).f1),.int .u64 ((rd_T63 l1 x5_1).f2)]] (by rfl) rfl rfl ar ?_
        with_reducible refine(laws_eqGlobal.calls ((rd_T63 l0 x5_1).f0) ((rd_T63 l0 x5_1).f1) ((rd_T63 l0 x5_1).f2) ((rd_T63 l1 x5_1).f0) ((rd_T63 l1 x5_1).f1) ((rd_T63 l1 x5_1).f2) true _ A7.out).mono ?_
        rintro e w10 ⟨rfl,hb⟩
        refine⟨_,rfl,?_⟩
        have n0_:=A_ (below_step (bw HB.out) hb)
        clear HB
        have HB:=n0_
        clear n0_
        (try clear hb)
        (try clear hb2)
        (try clear hk)
        (try clear hi)
        refine hK.out _ _ ⟨(ce_ HB hw189_0),(ce_ HB hw189_1),(ce_ HB hw189_2),(ce_ HB hw190_0),(ce_ HB hw190_1),(ce_ HB hw190_2)⟩ (fun hHeld=>?_)
        clear hK K
        refine norm_ (a':=?_) ?_ ?_
        rotate_left
        ·
         show Act.put _ (some 25) _=_
         simp only[Act.put,List.setIfInBounds_toArray,List.set_cons_zero,List.set_cons_succ,i64_w,i32_w]
         rfl
        refine pure_ (i:=9) (N:=some 26) (v:=?_) (a':=?_) #[true,true,true,true,true,true,true,true,true,true] rfl rfl (any_of HT_.out (by kernel_rfl)) (fun _ _ _ h=>h) (Or.inl ⟨by rfl,?_⟩) ?_ ?_
        rotate_left
        ·
         intro w'
         go_simp
         with_reducible rfl
        rotate_left
        ·
         simp only[Act.put,List.setIfInBounds_toArray,List.set_cons_zero,List.set_cons_succ,i64_w,i32_w]
         rfl
        refine done_ (done_of HT_.out (by kernel_rfl)) ?_
        try go_wp2
        go_roundg k1
        case measure=>have:=HK1.out;omega
        case rel=>exact⟨(wrap64 (x5_1+1)),rs_,H',⟨by have:=HK1.out;omega⟩,⟨bw HB.out⟩⟩
       replace c8:=Bool.eq_false_iff.mpr c8
       subst c8
       replace H:=iF_ H
       obtain rfl:=Option.some.inj H
       clear H
       try go_wp2
       have n0_:=A_ (below_drew1 HB.out)
       clear HB
       have HB:=n0_
       clear n0_
       have p189:0≤(x5_1:Int):=od_
       have q189:x5_1<(l0.length:Int):=od_
       obtain⟨ad189,e189,hx189_0,hx189_1,hx189_2⟩:=at_T63 HR0.out x5_1 p189 q189
       have hw189_2:=hx189_2
       have hw189_1:=hx189_1
       have hw189_0:=hx189_0
       cases e189
       replace hx189_0:=cl_ HB.out hx189_0
       replace hx189_1:=cl_ HB.out hx189_1
       replace hx189_2:=cl_ HB.out hx189_2
       replace p189:=eq_true p189
       replace q189:=eq_true q189
       have p190:0≤(x5_1:Int):=od_
       have q190:x5_1<(l1.length:Int):=od_
       obtain⟨ad190,e190,hx190_0,hx190_1,hx190_2⟩:=at_T63 HR1.out x5_1 p190 q190
       have hw190_2:=hx190_2
       have hw190_1:=hx190_1
       have hw190_0:=hx190_0
       cases e190
       replace hx190_0:=cl_ HB.out hx190_0
       replace hx190_1:=cl_ HB.out hx190_1
       replace hx190_2:=cl_ HB.out hx190_2
       replace p190:=eq_true p190
       replace q190:=eq_true q190
       refine start_ (n:=10) (S:=fun w'=>w'.cell? (ad189.add ((x5_1).toNat*3))=some (.int .i64 ((rd_T63 l0 x5_1).f0))∧w'.cell? ⟨(ad189.add ((x5_1).toNat*3)).block,(ad189.add ((x5_1).toNat*3)).off+1,none⟩=some (.bool ((rd_T63 l0 x5_1).f1))∧w'.cell? ⟨(ad189.add ((x5_1).toNat*3)).block,(ad189.add ((x5_1).toNat*3)).off+2,none⟩=some (.int .u64 ((rd_T63 l0 x5_1).f2))∧w'.cell? (ad190.add ((x5_1).toNat*3))=some (.int .i64 ((rd_T63 l1 x5_1).f0))∧w'.cell? ⟨(ad190.add ((x5_1).toNat*3)).block,(ad190.add ((x5_1).toNat*3)).off+1,none⟩=some (.bool ((rd_T63 l1 x5_1).f1))∧w'.cell? ⟨(ad190.add ((x5_1).toNat*3)).block,(ad190.add ((x5_1).toNat*3)).off+2,none⟩=some (.int .u64 ((rd_T63 l1 x5_1).f2))) (ds:=[]) #[false,false,false,false,false,false,false,false,false,false] (by kernel_rfl) rfl rfl ⟨(ce_ HB hw189_0),(ce_ HB hw189_1),(ce_ HB hw189_2),(ce_ HB hw190_0),(ce_ HB hw190_1),(ce_ HB hw190_2)⟩ (fun hHeld=>?_);refine with_tabW laws_eqGlobalS.tab6 laws_eqGlobalS.bits6 (fun HT_ HW_=>?_)
       generalize wr.drew=w11 at HB hx189_0 hx189_1 hx189_2 hx190_0 hx190_1 hx190_2 hHeld ⊢
       refine pure_ (i:=0) (N:=some 17) (v:=?_) (a':=?_) #[true,false,false,false,false,false,false,false,false,false] rfl rfl (any_of HT_.out (by kernel_rfl)) (fun _ _ _ h=>h) (Or.inl ⟨by rfl,?_⟩) ?_ ?_
       rotate_left
       ·
        intro w'
        go_simp
        with_reducible rfl
       rotate_left
       ·
        simp only[Act.put,List.setIfInBounds_toArray,List.set_cons_zero,List.set_cons_succ,i64_w,i32_w]
        rfl
       refine pure_ (i:=1) (N:=some 18) (v:=?_) (a':=?_) #[true,true,false,false,false,false,false,false,false,false] rfl rfl (any_of HT_.out (by kernel_rfl)) (fun _ _ _ h=>h) (Or.inl ⟨by rfl,?_⟩) ?_ ?_
       rotate_left
       ·
        intro w'
        go_simp
        with_reducible rfl
       rotate_left
       ·
        simp only[Act.put,List.setIfInBounds_toArray,List.set_cons_zero,List.set_cons_succ,i64_w,i32_w]
        rfl
       refine pure_ (i:=2) (N:=some 19) (v:=?_) (a':=?_) #[true,true,true,false,false,false,false,false,false,false] rfl rfl (any_of HT_.out (by kernel_rfl)) (fun _ _ _ h=>h) (Or.inl ⟨by rfl,?_⟩) ?_ ?_
       rotate_left
       ·
        intro w'
        go_simp
        with_reducible rfl
       rotate_left
       ·
        simp only[Act.put,List.setIfInBounds_toArray,List.set_cons_zero,List.set_cons_succ,i64_w,i32_w]
        rfl
       refine pure_ (i:=4) (N:=some 21) (v:=?_) (a':=?_) #[true,true,true,false,true,false,false,false,false,false] rfl rfl (any_of HT_.out (by kernel_rfl)) (fun _ _ _ h=>h) (Or.inl ⟨by rfl,?_⟩) ?_ ?_
       rotate_left
       ·
        intro w'
        go_simp
        with_reducible rfl
       rotate_left
       ·
        simp only[Act.put,List.setIfInBounds_toArray,List.set_cons_zero,List.set_cons_succ,i64_w,i32_w]
        rfl
       refine pure_ (i:=5) (N:=some 22) (v:=?_) (a':=?_) #[true,true,true,false,true,true,false,false,false,false] rfl rfl (any_of HT_.out (by kernel_rfl)) (fun _ _ _ h=>h) (Or.inl ⟨by rfl,?_⟩) ?_ ?_
       rotate_left
       ·
        intro w'
        go_simp
        with_reducible rfl
       rotate_left
       ·
        simp only[Act.put,List.setIfInBounds_toArray,List.set_cons_zero,List.set_cons_succ,i64_w,i32_w]
        rfl
       refine pure_ (i:=6) (N:=some 23) (v:=?_) (a':=?_) #[true,true,true,false,true,true,true,false,false,false] rfl rfl (any_of HT_.out (by kernel_rfl)) (fun _ _ _ h=>h) (Or.inl ⟨by rfl,?_⟩) ?_ ?_
       rotate_left
       ·
        intro w'
        go_simp
        with_reducible rfl
       rotate_left
       ·
        simp only[Act.put,List.setIfInBounds_toArray,List.set_cons_zero,List.set_cons_succ,i64_w,i32_w]
        rfl
       refine take_ (i:=3) (N:=some 20) (v:=?_) (a':=?_) #[true,true,true,true,true,true,true,false,false,false] rfl rfl (take_ofW HT_.out HW_.out (by kernel_rfl)) (fun _ _ _ h=>h) (Or.inl ⟨by rfl,?_⟩) hHeld ?_ ?_
       rotate_left
       ·
        rintro w' ⟨s0,s1,s2,s3,s4,s5⟩
        go_simp
        with_reducible rfl
       rotate_left
       ·
        simp only[Act.put,List.setIfInBounds_toArray,List.set_cons_zero,List.set_cons_succ,i64_w,i32_w]
        rfl
       refine take_ (i:=7) (N:=some 24) (v:=?_) (a':=?_) #[true,true,true,true,true,true,true,true,false,false] rfl rfl (take_ofW HT_.out HW_.out (by kernel_rfl)) (fun _ _ _ h=>h) (Or.inl ⟨by rfl,?_⟩) hHeld ?_ ?_
       rotate_left
       ·
        rintro w' ⟨s0,s1,s2,s3,s4,s5⟩
        go_simp
        with_reducible rfl
       rotate_left
       ·
        simp only[Act.put,List.setIfInBounds_toArray,List.set_cons_zero,List.set_cons_succ,i64_w,i32_w]
        rfl
       refine one_ (i:=8) (N:=some 25) #[true,true,true,true,true,true,true,true,true,false] rfl rfl (one_of HT_.out (by kernel_rfl)) (by decide) (fun K hK=>?_)
       refine goes_ Try.func37 (by kernel_rfl) rfl #[.agg #[.int .i64 ((rd_T63 l0 x5_1).f0),.bool ((rd_T63 l0 x5_1).f1),.int .u64 ((rd_T63 l0 x5_1).f2)],.agg #[.int .i64 ((rd_T63 l1 x5_1).f0),.bool ((rd_T63 l1 x5_1).f1),.int .u64 ((rd_T63 l1 x5_1).f2)]] (by rfl) rfl rfl ar ?_
       with_reducible refine(laws_eqGlobal.calls ((rd_T63 l0 x5_1).f0) ((rd_T63 l0 x5_1).f1) ((rd_T63 l0 x5_1).f2) ((rd_T63 l1 x5_1).f0) ((rd_T63 l1 x5_1).f1) ((rd_T63 l1 x5_1).f2) false _ A7.out).mono ?_
       rintro e w12 ⟨rfl,hb⟩
       refine⟨_,rfl,?_⟩
       have n0_:=A_ (below_step (bw HB.out) hb)
       clear HB
       have HB:=n0_
       clear n0_
       (try clear hb)
       (try clear hb2)
       (try clear hk)
       (try clear hi)
       refine hK.out _ _ ⟨(ce_ HB hw189_0),(ce_ HB hw189_1),(ce_ HB hw189_2),(ce_ HB hw190_0),(ce_ HB hw190_1),(ce_ HB hw190_2)⟩ (fun hHeld=>?_)
       clear hK K
       refine norm_ (a':=?_) ?_ ?_
       rotate_left
       ·
        show Act.put _ (some 25) _=_
        simp only[Act.put,List.setIfInBounds_toArray,List.set_cons_zero,List.set_cons_succ,i64_w,i32_w]
        rfl
       refine pure_ (i:=9) (N:=some 26) (v:=?_) (a':=?_) #[true,true,true,true,true,true,true,true,true,true] rfl rfl (any_of HT_.out (by kernel_rfl)) (fun _ _ _ h=>h) (Or.inl ⟨by rfl,?_⟩) ?_ ?_
       rotate_left
       ·
        intro w'
        go_simp
        with_reducible rfl
       rotate_left
       ·
        simp only[Act.put,List.setIfInBounds_toArray,List.set_cons_zero,List.set_cons_succ,i64_w,i32_w]
        rfl
       refine done_ (done_of HT_.out (by kernel_rfl)) ?_
       try go_wp2
       go_ret
       exact⟨rr_,bw HB.out⟩
      rw[if_neg c6] at H
      exact absurd H (by simp)
     rw[if_neg c5] at H
     exact absurd H (by simp)
    rw[if_neg c4] at H
    have c4b0:=decide_eq_false c4
    clear c4
    obtain rfl:=Option.some.inj H
    clear H
    go_wp2
    go_ret
    exact⟨rr_,bw HB.out⟩
 rw[if_neg c3] at H
 obtain⟨c3b0,c3b1⟩:=eF_ c3
 have c3b2:(l0.length==l1.length)=false:=by first|simpa using c3|(simp at c3 ⊢;omega)
 obtain rfl:=Option.some.inj H
 clear H
 go_enter Try.func25,Try.ntmps25
 go_wp2
 go_ret
 exact⟨rr_,bw HB.out⟩

end Go.Proofs.Ytghogonibanieaa.Q

