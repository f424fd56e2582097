-- Written by a program of this session; it walks the functions that the law reaches.
import Derived.Test.YtghogonibanieaaQx0
import Derived.Test.YtghogonibanieaaQx5
import Derived.Test.YtghogonibanieaaQx1
import Derived.Test.YtghogonibanieaaQx2
import Derived.Test.YtghogonibanieaaQx4
namespace Go.Proofs.Ytghogonibanieaa.Q
open Go.RowKit Go.Proofs.YtghogonibanieaaW.PrintWords Go.Proofs.YtghogonibanieaaW.PrintLast Go.Proofs.YtghogonibanieaaW.PrintMore
attribute [local go_sem] max2_int min2_int max_two min_two max_three min_three max_four min_four   -- for this text's walks alone
set_option linter.unusedVariables false
set_option linter.unusedSimpArgs false
set_option maxRecDepth 100000
set_option maxHeartbeats 8000000

/-! ### laws_eqInsS: function 62 -/
def laws_eqInsS.l0:Nat→List (S71)→List (S71)→Int→Option (Bool)
 |0,_,_,_=>none
 |k+1,x0,x1,x5=>if x5<(x0.length:Int) then (if 0≤x5 then (if x5<(x1.length:Int) then ((laws_eqIns.f ((rd_T71 x0 x5).f0) ((rd_T71 x0 x5).f1) ((rd_T71 x1 x5).f0) ((rd_T71 x1 x5).f1)).bind fun t373=>(if t373=true then (laws_eqInsS.l0 k x0 x1 (wrap64 (x5+1))) else (some false))) else (none)) else (none)) else (some true)
def laws_eqInsS.f (k:Nat) (l0:List (S71)) (l1:List (S71)):Option (Bool):=if (l0.length:Int)=(l1.length:Int) then (laws_eqInsS.l0 k l0 l1 0) else (some false)
def laws_eqInsS.T6:Bool × List (List Nat × List Nat):=(true,[([],[]),([],[]),([0,1],[0,1]),([2],[2]),([],[]),([],[]),([4,5],[4,5]),([6],[6]),([3,7],[3,7]),([8],[8])])
def laws_eqInsS.B6:List Nat:=[0,0,3,7,0,0,48,112,255,511]
theorem laws_eqInsS.tab6:rtab .any (opsOf Try.f62 6)=laws_eqInsS.T6:=by kernel_rfl
theorem laws_eqInsS.bits6:waitsOk laws_eqInsS.T6.2 laws_eqInsS.B6=true:=by kernel_rfl
theorem laws_eqInsS.calls (k:Nat) (A0:Option Addr) (c0:Nat) (l0:List (S71)) (A1:Option Addr) (c1:Nat) (l1:List (S71)) (r:Bool) (w:World) (hr0:Kd.C k71 w A0 l0.length l0) (hc0:l0.length≤c0) (hr1:Kd.C k71 w A1 l1.length l1) (hc1:l1.length≤c1) (h:laws_eqInsS.f k l0 l1=some r):
  Calls Try.prog 62 #[.slice A0 l0.length c0,.slice A1 l1.length c1] w fun e w'=>e=.returned (.bool r)∧Below w.heap.size w w':=by
 have hu71:=Try.underlying71
 have HR0:=A_ hr0
 have HC0:=A_ hc0
 clear hr0 hc0
 have HR1:=A_ hr1
 have HC1:=A_ hc1
 clear hr1 hc1
 have HB:=A_ (Below.refl w.heap.size w)
 have H:(if (l0.length:Int)=(l1.length:Int) then (laws_eqInsS.l0 k l0 l1 0) else (some false))=some r:=h
 clear h
 by_cases c3:(l0.length:Int)=(l1.length:Int)
 ·
  rw[if_pos c3] at H
  obtain⟨c3b0,c3b1⟩:=eT_ c3
  have c3b2:(l0.length==l1.length)=true:=by first|simpa using c3|(simp at c3 ⊢;omega)
  clear c3
  have H':=A_ H
  clear H
  go_enter Try.func62,Try.ntmps62
  go_wp2
  (try simp only[Act.put,List.setIfInBounds_toArray,List.set_cons_zero,List.set_cons_succ])
  go_loopg [5] k (fun kq v5 w'=>∃ (x5_1:Int),v5=.int .i64 x5_1∧Aside0 (laws_eqInsS.l0 kq l0 l1 x5_1=some r)∧Aside0 (kq≤k)∧Aside0 (Below w.heap.size w w'))
  case atStart=>exact⟨(0),rs_,H',⟨Nat.le_refl _⟩,⟨bw HB.out⟩⟩
  case round=>
   clear H'
   try clear c1 c3 c3b0 c3b1 c3b2
   obtain⟨x5_1,rfl,HA,HK1,HB⟩:=hrel
   cases gk with
   |zero=>exact absurd HA.out (by simp[laws_eqInsS.l0])
   |succ k1=>
    have H:=HA.out
    clear HA
    simp only[laws_eqInsS.l0] at H
    by_cases c4:x5_1<(l0.length:Int)
    ·
     rw[if_pos c4] at H
     have c4b0:=decide_eq_true c4
     clear c4
     by_cases c5:0≤x5_1
     ·
      rw[if_pos c5] at H
      have c5b0:=decide_eq_true c5
      clear c5
      by_cases c6:x5_1<(l1.length:Int)
      ·
       rw[if_pos c6] at H
       have c6b0:=decide_eq_true c6
       clear c6
       replace H:=bi_ H
       obtain⟨t373,A70,H⟩:=H
       have A7:=A_ A70
       clear A70
       by_cases c8:t373=true
       ·
        subst c8
        replace H:=iT_ H
        have H':=A_ H
        clear H
        try go_wp2
        have n0_:=A_ (below_drew1 HB.out)
        clear HB
        have HB:=n0_
        clear n0_
        have p371:0≤(x5_1:Int):=od_
        have q371:x5_1<(l0.length:Int):=od_
        obtain⟨ad371,e371,hx371_0,hx371_1⟩:=at_T71 HR0.out x5_1 p371 q371
        have hw371_1:=hx371_1
        have hw371_0:=hx371_0
        cases e371
        replace hx371_0:=cl_ HB.out hx371_0
        replace hx371_1:=cl_ HB.out hx371_1
        replace p371:=eq_true p371
        replace q371:=eq_true q371
        have p372:0≤(x5_1:Int):=od_
        have q372:x5_1<(l1.length:Int):=od_
        obtain⟨ad372,e372,hx372_0,hx372_1⟩:=at_T71 HR1.out x5_1 p372 q372
        have hw372_1:=hx372_1
        have hw372_0:=hx372_0
        cases e372
        replace hx372_0:=cl_ HB.out hx372_0
        replace hx372_1:=cl_ HB.out hx372_1
        replace p372:=eq_true p372
        replace q372:=eq_true q372
        refine start_ (n:=10) (S:=fun w'=>w'.cell? (ad371.add ((x5_1).toNat*2))=some (.int .i64 ((rd_T71 l0 x5_1).f0))∧w'.cell? ⟨(ad371.add ((x5_1).toNat*2)).block,(ad371.add ((x5_1).toNat*2)).off+1,none⟩=some (.int .i64 ((rd_T71 l0 x5_1).f1))∧w'.cell? (ad372.add ((x5_1).toNat*2))=some (.int .i64 ((rd_T71 l1 x5_1).f0))∧w'.cell? ⟨(ad372.add ((x5_1).toNat*2)).block,(ad372.add ((x5_1).toNat*2)).off+1,none⟩=some (.int .i64 ((rd_T71 l1 x5_1).f1))) (ds:=[]) #[false,false,false,false,false,false,false,false,false,false] (by kernel_rfl) rfl rfl ⟨(ce_ HB hw371_0),(ce_ HB hw371_1),(ce_ HB hw372_0),(ce_ HB hw372_1)⟩ (fun hHeld=>?_);refine with_tabW laws_eqInsS.tab6 laws_eqInsS.bits6 (fun HT_ HW_=>?_)
        generalize wr.drew=w9 at HB hx371_0 hx371_1 hx372_0 hx372_1 hHeld ⊢
        refine pure_ (i:=0) (N:=some 17) (v:=?_) (a':=?_) #[true,false,false,false,false,false,false,false,false,false] rfl rfl (any_of HT_.out (by kernel_rfl)) (fun _ _ _ h=>h) (Or.inl ⟨by rfl,?_⟩) ?_ ?_
        rotate_left
        ·
         intro w'
         go_simp
         with_reducible rfl
        rotate_left
        ·
         simp only[Act.put,List.setIfInBounds_toArray,List.set_cons_zero,List.set_cons_succ,i64_w,i32_w]
         rfl
        refine pure_ (i:=1) (N:=some 18) (v:=?_) (a':=?_) #[true,true,false,false,false,false,false,false,false,false] rfl rfl (any_of HT_.out (by kernel_rfl)) (fun _ _ _ h=>h) (Or.inl ⟨by rfl,?_⟩) ?_ ?_
        rotate_left
        ·
         intro w'
         go_simp
         with_reducible rfl
        rotate_left
        ·
         simp only[Act.put,List.setIfInBounds_toArray,List.set_cons_zero,List.set_cons_succ,i64_w,i32_w]
         rfl
        refine pure_ (i:=2) (N:=some 19) (v:=?_) (a':=?_) #[true,true,true,false,false,false,false,false,false,false] rfl rfl (any_of HT_.out (by kernel_rfl)) (fun _ _ _ h=>h) (Or.inl ⟨by rfl,?_⟩) ?_ ?_
        rotate_left
        ·
         intro w'
         go_simp
         with_reducible rfl
        rotate_left
        ·
         simp only[Act.put,List.setIfInBounds_toArray,List.set_cons_zero,List.set_cons_succ,i64_w,i32_w]
         rfl
        refine pure_ (i:=4) (N:=some 21) (v:=?_) (a':=?_) #[true,true,true,false,true,false,false,false,false,false] rfl rfl (any_of HT_.out (by kernel_rfl)) (fun _ _ _ h=>h) (Or.inl ⟨by rfl,?_⟩) ?_ ?_
        rotate_left
        ·
         intro w'
         go_simp
         with_reducible rfl
        rotate_left
        ·
         simp only[Act.put,List.setIfInBounds_toArray,List.set_cons_zero,List.set_cons_succ,i64_w,i32_w]
         rfl
        refine pure_ (i:=5) (N:=some 22) (v:=?_) (a':=?_) #[true,true,true,false,true,true,false,false,false,false] rfl rfl (any_of HT_.out (by kernel_rfl)) (fun _ _ _ h=>h) (Or.inl ⟨by rfl,?_⟩) ?_ ?_
        rotate_left
        ·
         intro w'
         go_simp
         with_reducible rfl
        rotate_left
        ·
         simp only[Act.put,List.setIfInBounds_toArray,List.set_cons_zero,List.set_cons_succ,i64_w,i32_w]
         rfl
        refine pure_ (i:=6) (N:=some 23) (v:=?_) (a':=?_) #[true,true,true,false,true,true,true,false,false,false] rfl rfl (any_of HT_.out (by kernel_rfl)) (fun _ _ _ h=>h) (Or.inl ⟨by rfl,?_⟩) ?_ ?_
        rotate_left
        ·
         intro w'
         go_simp
         with_reducible rfl
        rotate_left
        ·
         simp only[Act.put,List.setIfInBounds_toArray,List.set_cons_zero,List.set_cons_succ,i64_w,i32_w]
         rfl
        refine take_ (i:=3) (N:=some 20) (v:=?_) (a':=?_) #[true,true,true,true,true,true,true,false,false,false] rfl rfl (take_ofW HT_.out HW_.out (by kernel_rfl)) (fun _ _ _ h=>h) (Or.inl ⟨by rfl,?_⟩) hHeld ?_ ?_
        rotate_left
        ·
         rintro w' ⟨s0,s1,s2,s3⟩
         go_simp
         with_reducible rfl
        rotate_left
        ·
         simp only[Act.put,List.setIfInBounds_toArray,List.set_cons_zero,List.set_cons_succ,i64_w,i32_w]
         rfl
        refine take_ (i:=7) (N:=some 24) (v:=?_) (a':=?_) #[true,true,true,true,true,true,true,true,false,false] rfl rfl (take_ofW HT_.out HW_.out (by kernel_rfl)) (fun _ _ _ h=>h) (Or.inl ⟨by rfl,?_⟩) hHeld ?_ ?_
        rotate_left
        ·
         rintro w' ⟨s0,s1,s2,s3⟩
         go_simp
         with_reducible rfl
        rotate_left
        ·
         simp only[Act.put,List.setIfInBounds_toArray,List.set_cons_zero,List.set_cons_succ,i64_w,i32_w]
         rfl
        refine one_ (i:=8) (N:=some 25) #[true,true,true,true,true,true,true,true,true,false] rfl rfl (one_of HT_.out (by kernel_rfl)) (by decide) (fun K hK=>?_)
        refine goes_ Try.func79 (by kernel_rfl) rfl #[.agg #[.int .i64 ((rd_T71 l0 x5_1).f0),.int .i64 ((rd_T71 l0 x5_1).f1)],.agg #[.int .i64 ((rd_T71 l1 x5_1).f0),.int .i64 ((rd_T71 l1 x5_1).f1)]] (by rfl) rfl rfl ar ?_
        with_reducible refine(laws_eqIns.calls ((rd_T71 l0 x5_1).f0) ((rd_T71 l0 x5_1).f1) ((rd_T71 l1 x5_1).f0) ((rd_T71 l1 x5_1).f1) true _ A7.out).mono ?_
        rintro e w10 ⟨rfl,hb⟩
        refine⟨_,rfl,?_⟩
        have n0_:=A_ (below_step (bw HB.out) hb)
        clear HB
        have HB:=n0_
        clear n0_
        (try clear hb)
        (try clear hb2)
        (try clear hk)
        (try clear hi)
        refine hK.out _ _ ⟨(ce_ HB hw371_0),(ce_ HB hw371_1),(ce_ HB hw372_0),(ce_ HB hw372_1)⟩ (fun hHeld=>?_)
        clear hK K
        refine norm_ (a':=?_) ?_ ?_
        rotate_left
        ·
         show Act.put _ (some 25) _=_
         simp only[Act.put,List.setIfInBounds_toArray,List.set_cons_zero,List.set_cons_succ,i64_w,i32_w]
         rfl
        refine pure_ (i:=9) (N:=some 26) (v:=?_) (a':=?_) #[true,true,true,true,true,true,true,true,true,true] rfl rfl (any_of HT_.out (by kernel_rfl)) (fun _ _ _ h=>h) (Or.inl ⟨by rfl,?_⟩) ?_ ?_
        rotate_left
        ·
         intro w'
         go_simp
         with_reducible rfl
        rotate_left
        ·
         simp only[Act.put,List.setIfInBounds_toArray,List.set_cons_zero,List.set_cons_succ,i64_w,i32_w]
         rfl
        refine done_ (done_of HT_.out (by kernel_rfl)) ?_
        try go_wp2
        go_roundg k1
        case measure=>have:=HK1.out;omega
        case rel=>exact⟨(wrap64 (x5_1+1)),rs_,H',⟨by have:=HK1.out;omega⟩,⟨bw HB.out⟩⟩
       replace c8:=Bool.eq_false_iff.mpr c8
       subst c8
       replace H:=iF_ H
       obtain rfl:=Option.some.inj H
       clear H
       try go_wp2
       have n0_:=A_ (below_drew1 HB.out)
       clear HB
       have HB:=n0_
       clear n0_
       have p371:0≤(x5_1:Int):=od_
       have q371:x5_1<(l0.length:Int):=od_
       obtain⟨ad371,e371,hx371_0,hx371_1⟩:=at_T71 HR0.out x5_1 p371 q371
       have hw371_1:=hx371_1
       have hw371_0:=hx371_0
       cases e371
       replace hx371_0:=cl_ HB.out hx371_0
       replace hx371_1:=cl_ HB.out hx371_1
       replace p371:=eq_true p371
       replace q371:=eq_true q371
       have p372:0≤(x5_1:Int):=od_
       have q372:x5_1<(l1.length:Int):=od_
       obtain⟨ad372,e372,hx372_0,hx372_1⟩:=at_T71 HR1.out x5_1 p372 q372
       have hw372_1:=hx372_1
       have hw372_0:=hx372_0
       cases e372
       replace hx372_0:=cl_ HB.out hx372_0
       replace hx372_1:=cl_ HB.out hx372_1
       replace p372:=eq_true p372
       replace q372:=eq_true q372
       refine start_ (n:=10) (S:=fun w'=>w'.cell? (ad371.add ((x5_1).toNat*2))=some (.int .i64 ((rd_T71 l0 x5_1).f0))∧w'.cell? ⟨(ad371.add ((x5_1).toNat*2)).block,(ad371.add ((x5_1).toNat*2)).off+1,none⟩=some (.int .i64 ((rd_T71 l0 x5_1).f1))∧w'.cell? (ad372.add ((x5_1).toNat*2))=some (.int .i64 ((rd_T71 l1 x5_1).f0))∧w'.cell? ⟨(ad372.add ((x5_1).toNat*2)).block,(ad372.add ((x5_1).toNat*2)).off+1,none⟩=some (.int .i64 ((rd_T71 l1 x5_1).f1))) (ds:=[]) #[false,false,false,false,false,false,false,false,false,false] (by kernel_rfl) rfl rfl ⟨(ce_ HB hw371_0),(ce_ HB hw371_1),(ce_ HB hw372_0),(ce_ HB hw372_1)⟩ (fun hHeld=>?_);refine with_tabW laws_eqInsS.tab6 laws_eqInsS.bits6 (fun HT_ HW_=>?_)
       generalize wr.drew=w11 at HB hx371_0 hx371_1 hx372_0 hx372_1 hHeld ⊢
       refine pure_ (i:=0) (N:=some 17) (v:=?_) (a':=?_) #[true,false,false,false,false,false,false,false,false,false] rfl rfl (any_of HT_.out (by kernel_rfl)) (fun _ _ _ h=>h) (Or.inl ⟨by rfl,?_⟩) ?_ ?_
       rotate_left
       ·
        intro w'
        go_simp
        with_reducible rfl
       rotate_left
       ·
        simp only[Act.put,List.setIfInBounds_toArray,List.set_cons_zero,List.set_cons_succ,i64_w,i32_w]
        rfl
       refine pure_ (i:=1) (N:=some 18) (v:=?_) (a':=?_) #[true,true,false,false,false,false,false,false,false,false] rfl rfl (any_of HT_.out (by kernel_rfl)) (fun _ _ _ h=>h) (Or.inl ⟨by rfl,?_⟩) ?_ ?_
       rotate_left
       ·
        intro w'
        go_simp
        with_reducible rfl
       rotate_left
       ·
        simp only[Act.put,List.setIfInBounds_toArray,List.set_cons_zero,List.set_cons_succ,i64_w,i32_w]
        rfl
       refine pure_ (i:=2) (N:=some 19) (v:=?_) (a':=?_) #[true,true,true,false,false,false,false,false,false,false] rfl rfl (any_of HT_.out (by kernel_rfl)) (fun _ _ _ h=>h) (Or.inl ⟨by rfl,?_⟩) ?_ ?_
       rotate_left
       ·
        intro w'
        go_simp
        with_reducible rfl
       rotate_left
       ·
        simp only[Act.put,List.setIfInBounds_toArray,List.set_cons_zero,List.set_cons_succ,i64_w,i32_w]
        rfl
       refine pure_ (i:=4) (N:=some 21) (v:=?_) (a':=?_) #[true,true,true,false,true,false,false,false,false,false] rfl rfl (any_of HT_.out (by kernel_rfl)) (fun _ _ _ h=>h) (Or.inl ⟨by rfl,?_⟩) ?_ ?_
       rotate_left
       ·
        intro w'
        go_simp
        with_reducible rfl
       rotate_left
       ·
        simp only[Act.put,List.setIfInBounds_toArray,List.set_cons_zero,List.set_cons_succ,i64_w,i32_w]
        rfl
       refine pure_ (i:=5) (N:=some 22) (v:=?_) (a':=?_) #[true,true,true,false,true,true,false,false,false,false] rfl rfl (any_of HT_.out (by kernel_rfl)) (fun _ _ _ h=>h) (Or.inl ⟨by rfl,?_⟩) ?_ ?_
       rotate_left
       ·
        intro w'
        go_simp
        with_reducible rfl
       rotate_left
       ·
        simp only[Act.put,List.setIfInBounds_toArray,List.set_cons_zero,List.set_cons_succ,i64_w,i32_w]
        rfl
       refine pure_ (i:=6) (N:=some 23) (v:=?_) (a':=?_) #[true,true,true,false,true,true,true,false,false,false] rfl rfl (any_of HT_.out (by kernel_rfl)) (fun _ _ _ h=>h) (Or.inl ⟨by rfl,?_⟩) ?_ ?_
       rotate_left
       ·
        intro w'
        go_simp
        with_reducible rfl
       rotate_left
       ·
        simp only[Act.put,List.setIfInBounds_toArray,List.set_cons_zero,List.set_cons_succ,i64_w,i32_w]
        rfl
       refine take_ (i:=3) (N:=some 20) (v:=?_) (a':=?_) #[true,true,true,true,true,true,true,false,false,false] rfl rfl (take_ofW HT_.out HW_.out (by kernel_rfl)) (fun _ _ _ h=>h) (Or.inl ⟨by rfl,?_⟩) hHeld ?_ ?_
       rotate_left
       ·
        rintro w' ⟨s0,s1,s2,s3⟩
        go_simp
        with_reducible rfl
       rotate_left
       ·
        simp only[Act.put,List.setIfInBounds_toArray,List.set_cons_zero,List.set_cons_succ,i64_w,i32_w]
        rfl
       refine take_ (i:=7) (N:=some 24) (v:=?_) (a':=?_) #[true,true,true,true,true,true,true,true,false,false] rfl rfl (take_ofW HT_.out HW_.out (by kernel_rfl)) (fun _ _ _ h=>h) (Or.inl ⟨by rfl,?_⟩) hHeld ?_ ?_
       rotate_left
       ·
        rintro w' ⟨s0,s1,s2,s3⟩
        go_simp
        with_reducible rfl
       rotate_left
       ·
        simp only[Act.put,List.setIfInBounds_toArray,List.set_cons_zero,List.set_cons_succ,i64_w,i32_w]
        rfl
       refine one_ (i:=8) (N:=some 25) #[true,true,true,true,true,true,true,true,true,false] rfl rfl (one_of HT_.out (by kernel_rfl)) (by decide) (fun K hK=>?_)
       refine goes_ Try.func79 (by kernel_rfl) rfl #[.agg #[.int .i64 ((rd_T71 l0 x5_1).f0),.int .i64 ((rd_T71 l0 x5_1).f1)],.agg #[.int .i64 ((rd_T71 l1 x5_1).f0),.int .i64 ((rd_T71 l1 x5_1).f1)]] (by rfl) rfl rfl ar ?_
       with_reducible refine(laws_eqIns.calls ((rd_T71 l0 x5_1).f0) ((rd_T71 l0 x5_1).f1) ((rd_T71 l1 x5_1).f0) ((rd_T71 l1 x5_1).f1) false _ A7.out).mono ?_
       rintro e w12 ⟨rfl,hb⟩
       refine⟨_,rfl,?_⟩
       have n0_:=A_ (below_step (bw HB.out) hb)
       clear HB
       have HB:=n0_
       clear n0_
       (try clear hb)
       (try clear hb2)
       (try clear hk)
       (try clear hi)
       refine hK.out _ _ ⟨(ce_ HB hw371_0),(ce_ HB hw371_1),(ce_ HB hw372_0),(ce_ HB hw372_1)⟩ (fun hHeld=>?_)
       clear hK K
       refine norm_ (a':=?_) ?_ ?_
       rotate_left
       ·
        show Act.put _ (some 25) _=_
        simp only[Act.put,List.setIfInBounds_toArray,List.set_cons_zero,List.set_cons_succ,i64_w,i32_w]
        rfl
       refine pure_ (i:=9) (N:=some 26) (v:=?_) (a':=?_) #[true,true,true,true,true,true,true,true,true,true] rfl rfl (any_of HT_.out (by kernel_rfl)) (fun _ _ _ h=>h) (Or.inl ⟨by rfl,?_⟩) ?_ ?_
       rotate_left
       ·
        intro w'
        go_simp
        with_reducible rfl
       rotate_left
       ·
        simp only[Act.put,List.setIfInBounds_toArray,List.set_cons_zero,List.set_cons_succ,i64_w,i32_w]
        rfl
       refine done_ (done_of HT_.out (by kernel_rfl)) ?_
       try go_wp2
       go_ret
       exact⟨rr_,bw HB.out⟩
      rw[if_neg c6] at H
      exact absurd H (by simp)
     rw[if_neg c5] at H
     exact absurd H (by simp)
    rw[if_neg c4] at H
    have c4b0:=decide_eq_false c4
    clear c4
    obtain rfl:=Option.some.inj H
    clear H
    go_wp2
    go_ret
    exact⟨rr_,bw HB.out⟩
 rw[if_neg c3] at H
 obtain⟨c3b0,c3b1⟩:=eF_ c3
 have c3b2:(l0.length==l1.length)=false:=by first|simpa using c3|(simp at c3 ⊢;omega)
 obtain rfl:=Option.some.inj H
 clear H
 go_enter Try.func62,Try.ntmps62
 go_wp2
 go_ret
 exact⟨rr_,bw HB.out⟩

/-! ### laws_eqFunc: function 36 -/
def laws_eqFunc.f (k:Nat) (l0_0:List Int) (a0_1:Int) (l0_2:List Int) (l0_3:List (S71)) (l1_0:List Int) (a1_1:Int) (l1_2:List Int) (l1_3:List (S71)):Option (Bool):=(laws_eqIntS.f k l0_0 l1_0).bind fun t376=>(if t376=true then (if a0_1=a1_1 then ((laws_eqIntS.f k l0_2 l1_2).bind fun t377=>(if t377=true then ((laws_eqInsS.f k l0_3 l1_3).bind fun t378=>(if t378=true then (some true) else (some false))) else (some false))) else (some false)) else (some false))
theorem laws_eqFunc.calls (k:Nat) (A0_0:Option Addr) (c0_0:Nat) (l0_0:List Int) (a0_1:Int) (A0_2:Option Addr) (c0_2:Nat) (l0_2:List Int) (A0_3:Option Addr) (c0_3:Nat) (l0_3:List (S71)) (A1_0:Option Addr) (c1_0:Nat) (l1_0:List Int) (a1_1:Int) (A1_2:Option Addr) (c1_2:Nat) (l1_2:List Int) (A1_3:Option Addr) (c1_3:Nat) (l1_3:List (S71)) (r:Bool) (w:World) (hr0_0:Kd.C (Kd.int .i64) w A0_0 l0_0.length l0_0) (hc0_0:l0_0.length≤c0_0) (hr0_2:Kd.C (Kd.int .i64) w A0_2 l0_2.length l0_2) (hc0_2:l0_2.length≤c0_2) (hr0_3:Kd.C k71 w A0_3 l0_3.length l0_3) (hc0_3:l0_3.length≤c0_3) (hr1_0:Kd.C (Kd.int .i64) w A1_0 l1_0.length l1_0) (hc1_0:l1_0.length≤c1_0) (hr1_2:Kd.C (Kd.int .i64) w A1_2 l1_2.length l1_2) (hc1_2:l1_2.length≤c1_2) (hr1_3:Kd.C k71 w A1_3 l1_3.length l1_3) (hc1_3:l1_3.length≤c1_3) (h:laws_eqFunc.f k l0_0 a0_1 l0_2 l0_3 l1_0 a1_1 l1_2 l1_3=some r):
  Calls Try.prog 36 #[.agg #[.slice A0_0 l0_0.length c0_0,.int .i64 a0_1,.slice A0_2 l0_2.length c0_2,.slice A0_3 l0_3.length c0_3],.agg #[.slice A1_0 l1_0.length c1_0,.int .i64 a1_1,.slice A1_2 l1_2.length c1_2,.slice A1_3 l1_3.length c1_3]] w fun e w'=>e=.returned (.bool r)∧Below w.heap.size w w':=by
 have hu59:=Try.underlying59
 have HR0_0:=A_ hr0_0
 have HC0_0:=A_ hc0_0
 clear hr0_0 hc0_0
 have HR0_2:=A_ hr0_2
 have HC0_2:=A_ hc0_2
 clear hr0_2 hc0_2
 have HR0_3:=A_ hr0_3
 have HC0_3:=A_ hc0_3
 clear hr0_3 hc0_3
 have HR1_0:=A_ hr1_0
 have HC1_0:=A_ hc1_0
 clear hr1_0 hc1_0
 have HR1_2:=A_ hr1_2
 have HC1_2:=A_ hc1_2
 clear hr1_2 hc1_2
 have HR1_3:=A_ hr1_3
 have HC1_3:=A_ hc1_3
 clear hr1_3 hc1_3
 have HB:=A_ (Below.refl w.heap.size w)
 have H:((laws_eqIntS.f k l0_0 l1_0).bind fun t376=>(if t376=true then (if a0_1=a1_1 then ((laws_eqIntS.f k l0_2 l1_2).bind fun t377=>(if t377=true then ((laws_eqInsS.f k l0_3 l1_3).bind fun t378=>(if t378=true then (some true) else (some false))) else (some false))) else (some false)) else (some false)))=some r:=h
 clear h
 replace H:=bi_ H
 obtain⟨t376,A30,H⟩:=H
 have A3:=A_ A30
 clear A30
 by_cases c4:t376=true
 ·
  subst c4
  replace H:=iT_ H
  by_cases c5:a0_1=a1_1
  ·
   rw[if_pos c5] at H
   obtain⟨c5b0,c5b1⟩:=eT_ c5
   clear c5
   replace H:=bi_ H
   obtain⟨t377,A60,H⟩:=H
   have A6:=A_ A60
   clear A60
   by_cases c7:t377=true
   ·
    subst c7
    replace H:=iT_ H
    replace H:=bi_ H
    obtain⟨t378,A80,H⟩:=H
    have A8:=A_ A80
    clear A80
    by_cases c9:t378=true
    ·
     subst c9
     replace H:=iT_ H
     obtain rfl:=Option.some.inj H
     clear H
     go_enter Try.func36,Try.ntmps36
     go_wp2_with (first|((with_reducible refine gd_ 2 rfl ?_);refine bx_ #[.slice A0_0 l0_0.length c0_0,.int .i64 a0_1,.slice A0_2 l0_2.length c0_2,.slice A0_3 l0_3.length c0_3] 59 ?_;intro gb374 hg w10 hbox hb;have BK374:=A_ hbox;have GW374:=gw_ hg HB;have GE374:=GW374;replace HB:=bs_ HB hb;clear hb hbox hg)|((with_reducible refine gd_ 3 rfl ?_);refine bx_ #[.slice A1_0 l1_0.length c1_0,.int .i64 a1_1,.slice A1_2 l1_2.length c1_2,.slice A1_3 l1_3.length c1_3] 59 ?_;intro gb375 hg w11 hbox hb;have BK375:=A_ hbox;have GW375:=gw_ hg HB;have GE375:=GW375;obtain⟨NB374_375,NB375_374⟩:=nb_ BK374 hg;replace BK374:=kb_ BK374 hb;replace HB:=bs_ HB hb;clear hb hbox hg;have hnb12:=NB374_375.out;have hnc12:=NB375_374.out;obtain⟨hcz13_0,hcz13_1,hcz13_2,hcz13_3⟩:=cs4_ BK374.out;obtain⟨hfz13_0,hfz13_1,hfz13_2,hfz13_3⟩:=fz4_ BK374.out;obtain⟨hcz14_0,hcz14_1,hcz14_2,hcz14_3⟩:=cs4_ BK375.out;obtain⟨hfz14_0,hfz14_1,hfz14_2,hfz14_3⟩:=fz4_ BK375.out)|((with_reducible refine gc_ 61 rfl ?_);refine gn_ (some 9) Try.func61 (laws_eqIntS.calls k _ _ l0_0 _ _ l1_0 true _ (cb_ HR0_0 HB) HC0_0.out (cb_ HR1_0 HB) HC1_0.out A3.out) ?_;intro nd)|((with_reducible refine gc_ 61 rfl ?_);refine gn_ (some 20) Try.func61 (laws_eqIntS.calls k _ _ l0_2 _ _ l1_2 true _ (cb_ HR0_2 HB) HC0_2.out (cb_ HR1_2 HB) HC1_2.out A6.out) ?_;intro nd)|((with_reducible refine gc_ 62 rfl ?_);refine gm_ (some 26) Try.func62 (laws_eqInsS.calls k _ _ l0_3 _ _ l1_3 true _ (cb_ HR0_3 HB) HC0_3.out (cb_ HR1_3 HB) HC1_3.out A8.out) ?_;intro w15 hb;replace BK374:=kb_ BK374 hb;replace BK375:=kb_ BK375 hb;replace HB:=bs_ HB hb;(try clear hb)))
     go_ret
     exact⟨rr_,bw HB.out⟩
    replace c9:=Bool.eq_false_iff.mpr c9
    subst c9
    replace H:=iF_ H
    obtain rfl:=Option.some.inj H
    clear H
    go_enter Try.func36,Try.ntmps36
    go_wp2_with (first|((with_reducible refine gd_ 2 rfl ?_);refine bx_ #[.slice A0_0 l0_0.length c0_0,.int .i64 a0_1,.slice A0_2 l0_2.length c0_2,.slice A0_3 l0_3.length c0_3] 59 ?_;intro gb374 hg w16 hbox hb;have BK374:=A_ hbox;have GW374:=gw_ hg HB;have GE374:=GW374;replace HB:=bs_ HB hb;clear hb hbox hg)|((with_reducible refine gd_ 3 rfl ?_);refine bx_ #[.slice A1_0 l1_0.length c1_0,.int .i64 a1_1,.slice A1_2 l1_2.length c1_2,.slice A1_3 l1_3.length c1_3] 59 ?_;intro gb375 hg w17 hbox hb;have BK375:=A_ hbox;have GW375:=gw_ hg HB;have GE375:=GW375;obtain⟨NB374_375,NB375_374⟩:=nb_ BK374 hg;replace BK374:=kb_ BK374 hb;replace HB:=bs_ HB hb;clear hb hbox hg;have hnb18:=NB374_375.out;have hnc18:=NB375_374.out;obtain⟨hcz19_0,hcz19_1,hcz19_2,hcz19_3⟩:=cs4_ BK374.out;obtain⟨hfz19_0,hfz19_1,hfz19_2,hfz19_3⟩:=fz4_ BK374.out;obtain⟨hcz20_0,hcz20_1,hcz20_2,hcz20_3⟩:=cs4_ BK375.out;obtain⟨hfz20_0,hfz20_1,hfz20_2,hfz20_3⟩:=fz4_ BK375.out)|((with_reducible refine gc_ 61 rfl ?_);refine gn_ (some 9) Try.func61 (laws_eqIntS.calls k _ _ l0_0 _ _ l1_0 true _ (cb_ HR0_0 HB) HC0_0.out (cb_ HR1_0 HB) HC1_0.out A3.out) ?_;intro nd)|((with_reducible refine gc_ 61 rfl ?_);refine gn_ (some 20) Try.func61 (laws_eqIntS.calls k _ _ l0_2 _ _ l1_2 true _ (cb_ HR0_2 HB) HC0_2.out (cb_ HR1_2 HB) HC1_2.out A6.out) ?_;intro nd)|((with_reducible refine gc_ 62 rfl ?_);refine gm_ (some 26) Try.func62 (laws_eqInsS.calls k _ _ l0_3 _ _ l1_3 false _ (cb_ HR0_3 HB) HC0_3.out (cb_ HR1_3 HB) HC1_3.out A8.out) ?_;intro w21 hb;replace BK374:=kb_ BK374 hb;replace BK375:=kb_ BK375 hb;replace HB:=bs_ HB hb;(try clear hb)))
    go_ret
    exact⟨rr_,bw HB.out⟩
   replace c7:=Bool.eq_false_iff.mpr c7
   subst c7
   replace H:=iF_ H
   obtain rfl:=Option.some.inj H
   clear H
   go_enter Try.func36,Try.ntmps36
   go_wp2_with (first|((with_reducible refine gd_ 2 rfl ?_);refine bx_ #[.slice A0_0 l0_0.length c0_0,.int .i64 a0_1,.slice A0_2 l0_2.length c0_2,.slice A0_3 l0_3.length c0_3] 59 ?_;intro gb374 hg w22 hbox hb;have BK374:=A_ hbox;have GW374:=gw_ hg HB;have GE374:=GW374;replace HB:=bs_ HB hb;clear hb hbox hg)|((with_reducible refine gd_ 3 rfl ?_);refine bx_ #[.slice A1_0 l1_0.length c1_0,.int .i64 a1_1,.slice A1_2 l1_2.length c1_2,.slice A1_3 l1_3.length c1_3] 59 ?_;intro gb375 hg w23 hbox hb;have BK375:=A_ hbox;have GW375:=gw_ hg HB;have GE375:=GW375;obtain⟨NB374_375,NB375_374⟩:=nb_ BK374 hg;replace BK374:=kb_ BK374 hb;replace HB:=bs_ HB hb;clear hb hbox hg;have hnb24:=NB374_375.out;have hnc24:=NB375_374.out;obtain⟨hcz25_0,hcz25_1,hcz25_2,hcz25_3⟩:=cs4_ BK374.out;obtain⟨hfz25_0,hfz25_1,hfz25_2,hfz25_3⟩:=fz4_ BK374.out;obtain⟨hcz26_0,hcz26_1,hcz26_2,hcz26_3⟩:=cs4_ BK375.out;obtain⟨hfz26_0,hfz26_1,hfz26_2,hfz26_3⟩:=fz4_ BK375.out)|((with_reducible refine gc_ 61 rfl ?_);refine gn_ (some 9) Try.func61 (laws_eqIntS.calls k _ _ l0_0 _ _ l1_0 true _ (cb_ HR0_0 HB) HC0_0.out (cb_ HR1_0 HB) HC1_0.out A3.out) ?_;intro nd)|((with_reducible refine gc_ 61 rfl ?_);refine gn_ (some 20) Try.func61 (laws_eqIntS.calls k _ _ l0_2 _ _ l1_2 false _ (cb_ HR0_2 HB) HC0_2.out (cb_ HR1_2 HB) HC1_2.out A6.out) ?_;intro nd))
   go_ret
   exact⟨rr_,bw HB.out⟩
  rw[if_neg c5] at H
  obtain⟨c5b0,c5b1⟩:=eF_ c5
  obtain rfl:=Option.some.inj H
  clear H
  go_enter Try.func36,Try.ntmps36
  go_wp2_with (first|((with_reducible refine gd_ 2 rfl ?_);refine bx_ #[.slice A0_0 l0_0.length c0_0,.int .i64 a0_1,.slice A0_2 l0_2.length c0_2,.slice A0_3 l0_3.length c0_3] 59 ?_;intro gb374 hg w27 hbox hb;have BK374:=A_ hbox;have GW374:=gw_ hg HB;have GE374:=GW374;replace HB:=bs_ HB hb;clear hb hbox hg)|((with_reducible refine gd_ 3 rfl ?_);refine bx_ #[.slice A1_0 l1_0.length c1_0,.int .i64 a1_1,.slice A1_2 l1_2.length c1_2,.slice A1_3 l1_3.length c1_3] 59 ?_;intro gb375 hg w28 hbox hb;have BK375:=A_ hbox;have GW375:=gw_ hg HB;have GE375:=GW375;obtain⟨NB374_375,NB375_374⟩:=nb_ BK374 hg;replace BK374:=kb_ BK374 hb;replace HB:=bs_ HB hb;clear hb hbox hg;have hnb29:=NB374_375.out;have hnc29:=NB375_374.out;obtain⟨hcz30_0,hcz30_1,hcz30_2,hcz30_3⟩:=cs4_ BK374.out;obtain⟨hfz30_0,hfz30_1,hfz30_2,hfz30_3⟩:=fz4_ BK374.out;obtain⟨hcz31_0,hcz31_1,hcz31_2,hcz31_3⟩:=cs4_ BK375.out;obtain⟨hfz31_0,hfz31_1,hfz31_2,hfz31_3⟩:=fz4_ BK375.out)|((with_reducible refine gc_ 61 rfl ?_);refine gn_ (some 9) Try.func61 (laws_eqIntS.calls k _ _ l0_0 _ _ l1_0 true _ (cb_ HR0_0 HB) HC0_0.out (cb_ HR1_0 HB) HC1_0.out A3.out) ?_;intro nd))
  go_ret
  exact⟨rr_,bw HB.out⟩
 replace c4:=Bool.eq_false_iff.mpr c4
 subst c4
 replace H:=iF_ H
 obtain rfl:=Option.some.inj H
 clear H
 go_enter Try.func36,Try.ntmps36
 go_wp2_with (first|((with_reducible refine gd_ 2 rfl ?_);refine bx_ #[.slice A0_0 l0_0.length c0_0,.int .i64 a0_1,.slice A0_2 l0_2.length c0_2,.slice A0_3 l0_3.length c0_3] 59 ?_;intro gb374 hg w32 hbox hb;have BK374:=A_ hbox;have GW374:=gw_ hg HB;have GE374:=GW374;replace HB:=bs_ HB hb;clear hb hbox hg)|((with_reducible refine gd_ 3 rfl ?_);refine bx_ #[.slice A1_0 l1_0.length c1_0,.int .i64 a1_1,.slice A1_2 l1_2.length c1_2,.slice A1_3 l1_3.length c1_3] 59 ?_;intro gb375 hg w33 hbox hb;have BK375:=A_ hbox;have GW375:=gw_ hg HB;have GE375:=GW375;obtain⟨NB374_375,NB375_374⟩:=nb_ BK374 hg;replace BK374:=kb_ BK374 hb;replace HB:=bs_ HB hb;clear hb hbox hg;have hnb34:=NB374_375.out;have hnc34:=NB375_374.out;obtain⟨hcz35_0,hcz35_1,hcz35_2,hcz35_3⟩:=cs4_ BK374.out;obtain⟨hfz35_0,hfz35_1,hfz35_2,hfz35_3⟩:=fz4_ BK374.out;obtain⟨hcz36_0,hcz36_1,hcz36_2,hcz36_3⟩:=cs4_ BK375.out;obtain⟨hfz36_0,hfz36_1,hfz36_2,hfz36_3⟩:=fz4_ BK375.out)|((with_reducible refine gc_ 61 rfl ?_);refine gn_ (some 9) Try.func61 (laws_eqIntS.calls k _ _ l0_0 _ _ l1_0 false _ (cb_ HR0_0 HB) HC0_0.out (cb_ HR1_0 HB) HC1_0.out A3.out) ?_;intro nd))
 go_ret
 exact⟨rr_,bw HB.out⟩

/-! ### laws_eqFuncS: function 24 -/
def laws_eqFuncS.l0:Nat→List (S59)→List (S59)→Int→Option (Bool)
 |0,_,_,_=>none
 |k+1,x0,x1,x5=>if x5<(x0.length:Int) then (if 0≤x5 then (if x5<(x1.length:Int) then ((laws_eqFunc.f k ((rd_T59 x0 x5).f0) ((rd_T59 x0 x5).f1) ((rd_T59 x0 x5).f2) ((rd_T59 x0 x5).f3) ((rd_T59 x1 x5).f0) ((rd_T59 x1 x5).f1) ((rd_T59 x1 x5).f2) ((rd_T59 x1 x5).f3)).bind fun t381=>(if t381=true then (laws_eqFuncS.l0 k x0 x1 (wrap64 (x5+1))) else (some false))) else (none)) else (none)) else (some true)
def laws_eqFuncS.f (k:Nat) (l0:List (S59)) (l1:List (S59)):Option (Bool):=if (l0.length:Int)=(l1.length:Int) then (laws_eqFuncS.l0 k l0 l1 0) else (some false)
def laws_eqFuncS.T6:Bool × List (List Nat × List Nat):=(true,[([],[]),([],[]),([0,1],[0,1]),([2],[2]),([],[]),([],[]),([4,5],[4,5]),([6],[6]),([3,7],[3,7]),([8],[8])])
def laws_eqFuncS.B6:List Nat:=[0,0,3,7,0,0,48,112,255,511]
theorem laws_eqFuncS.tab6:rtab .any (opsOf Try.f24 6)=laws_eqFuncS.T6:=by kernel_rfl
theorem laws_eqFuncS.bits6:waitsOk laws_eqFuncS.T6.2 laws_eqFuncS.B6=true:=by kernel_rfl
theorem laws_eqFuncS.calls (k:Nat) (A0:Option Addr) (c0:Nat) (l0:List (S59)) (A1:Option Addr) (c1:Nat) (l1:List (S59)) (r:Bool) (w:World) (hr0:Kd.C k59 w A0 l0.length l0) (hc0:l0.length≤c0) (hr1:Kd.C k59 w A1 l1.length l1) (hc1:l1.length≤c1) (h:laws_eqFuncS.f k l0 l1=some r):
  Calls Try.prog 24 #[.slice A0 l0.length c0,.slice A1 l1.length c1] w fun e w'=>e=.returned (.bool r)∧Below w.heap.size w w':=by
 have hu59:=Try.underlying59
 have HR0:=A_ hr0
 have HC0:=A_ hc0
 clear hr0 hc0
 have HR1:=A_ hr1
 have HC1:=A_ hc1
 clear hr1 hc1
 have HB:=A_ (Below.refl w.heap.size w)
 have H:(if (l0.length:Int)=(l1.length:Int) then (laws_eqFuncS.l0 k l0 l1 0) else (some false))=some r:=h
 clear h
 by_cases c3:(l0.length:Int)=(l1.length:Int)
 ·
  rw[if_pos c3] at H
  obtain⟨c3b0,c3b1⟩:=eT_ c3
  have c3b2:(l0.length==l1.length)=true:=by first|simpa using c3|(simp at c3 ⊢;omega)
  clear c3
  have H':=A_ H
  clear H
  go_enter Try.func24,Try.ntmps24
  go_wp2
  (try simp only[Act.put,List.setIfInBounds_toArray,List.set_cons_zero,List.set_cons_succ])
  go_loopg [5] k (fun kq v5 w'=>∃ (x5_1:Int),v5=.int .i64 x5_1∧Aside0 (laws_eqFuncS.l0 kq l0 l1 x5_1=some r)∧Aside0 (kq≤k)∧Aside0 (Below w.heap.size w w'))
  case atStart=>exact⟨(0),rs_,H',⟨Nat.le_refl _⟩,⟨bw HB.out⟩⟩
  case round=>
   clear H'
   try clear c1 c3 c3b0 c3b1 c3b2
   obtain⟨x5_1,rfl,HA,HK1,HB⟩:=hrel
   cases gk with
   |zero=>exact absurd HA.out (by simp[laws_eqFuncS.l0])
   |succ k1=>
    have H:=HA.out
    clear HA
    simp only[laws_eqFuncS.l0] at H
    by_cases c4:x5_1<(l0.length:Int)
    ·
     rw[if_pos c4] at H
     have c4b0:=decide_eq_true c4
     clear c4
     by_cases c5:0≤x5_1
     ·
      rw[if_pos c5] at H
      have c5b0:=decide_eq_true c5
      clear c5
      by_cases c6:x5_1<(l1.length:Int)
      ·
       rw[if_pos c6] at H
       have c6b0:=decide_eq_true c6
       clear c6
       replace H:=bi_ H
       obtain⟨t381,A70,H⟩:=H
       have A7:=A_ A70
       clear A70
       by_cases c8:t381=true
       ·
        subst c8
        replace H:=iT_ H
        have H':=A_ H
        clear H
        try go_wp2
        have n0_:=A_ (below_drew1 HB.out)
        clear HB
        have HB:=n0_
        clear n0_
        have p379:0≤(x5_1:Int):=od_
        have q379:x5_1<(l0.length:Int):=od_
        obtain⟨ad379,A379_0,c379_0,A379_2,c379_2,A379_3,c379_3,e379,hx379_0,hx379_1,hx379_2,hx379_3,hl379_0,hi379_0,hl379_2,hi379_2,hl379_3,hi379_3⟩:=at_T59 HR0.out x5_1 p379 q379
        have hw379_3:=hx379_3
        have hw379_2:=hx379_2
        have hw379_1:=hx379_1
        have hw379_0:=hx379_0
        cases e379
        replace hx379_0:=cl_ HB.out hx379_0
        replace hx379_1:=cl_ HB.out hx379_1
        replace hx379_2:=cl_ HB.out hx379_2
        replace hx379_3:=cl_ HB.out hx379_3
        have HR379_0:=A_ hi379_0
        have HC379_0:=A_ hl379_0
        clear hi379_0 hl379_0
        have HR379_2:=A_ hi379_2
        have HC379_2:=A_ hl379_2
        clear hi379_2 hl379_2
        have HR379_3:=A_ hi379_3
        have HC379_3:=A_ hl379_3
        clear hi379_3 hl379_3
        replace p379:=eq_true p379
        replace q379:=eq_true q379
        have p380:0≤(x5_1:Int):=od_
        have q380:x5_1<(l1.length:Int):=od_
        obtain⟨ad380,A380_0,c380_0,A380_2,c380_2,A380_3,c380_3,e380,hx380_0,hx380_1,hx380_2,hx380_3,hl380_0,hi380_0,hl380_2,hi380_2,hl380_3,hi380_3⟩:=at_T59 HR1.out x5_1 p380 q380
        have hw380_3:=hx380_3
        have hw380_2:=hx380_2
        have hw380_1:=hx380_1
        have hw380_0:=hx380_0
        cases e380
        replace hx380_0:=cl_ HB.out hx380_0
        replace hx380_1:=cl_ HB.out hx380_1
        replace hx380_2:=cl_ HB.out hx380_2
        replace hx380_3:=cl_ HB.out hx380_3
        have HR380_0:=A_ hi380_0
        have HC380_0:=A_ hl380_0
        clear hi380_0 hl380_0
        have HR380_2:=A_ hi380_2
        have HC380_2:=A_ hl380_2
        clear hi380_2 hl380_2
        have HR380_3:=A_ hi380_3
        have HC380_3:=A_ hl380_3
        clear hi380_3 hl380_3
        replace p380:=eq_true p380
        replace q380:=eq_true q380
        refine start_ (n:=10) (S:=fun w'=>w'.cell? (ad379.add ((x5_1).toNat*4))=some (.slice A379_0 ((rd_T59 l0 x5_1).f0).length c379_0)∧w'.cell? ⟨(ad379.add ((x5_1).toNat*4)).block,(ad379.add ((x5_1).toNat*4)).off+1,none⟩=some (.int .i64 ((rd_T59 l0 x5_1).f1))∧w'.cell? ⟨(ad379.add ((x5_1).toNat*4)).block,(ad379.add ((x5_1).toNat*4)).off+2,none⟩=some (.slice A379_2 ((rd_T59 l0 x5_1).f2).length c379_2)∧w'.cell? ⟨(ad379.add ((x5_1).toNat*4)).block,(ad379.add ((x5_1).toNat*4)).off+3,none⟩=some (.slice A379_3 ((rd_T59 l0 x5_1).f3).length c379_3)∧w'.cell? (ad380.add ((x5_1).toNat*4))=some (.slice A380_0 ((rd_T59 l1 x5_1).f0).length c380_0)∧w'.cell? ⟨(ad380.add ((x5_1).toNat*4)).block,(ad380.add ((x5_1).toNat*4)).off+1,none⟩=some (.int .i64 ((rd_T59 l1 x5_1).f1))∧w'.cell? ⟨(ad380.add ((x5_1).toNat*4)).block,(ad380.add ((x5_1).toNat*4)).off+2,none⟩=some (.slice A380_2 ((rd_T59 l1 x5_1).f2).length c380_2)∧w'.cell? ⟨(ad380.add ((x5_1).toNat*4)).block,(ad380.add ((x5_1).toNat*4)).off+3,none⟩=some (.slice A380_3 ((rd_T59 l1 x5_1).f3).length c380_3)) (ds:=[]) #[false,false,false,false,false,false,false,false,false,false] (by kernel_rfl) rfl rfl ⟨(ce_ HB hw379_0),(ce_ HB hw379_1),(ce_ HB hw379_2),(ce_ HB hw379_3),(ce_ HB hw380_0),(ce_ HB hw380_1),(ce_ HB hw380_2),(ce_ HB hw380_3)⟩ (fun hHeld=>?_);refine with_tabW laws_eqFuncS.tab6 laws_eqFuncS.bits6 (fun HT_ HW_=>?_)
        generalize wr.drew=w9 at HB HR379_0 HR379_2 HR379_3 HR380_0 HR380_2 HR380_3 hx379_0 hx379_1 hx379_2 hx379_3 hx380_0 hx380_1 hx380_2 hx380_3 hHeld ⊢
        refine pure_ (i:=0) (N:=some 17) (v:=?_) (a':=?_) #[true,false,false,false,false,false,false,false,false,false] rfl rfl (any_of HT_.out (by kernel_rfl)) (fun _ _ _ h=>h) (Or.inl ⟨by rfl,?_⟩) ?_ ?_
        rotate_left
        ·
         intro w'
         go_simp
         with_reducible rfl
        rotate_left
        ·
         simp only[Act.put,List.setIfInBounds_toArray,List.set_cons_zero,List.set_cons_succ,i64_w,i32_w]
         rfl
        refine pure_ (i:=1) (N:=some 18) (v:=?_) (a':=?_) #[true,true,false,false,false,false,false,false,false,false] rfl rfl (any_of HT_.out (by kernel_rfl)) (fun _ _ _ h=>h) (Or.inl ⟨by rfl,?_⟩) ?_ ?_
        rotate_left
        ·
         intro w'
         go_simp
         with_reducible rfl
        rotate_left
        ·
         simp only[Act.put,List.setIfInBounds_toArray,List.set_cons_zero,List.set_cons_succ,i64_w,i32_w]
         rfl
        refine pure_ (i:=2) (N:=some 19) (v:=?_) (a':=?_) #[true,true,true,false,false,false,false,false,false,false] rfl rfl (any_of HT_.out (by kernel_rfl)) (fun _ _ _ h=>h) (Or.inl ⟨by rfl,?_⟩) ?_ ?_
        rotate_left
        ·
         intro w'
         go_simp
         with_reducible rfl
        rotate_left
        ·
         simp only[Act.put,List.setIfInBounds_toArray,List.set_cons_zero,List.set_cons_succ,i64_w,i32_w]
         rfl
        refine pure_ (i:=4) (N:=some 21) (v:=?_) (a':=?_) #[true,true,true,false,true,false,false,false,false,false] rfl rfl (any_of HT_.out (by kernel_rfl)) (fun _ _ _ h=>h) (Or.inl ⟨by rfl,?_⟩) ?_ ?_
        rotate_left
        ·
         intro w'
         go_simp
         with_reducible rfl
        rotate_left
        ·
         simp only[Act.put,List.setIfInBounds_toArray,List.set_cons_zero,List.set_cons_succ,i64_w,i32_w]
         rfl
        refine pure_ (i:=5) (N:=some 22) (v:=?_) (a':=?_) #[true,true,true,false,true,true,false,false,false,false] rfl rfl (any_of HT_.out (by kernel_rfl)) (fun _ _ _ h=>h) (Or.inl ⟨by rfl,?_⟩) ?_ ?_
        rotate_left
        ·
         intro w'
         go_simp
         with_reducible rfl
        rotate_left
        ·
         simp only[Act.put,List.setIfInBounds_toArray,List.set_cons_zero,List.set_cons_succ,i64_w,i32_w]
         rfl
        refine pure_ (i:=6) (N:=some 23) (v:=?_) (a':=?_) #[true,true,true,false,true,true,true,false,false,false] rfl rfl (any_of HT_.out (by kernel_rfl)) (fun _ _ _ h=>h) (Or.inl ⟨by rfl,?_⟩) ?_ ?_
        rotate_left
        ·
         intro w'
         go_simp
         with_reducible rfl
        rotate_left
        ·
         simp only[Act.put,List.setIfInBounds_toArray,List.set_cons_zero,List.set_cons_succ,i64_w,i32_w]
         rfl
        refine take_ (i:=3) (N:=some 20) (v:=?_) (a':=?_) #[true,true,true,true,true,true,true,false,false,false] rfl rfl (take_ofW HT_.out HW_.out (by kernel_rfl)) (fun _ _ _ h=>h) (Or.inl ⟨by rfl,?_⟩) hHeld ?_ ?_
        rotate_left
        ·
         rintro w' ⟨s0,s1,s2,s3,s4,s5,s6,s7⟩
         go_simp
         with_reducible rfl
        rotate_left
        ·
         simp only[Act.put,List.setIfInBounds_toArray,List.set_cons_zero,List.set_cons_succ,i64_w,i32_w]
         rfl
        refine take_ (i:=7) (N:=some 24) (v:=?_) (a':=?_) #[true,true,true,true,true,true,true,true,false,false] rfl rfl (take_ofW HT_.out HW_.out (by kernel_rfl)) (fun _ _ _ h=>h) (Or.inl ⟨by rfl,?_⟩) hHeld ?_ ?_
        rotate_left
        ·
         rintro w' ⟨s0,s1,s2,s3,s4,s5,s6,s7⟩
         go_simp
         with_reducible rfl
        rotate_left
        ·
         simp only[Act.put,List.setIfInBounds_toArray,List.set_cons_zero,List.set_cons_succ,i64_w,i32_w]
         rfl
        refine one_ (i:=8) (N:=some 25) #[true,true,true,true,true,true,true,true,true,false] rfl rfl (one_of HT_.out (by kernel_rfl)) (by decide) (fun K hK=>?_)
        refine goes_ Try.func36 (by kernel_rfl) rfl #[.agg #[.slice A379_0 ((rd_T59 l0 x5_1).f0).length c379_0,.int .i64 ((rd_T59 l0 x5_1).f1),.slice A379_2 ((rd_T59 l0 x5_1).f2).length c379_2,.slice A379_3 ((rd_T59 l0 x5_1).f3).length c379_3],.agg #[.slice A380_0 ((rd_T59 l1 x5_1).f0).length c380_0,.int .i64 ((rd_T59 l1 x5_1).f1),.slice A380_2 ((rd_T59 l1 x5_1).f2).length c380_2,.slice A380_3 ((rd_T59 l1 x5_1).f3).length c380_3]] (by rfl) rfl rfl ar ?_
        with_reducible refine(laws_eqFunc.calls k1 _ _ ((rd_T59 l0 x5_1).f0) ((rd_T59 l0 x5_1).f1) _ _ ((rd_T59 l0 x5_1).f2) _ _ ((rd_T59 l0 x5_1).f3) _ _ ((rd_T59 l1 x5_1).f0) ((rd_T59 l1 x5_1).f1) _ _ ((rd_T59 l1 x5_1).f2) _ _ ((rd_T59 l1 x5_1).f3) true _ ?side1 ?side2 ?side3 ?side4 ?side5 ?side6 ?side7 ?side8 ?side9 ?side10 ?side11 ?side12 A7.out).mono ?_
        (case side1=>repeat (first|exact(Kd.C_below HR379_0.out HB.out)|(with_reducible refine Kd.C_alloc ?_ _)|(with_reducible refine Kd.C_drewN ?_ _)|(with_reducible refine Kd.C_drew ?_)))
        (case side2=>exact HC379_0.out)
        (case side3=>repeat (first|exact(Kd.C_below HR379_2.out HB.out)|(with_reducible refine Kd.C_alloc ?_ _)|(with_reducible refine Kd.C_drewN ?_ _)|(with_reducible refine Kd.C_drew ?_)))
        (case side4=>exact HC379_2.out)
        (case side5=>repeat (first|exact(Kd.C_below HR379_3.out HB.out)|(with_reducible refine Kd.C_alloc ?_ _)|(with_reducible refine Kd.C_drewN ?_ _)|(with_reducible refine Kd.C_drew ?_)))
        (case side6=>exact HC379_3.out)
        (case side7=>repeat (first|exact(Kd.C_below HR380_0.out HB.out)|(with_reducible refine Kd.C_alloc ?_ _)|(with_reducible refine Kd.C_drewN ?_ _)|(with_reducible refine Kd.C_drew ?_)))
        (case side8=>exact HC380_0.out)
        (case side9=>repeat (first|exact(Kd.C_below HR380_2.out HB.out)|(with_reducible refine Kd.C_alloc ?_ _)|(with_reducible refine Kd.C_drewN ?_ _)|(with_reducible refine Kd.C_drew ?_)))
        (case side10=>exact HC380_2.out)
        (case side11=>repeat (first|exact(Kd.C_below HR380_3.out HB.out)|(with_reducible refine Kd.C_alloc ?_ _)|(with_reducible refine Kd.C_drewN ?_ _)|(with_reducible refine Kd.C_drew ?_)))
        (case side12=>exact HC380_3.out)
        rintro e w10 ⟨rfl,hb⟩
        refine⟨_,rfl,?_⟩
        have n0_:=A_ (below_step (bw HB.out) hb)
        clear HB
        have HB:=n0_
        clear n0_
        (try clear hb)
        (try clear hb2)
        (try clear hk)
        (try clear hi)
        refine hK.out _ _ ⟨(ce_ HB hw379_0),(ce_ HB hw379_1),(ce_ HB hw379_2),(ce_ HB hw379_3),(ce_ HB hw380_0),(ce_ HB hw380_1),(ce_ HB hw380_2),(ce_ HB hw380_3)⟩ (fun hHeld=>?_)
        clear hK K
        refine norm_ (a':=?_) ?_ ?_
        rotate_left
        ·
         show Act.put _ (some 25) _=_
         simp only[Act.put,List.setIfInBounds_toArray,List.set_cons_zero,List.set_cons_succ,i64_w,i32_w]
         rfl
        refine pure_ (i:=9) (N:=some 26) (v:=?_) (a':=?_) #[true,true,true,true,true,true,true,true,true,true] rfl rfl (any_of HT_.out (by kernel_rfl)) (fun _ _ _ h=>h) (Or.inl ⟨by rfl,?_⟩) ?_ ?_
        rotate_left
        ·
         intro w'
         go_simp
         with_reducible rfl
        rotate_left
        ·
         simp only[Act.put,List.setIfInBounds_toArray,List.set_cons_zero,List.set_cons_succ,i64_w,i32_w]
         rfl
        refine done_ (done_of HT_.out (by kernel_rfl)) ?_
        try go_wp2
        go_roundg k1
        case measure=>have:=HK1.out;omega
        case rel=>exact⟨(wrap64 (x5_1+1)),rs_,H',⟨by have:=HK1.out;omega⟩,⟨bw HB.out⟩⟩
       replace c8:=Bool.eq_false_iff.mpr c8
       subst c8
       replace H:=iF_ H
       obtain rfl:=Option.some.inj H
       clear H
       try go_wp2
       have n0_:=A_ (below_drew1 HB.out)
       clear HB
       have HB:=n0_
       clear n0_
       have p379:0≤(x5_1:Int):=od_
       have q379:x5_1<(l0.length:Int):=od_
       obtain⟨ad379,A379_0,c379_0,A379_2,c379_2,A379_3,c379_3,e379,hx379_0,hx379_1,hx379_2,hx379_3,hl379_0,hi379_0,hl379_2,hi379_2,hl379_3,hi379_3⟩:=at_T59 HR0.out x5_1 p379 q379
       have hw379_3:=hx379_3
       have hw379_2:=hx379_2
       have hw379_1:=hx379_1
       have hw379_0:=hx379_0
       cases e379
       replace hx379_0:=cl_ HB.out hx379_0
       replace hx379_1:=cl_ HB.out hx379_1
       replace hx379_2:=cl_ HB.out hx379_2
       replace hx379_3:=cl_ HB.out hx379_3
       have HR379_0:=A_ hi379_0
       have HC379_0:=A_ hl379_0
       clear hi379_0 hl379_0
       have HR379_2:=A_ hi379_2
       have HC379_2:=A_ hl379_2
       clear hi379_2 hl379_2
       have HR379_3:=A_ hi379_3
       have HC379_3:=A_ hl379_3
       clear hi379_3 hl379_3
       replace p379:=eq_true p379
       replace q379:=eq_true q379
       have p380:0≤(x5_1:Int):=od_
       have q380:x5_1<(l1.length:Int):=od_
       obtain⟨ad380,A380_0,c380_0,A380_2,c380_2,A380_3,c380_3,e380,hx380_0,hx380_1,hx380_2,hx380_3,hl380_0,hi380_0,hl380_2,hi380_2,hl380_3,hi380_3⟩:=at_T59 HR1.out x5_1 p380 q380
       have hw380_3:=hx380_3
       have hw380_2:=hx380_2
       have hw380_1:=hx380_1
       have hw380_0:=hx380_0
       cases e380
       replace hx380_0:=cl_ HB.out hx380_0
       replace hx380_1:=cl_ HB.out hx380_1
       replace hx380_2:=cl_ HB.out hx380_2
       replace hx380_3:=cl_ HB.out hx380_3
       have HR380_0:=A_ hi380_0
       have HC380_0:=A_ hl380_0
       clear hi380_0 hl380_0
       have HR380_2:=A_ hi380_2
       have HC380_2:=A_ hl380_2
       clear hi380_2 hl380_2
       have HR380_3:=A_ hi380_3
       have HC380_3:=A_ hl380_3
       clear hi380_3 hl380_3
       replace p380:=eq_true p380
       replace q380:=eq_true q380
       refine start_ (n:=10) (S:=fun w'=>w'.cell? (ad379.add ((x5_1).toNat*4))=some (.slice A379_0 ((rd_T59 l0 x5_1).f0).length c379_0)∧w'.cell? ⟨(ad379.add ((x5_1).toNat*4)).block,(ad379.add ((x5_1).toNat*4)).off+1,none⟩=some (.int .i64 ((rd_T59 l0 x5_1).f1))∧w'.cell? ⟨(ad379.add ((x5_1).toNat*4)).block,(ad379.add ((x5_1).toNat*4)).off+2,none⟩=some (.slice A379_2 ((rd_T59 l0 x5_1).f2).length c379_2)∧w'.cell? ⟨(ad379.add ((x5_1).toNat*4)).block,(ad379.add ((x5_1).toNat*4)).off+3,none⟩=some (.slice A379_3 ((rd_T59 l0 x5_1).f3).length c379_3)∧w'.cell? (ad380.add ((x5_1).toNat*4))=some (.slice A380_0 ((rd_T59 l1 x5_1).f0).length c380_0)∧w'.cell? ⟨(ad380.add ((x5_1).toNat*4)).block,(ad380.add ((x5_1).toNat*4)).off+1,none⟩=some (.int .i64 ((rd_T59 l1 x5_1).f1))∧w'.cell? ⟨(ad380.add ((x5_1).toNat*4)).block,(ad380.add ((x5_1).toNat*4)).off+2,none⟩=some (.slice A380_2 ((rd_T59 l1 x5_1).f2).length c380_2)∧w'.cell? ⟨(ad380.add ((x5_1).toNat*4)).block,(ad380.add ((x5_1).toNat*4)).off+3,none⟩=some (.slice A380_3 ((rd_T59 l1 x5_1).f3).length c380_3)) (ds:=[]) #[false,false,false,false,false,false,false,false,false,false] (by kernel_rfl) rfl rfl ⟨(ce_ HB hw379_0),(ce_ HB hw379_1),(ce_ HB hw379_2),(ce_ HB hw379_3),(ce_ HB hw380_0),(ce_ HB hw380_1),(ce_ HB hw380_2),(ce_ HB hw380_3)⟩ (fun hHeld=>?_);refine with_tabW laws_eqFuncS.tab6 laws_eqFuncS.bits6 (fun HT_ HW_=>?_)
       generalize wr.drew=w11 at HB HR379_0 HR379_2 HR379_3 HR380_0 HR380_2 HR380_3 hx379_0 hx379_1 hx379_2 hx379_3 hx380_0 hx380_1 hx380_2 hx380_3 hHeld ⊢
       refine pure_ (i:=0) (N:=some 17) (v:=?_) (a':=?_) #[true,false,false,false,false,false,false,false,false,false] rfl rfl (any_of HT_.out (by kernel_rfl)) (fun _ _ _ h=>h) (Or.inl ⟨by rfl,?_⟩) ?_ ?_
       rotate_left
       ·
        intro w'
        go_simp
        with_reducible rfl
       rotate_left
       ·
        simp only[Act.put,List.setIfInBounds_toArray,List.set_cons_zero,List.set_cons_succ,i64_w,i32_w]
        rfl
       refine pure_ (i:=1) (N:=some 18) (v:=?_) (a':=?_) #[true,true,false,false,false,false,false,false,false,false] rfl rfl (any_of HT_.out (by kernel_rfl)) (fun _ _ _ h=>h) (Or.inl ⟨by rfl,?_⟩) ?_ ?_
       rotate_left
       ·
        intro w'
        go_simp
        with_reducible rfl
       rotate_left
       ·
        simp only[Act.put,List.setIfInBounds_toArray,List.set_cons_zero,List.set_cons_succ,i64_w,i32_w]
        rfl
       refine pure_ (i:=2) (N:=some 19) (v:=?_) (a':=?_) #[true,true,true,false,false,false,false,false,false,false] rfl rfl (any_of HT_.out (by kernel_rfl)) (fun _ _ _ h=>h) (Or.inl ⟨by rfl,?_⟩) ?_ ?_
       rotate_left
       ·
        intro w'
        go_simp
        with_reducible rfl
       rotate_left
       ·
        simp only[Act.put,List.setIfInBounds_toArray,List.set_cons_zero,List.set_cons_succ,i64_w,i32_w]
        rfl
       refine pure_ (i:=4) (N:=some 21) (v:=?_) (a':=?_) #[true,true,true,false,true,false,false,false,false,false] rfl rfl (any_of HT_.out (by kernel_rfl)) (fun _ _ _ h=>h) (Or.inl ⟨by rfl,?_⟩) ?_ ?_
       rotate_left
       ·
        intro w'
        go_simp
        with_reducible rfl
       rotate_left
       ·
        simp only[Act.put,List.setIfInBounds_toArray,List.set_cons_zero,List.set_cons_succ,i64_w,i32_w]
        rfl
       refine pure_ (i:=5) (N:=some 22) (v:=?_) (a':=?_) #[true,true,true,false,true,true,false,false,false,false] rfl rfl (any_of HT_.out (by kernel_rfl)) (fun _ _ _ h=>h) (Or.inl ⟨by rfl,?_⟩) ?_ ?_
       rotate_left
       ·
        intro w'
        go_simp
        with_reducible rfl
       rotate_left
       ·
        simp only[Act.put,List.setIfInBounds_toArray,List.set_cons_zero,List.set_cons_succ,i64_w,i32_w]
        rfl
       refine pure_ (i:=6) (N:=some 23) (v:=?_) (a':=?_) #[true,true,true,false,true,true,true,false,false,false] rfl rfl (any_of HT_.out (by kernel_rfl)) (fun _ _ _ h=>h) (Or.inl ⟨by rfl,?_⟩) ?_ ?_
       rotate_left
       ·
        intro w'
        go_simp
        with_reducible rfl
       rotate_left
       ·
        simp only[Act.put,List.setIfInBounds_toArray,List.set_cons_zero,List.set_cons_succ,i64_w,i32_w]
        rfl
       refine take_ (i:=3) (N:=some 20) (v:=?_) (a':=?_) #[true,true,true,true,true,true,true,false,false,false] rfl rfl (take_ofW HT_.out HW_.out (by kernel_rfl)) (fun _ _ _ h=>h) (Or.inl ⟨by rfl,?_⟩) hHeld ?_ ?_
       rotate_left
       ·
        rintro w' ⟨s0,s1,s2,s3,s4,s5,s6,s7⟩
        go_simp
        with_reducible rfl
       rotate_left
       ·
        simp only[Act.put,List.setIfInBounds_toArray,List.set_cons_zero,List.set_cons_succ,i64_w,i32_w]
        rfl
       refine take_ (i:=7) (N:=some 24) (v:=?_) (a':=?_) #[true,true,true,true,true,true,true,true,false,false] rfl rfl (take_ofW HT_.out HW_.out (by kernel_rfl)) (fun _ _ _ h=>h) (Or.inl ⟨by rfl,?_⟩) hHeld ?_ ?_
       rotate_left
       ·
        rintro w' ⟨s0,s1,s2,s3,s4,s5,s6,s7⟩
        go_simp
        with_reducible rfl
       rotate_left
       ·
        simp only[Act.put,List.setIfInBounds_toArray,List.set_cons_zero,List.set_cons_succ,i64_w,i32_w]
        rfl
       refine one_ (i:=8) (N:=some 25) #[true,true,true,true,true,true,true,true,true,false] rfl rfl (one_of HT_.out (by kernel_rfl)) (by decide) (fun K hK=>?_)
       refine goes_ Try.func36 (by kernel_rfl) rfl #[.agg #[.slice A379_0 ((rd_T59 l0 x5_1).f0).length c379_0,.int .i64 ((rd_T59 l0 x5_1).f1),.slice A379_2 ((rd_T59 l0 x5_1).f2).length c379_2,.slice A379_3 ((rd_T59 l0 x5_1).f3).length c379_3],.agg #[.slice A380_0 ((rd_T59 l1 x5_1).f0).length c380_0,.int .i64 ((rd_T59 l1 x5_1).f1),.slice A380_2 ((rd_T59 l1 x5_1).f2).length c380_2,.slice A380_3 ((rd_T59 l1 x5_1).f3).length c380_3]] (by rfl) rfl rfl ar ?_
       with_reducible refine(laws_eqFunc.calls k1 _ _ ((rd_T59 l0 x5_1).f0) ((rd_T59 l0 x5_1).f1) _ _ ((rd_T59 l0 x5_1).f2) _ _ ((rd_T59 l0 x5_1).f3) _ _ ((rd_T59 l1 x5_1).f0) ((rd_T59 l1 x5_1).f1) _ _ ((rd_T59 l1 x5_1).f2) _ _ ((rd_T59 l1 x5_1).f3) false _ ?side1 ?side2 ?side3 ?side4 ?side5 ?side6 ?side7 ?side8 ?side9 ?side10 ?side11 ?side12 A7.out).mono ?_
       (case side1=>repeat (first|exact(Kd.C_below HR379_0.out HB.out)|(with_reducible refine Kd.C_alloc ?_ _)|(with_reducible refine Kd.C_drewN ?_ _)|(with_reducible refine Kd.C_drew ?_)))
       (case side2=>exact HC379_0.out)
       (case side3=>repeat (first|exact(Kd.C_below HR379_2.out HB.out)|(with_reducible refine Kd.C_alloc ?_ _)|(with_reducible refine Kd.C_drewN ?_ _)|(with_reducible refine Kd.C_drew ?_)))
       (case side4=>exact HC379_2.out)
       (case side5=>repeat (first|exact(Kd.C_below HR379_3.out HB.out)|(with_reducible refine Kd.C_alloc ?_ _)|(with_reducible refine Kd.C_drewN ?_ _)|(with_reducible refine Kd.C_drew ?_)))
       (case side6=>exact HC379_3.out)
       (case side7=>repeat (first|exact(Kd.C_below HR380_0.out HB.out)|(with_reducible refine Kd.C_alloc ?_ _)|(with_reducible refine Kd.C_drewN ?_ _)|(with_reducible refine Kd.C_drew ?_)))
       (case side8=>exact HC380_0.out)
       (case side9=>repeat (first|exact(Kd.C_below HR380_2.out HB.out)|(with_reducible refine Kd.C_alloc ?_ _)|(with_reducible refine Kd.C_drewN ?_ _)|(with_reducible refine Kd.C_drew ?_)))
       (case side10=>exact HC380_2.out)
       (case side11=>repeat (first|exact(Kd.C_below HR380_3.out HB.out)|(with_reducible refine Kd.C_alloc ?_ _)|(with_reducible refine Kd.C_drewN ?_ _)|(with_reducible refine Kd.C_drew ?_)))
       (case side12=>exact HC380_3.out)
       rintro e w12 ⟨rfl,hb⟩
       refine⟨_,rfl,?_⟩
       have n0_:=A_ (below_step (bw HB.out) hb)
       clear HB
       have HB:=n0_
       clear n0_
       (try clear hb)
       (try clear hb2)
       (try clear hk)
       (try clear hi)
       refine hK.out _ _ ⟨(ce_ HB hw379_0),(ce_ HB hw379_1),(ce_ HB hw379_2),(ce_ HB hw379_3),(ce_ HB hw380_0),(ce_ HB hw380_1),(ce_ HB hw380_2),(ce_ HB hw380_3)⟩ (fun hHeld=>?_)
       clear hK K
       refine norm_ (a':=?_) ?_ ?_
       rotate_left
       ·
        show Act.put _ (some 25) _=_
        simp only[Act.put,List.setIfInBounds_toArray,List.set_cons_zero,List.set_cons_succ,i64_w,i32_w]
        rfl
       refine pure_ (i:=9) (N:=some 26) (v:=?_) (a':=?_) #[true,true,true,true,true,true,true,true,true,true] rfl rfl (any_of HT_.out (by kernel_rfl)) (fun _ _ _ h=>h) (Or.inl ⟨by rfl,?_⟩) ?_ ?_
       rotate_left
       ·
        intro w'
        go_simp
        with_reducible rfl
       rotate_left
       ·
        simp only[Act.put,List.setIfInBounds_toArray,List.set_cons_zero,List.set_cons_succ,i64_w,i32_w]
        rfl
       refine done_ (done_of HT_.out (by kernel_rfl)) ?_
       try go_wp2
       go_ret
       exact⟨rr_,bw HB.out⟩
      rw[if_neg c6] at H
      exact absurd H (by simp)
     rw[if_neg c5] at H
     exact absurd H (by simp)
    rw[if_neg c4] at H
    have c4b0:=decide_eq_false c4
    clear c4
    obtain rfl:=Option.some.inj H
    clear H
    go_wp2
    go_ret
    exact⟨rr_,bw HB.out⟩
 rw[if_neg c3] at H
 obtain⟨c3b0,c3b1⟩:=eF_ c3
 have c3b2:(l0.length==l1.length)=false:=by first|simpa using c3|(simp at c3 ⊢;omega)
 obtain rfl:=Option.some.inj H
 clear H
 go_enter Try.func24,Try.ntmps24
 go_wp2
 go_ret
 exact⟨rr_,bw HB.out⟩

/-! ### laws_eqGlobal: function 37 -/
def laws_eqGlobal.f (a0_0:Int) (a0_1:Bool) (a0_2:Int) (a1_0:Int) (a1_1:Bool) (a1_2:Int):Option (Bool):=if a0_0=a1_0 then (if (a0_1 !=a1_1)=true then (some false) else (if a0_2=a1_2 then (some true) else (some false))) else (some false)
theorem laws_eqGlobal.calls (a0_0:Int) (a0_1:Bool) (a0_2:Int) (a1_0:Int) (a1_1:Bool) (a1_2:Int) (r:Bool) (w:World) (h:laws_eqGlobal.f a0_0 a0_1 a0_2 a1_0 a1_1 a1_2=some r):
  Calls Try.prog 37 #[.agg #[.int .i64 a0_0,.bool a0_1,.int .u64 a0_2],.agg #[.int .i64 a1_0,.bool a1_1,.int .u64 a1_2]] w fun e w'=>e=.returned (.bool r)∧Below w.heap.size w w':=by
 have hu63:=Try.underlying63
 have HB:=A_ (Below.refl w.heap.size w)
 have H:(if a0_0=a1_0 then (if (a0_1 !=a1_1)=true then (some false) else (if a0_2=a1_2 then (some true) else (some false))) else (some false))=some r:=h
 clear h
 by_cases c3:a0_0=a1_0
 ·
  rw[if_pos c3] at H
  obtain⟨c3b0,c3b1⟩:=eT_ c3
  clear c3
  by_cases c4:(a0_1 !=a1_1)=true
  ·
   rw[if_pos c4] at H
   have c4b0:(a0_1 !=a1_1)=true:=c4
   (try (have c4b1:decide (a0_1=a1_1)=false:=by simpa using c4))
   (try (have c4b2:(a0_1==a1_1)=false:=by simpa using c4))
   (try (have c4b3:¬(a0_1=a1_1):=by simpa using c4))
   clear c4
   obtain rfl:=Option.some.inj H
   clear H
   go_enter Try.func37,Try.ntmps37
   go_wp2_with (first|((with_reducible refine gd_ 2 rfl ?_);refine bx_ #[.int .i64 a0_0,.bool a0_1,.int .u64 a0_2] 63 ?_;intro gb382 hg w5 hbox hb;have BK382:=A_ hbox;have GW382:=gw_ hg HB;have GE382:=GW382;replace HB:=bs_ HB hb;clear hb hbox hg)|((with_reducible refine gd_ 3 rfl ?_);refine bx_ #[.int .i64 a1_0,.bool a1_1,.int .u64 a1_2] 63 ?_;intro gb383 hg w6 hbox hb;have BK383:=A_ hbox;have GW383:=gw_ hg HB;have GE383:=GW383;obtain⟨NB382_383,NB383_382⟩:=nb_ BK382 hg;replace BK382:=kb_ BK382 hb;replace HB:=bs_ HB hb;clear hb hbox hg;have hnb7:=NB382_383.out;have hnc7:=NB383_382.out;obtain⟨hcz8_0,hcz8_1,hcz8_2⟩:=cs3_ BK382.out;obtain⟨hfz8_0,hfz8_1,hfz8_2⟩:=fz3_ BK382.out;obtain⟨hcz9_0,hcz9_1,hcz9_2⟩:=cs3_ BK383.out;obtain⟨hfz9_0,hfz9_1,hfz9_2⟩:=fz3_ BK383.out))
   go_ret
   exact⟨rr_,bw HB.out⟩
  rw[if_neg c4] at H
  have c4b0:(a0_1 !=a1_1)=false:=by simpa using c4
  (try (have c4b1:decide (a0_1=a1_1)=true:=by simpa using c4))
  (try (have c4b2:(a0_1==a1_1)=true:=by simpa using c4))
  clear c4
  by_cases c10:a0_2=a1_2
  ·
   rw[if_pos c10] at H
   obtain⟨c10b0,c10b1⟩:=eT_ c10
   clear c10
   obtain rfl:=Option.some.inj H
   clear H
   go_enter Try.func37,Try.ntmps37
   go_wp2_with (first|((with_reducible refine gd_ 2 rfl ?_);refine bx_ #[.int .i64 a0_0,.bool a0_1,.int .u64 a0_2] 63 ?_;intro gb382 hg w11 hbox hb;have BK382:=A_ hbox;have GW382:=gw_ hg HB;have GE382:=GW382;replace HB:=bs_ HB hb;clear hb hbox hg)|((with_reducible refine gd_ 3 rfl ?_);refine bx_ #[.int .i64 a1_0,.bool a1_1,.int .u64 a1_2] 63 ?_;intro gb383 hg w12 hbox hb;have BK383:=A_ hbox;have GW383:=gw_ hg HB;have GE383:=GW383;obtain⟨NB382_383,NB383_382⟩:=nb_ BK382 hg;replace BK382:=kb_ BK382 hb;replace HB:=bs_ HB hb;clear hb hbox hg;have hnb13:=NB382_383.out;have hnc13:=NB383_382.out;obtain⟨hcz14_0,hcz14_1,hcz14_2⟩:=cs3_ BK382.out;obtain⟨hfz14_0,hfz14_1,hfz14_2⟩:=fz3_ BK382.out;obtain⟨hcz15_0,hcz15_1,hcz15_2⟩:=cs3_ BK383.out;obtain⟨hfz15_0,hfz15_1,hfz15_2⟩:=fz3_ BK383.out))
   go_ret
   exact⟨rr_,bw HB.out⟩
  rw[if_neg c10] at H
  obtain⟨c10b0,c10b1⟩:=eF_ c10
  obtain rfl:=Option.some.inj H
  clear H
  go_enter Try.func37,Try.ntmps37
  go_wp2_with (first|((with_reducible refine gd_ 2 rfl ?_);refine bx_ #[.int .i64 a0_0,.bool a0_1,.int .u64 a0_2] 63 ?_;intro gb382 hg w16 hbox hb;have BK382:=A_ hbox;have GW382:=gw_ hg HB;have GE382:=GW382;replace HB:=bs_ HB hb;clear hb hbox hg)|((with_reducible refine gd_ 3 rfl ?_);refine bx_ #[.int .i64 a1_0,.bool a1_1,.int .u64 a1_2] 63 ?_;intro gb383 hg w17 hbox hb;have BK383:=A_ hbox;have GW383:=gw_ hg HB;have GE383:=GW383;obtain⟨NB382_383,NB383_382⟩:=nb_ BK382 hg;replace BK382:=kb_ BK382 hb;replace HB:=bs_ HB hb;clear hb hbox hg;have hnb18:=NB382_383.out;have hnc18:=NB383_382.out;obtain⟨hcz19_0,hcz19_1,hcz19_2⟩:=cs3_ BK382.out;obtain⟨hfz19_0,hfz19_1,hfz19_2⟩:=fz3_ BK382.out;obtain⟨hcz20_0,hcz20_1,hcz20_2⟩:=cs3_ BK383.out;obtain⟨hfz20_0,hfz20_1,hfz20_2⟩:=fz3_ BK383.out))
  go_ret
  exact⟨rr_,bw HB.out⟩
 rw[if_neg c3] at H
 obtain⟨c3b0,c3b1⟩:=eF_ c3
 obtain rfl:=Option.some.inj H
 clear H
 go_enter Try.func37,Try.ntmps37
 go_wp2_with (first|((with_reducible refine gd_ 2 rfl ?_);refine bx_ #[.int .i64 a0_0,.bool a0_1,.int .u64 a0_2] 63 ?_;intro gb382 hg w21 hbox hb;have BK382:=A_ hbox;have GW382:=gw_ hg HB;have GE382:=GW382;replace HB:=bs_ HB hb;clear hb hbox hg)|((with_reducible refine gd_ 3 rfl ?_);refine bx_ #[.int .i64 a1_0,.bool a1_1,.int .u64 a1_2] 63 ?_;intro gb383 hg w22 hbox hb;have BK383:=A_ hbox;have GW383:=gw_ hg HB;have GE383:=GW383;obtain⟨NB382_383,NB383_382⟩:=nb_ BK382 hg;replace BK382:=kb_ BK382 hb;replace HB:=bs_ HB hb;clear hb hbox hg;have hnb23:=NB382_383.out;have hnc23:=NB383_382.out;obtain⟨hcz24_0,hcz24_1,hcz24_2⟩:=cs3_ BK382.out;obtain⟨hfz24_0,hfz24_1,hfz24_2⟩:=fz3_ BK382.out;obtain⟨hcz25_0,hcz25_1,hcz25_2⟩:=cs3_ BK383.out;obtain⟨hfz25_0,hfz25_1,hfz25_2⟩:=fz3_ BK383.out))
 go_ret
 exact⟨rr_,bw HB.out⟩

/-! ### laws_eqGlobalS: function 25 -/
def laws_eqGlobalS.l0:Nat→List (S63)→List (S63)→Int→Option (Bool)
 |0,_,_,_=>none
 |k+1,x0,x1,x5=>if x5<(x0.length:Int) then (if 0≤x5 then (if x5<(x1.length:Int) then ((laws_eqGlobal.f ((rd_T63 x0 x5).f0) ((rd_T63 x0 x5).f1) ((rd_T63 x0 x5).f2) ((rd_T63 x1 x5).f0) ((rd_T63 x1 x5).f1) ((rd_T63 x1 x5).f2)).bind fun t386=>(if t386=true then (laws_eqGlobalS.l0 k x0 x1 (wrap64 (x5+1))) else (some false))) else (none)) else (none)) else (some true)
def laws_eqGlobalS.f (k:Nat) (l0:List (S63)) (l1:List (S63)):Option (Bool):=if (l0.length:Int)=(l1.length:Int) then (laws_eqGlobalS.l0 k l0 l1 0) else (some false)
def laws_eqGlobalS.T6:Bool × List (List Nat × List Nat):=(true,[([],[]),([],[]),([0,1],[0,1]),([2],[2]),([],[]),([],[]),([4,5],[4,5]),([6],[6]),([3,7],[3,7]),([8],[8])])
def laws_eqGlobalS.B6:List Nat:=[0,0,3,7,0,0,48,112,255,511]
theorem laws_eqGlobalS.tab6:rtab .any (opsOf Try.f25 6)=laws_eqGlobalS.T6:=by kernel_rfl
theorem laws_eqGlobalS.bits6:waitsOk laws_eqGlobalS.T6.2 laws_eqGlobalS.B6=true:=by kernel_rfl
theorem laws_eqGlobalS.calls (k:Nat) (A0:Option Addr) (c0:Nat) (l0:List (S63)) (A1:Option Addr) (c1:Nat) (l1:List (S63)) (r:Bool) (w:World) (hr0:Kd.C k63 w A0 l0.length l0) (hc0:l0.length≤c0) (hr1:Kd.C k63 w A1 l1.length l1) (hc1:l1.length≤c1) (h:laws_eqGlobalS.f k l0 l1=some r):
  Calls Try.prog 25 #[.slice A0 l0.length c0,.slice A1 l1.length c1] w fun e w'=>e=.returned (.bool r)∧Below w.heap.size w w':=by
 have hu63:=Try.underlying63
 have HR0:=A_ hr0
 have HC0:=A_ hc0
 clear hr0 hc0
 have HR1:=A_ hr1
 have HC1:=A_ hc1
 clear hr1 hc1
 have HB:=A_ (Below.refl w.heap.size w)
 have H:(if (l0.length:Int)=(l1.length:Int) then (laws_eqGlobalS.l0 k l0 l1 0) else (some false))=some r:=h
 clear h
 by_cases c3:(l0.length:Int)=(l1.length:Int)
 ·
  rw[if_pos c3] at H
  obtain⟨c3b0,c3b1⟩:=eT_ c3
  have c3b2:(l0.length==l1.length)=true:=by first|simpa using c3|(simp at c3 ⊢;omega)
  clear c3
  have H':=A_ H
  clear H
  go_enter Try.func25,Try.ntmps25
  go_wp2
  (try simp only[Act.put,List.setIfInBounds_toArray,List.set_cons_zero,List.set_cons_succ])
  go_loopg [5] k (fun kq v5 w'=>∃ (x5_1:Int),v5=.int .i64 x5_1∧Aside0 (laws_eqGlobalS.l0 kq l0 l1 x5_1=some r)∧Aside0 (kq≤k)∧Aside0 (Below w.heap.size w w'))
  case atStart=>exact⟨(0),rs_,H',⟨Nat.le_refl _⟩,⟨bw HB.out⟩⟩
  case round=>
   clear H'
   try clear c1 c3 c3b0 c3b1 c3b2
   obtain⟨x5_1,rfl,HA,HK1,HB⟩:=hrel
   cases gk with
   |zero=>exact absurd HA.out (by simp[laws_eqGlobalS.l0])
   |succ k1=>
    have H:=HA.out
    clear HA
    simp only[laws_eqGlobalS.l0] at H
    by_cases c4:x5_1<(l0.length:Int)
    ·
     rw[if_pos c4] at H
     have c4b0:=decide_eq_true c4
     clear c4
     by_cases c5:0≤x5_1
     ·
      rw[if_pos c5] at H
      have c5b0:=decide_eq_true c5
      clear c5
      by_cases c6:x5_1<(l1.length:Int)
      ·
       rw[if_pos c6] at H
       have c6b0:=decide_eq_true c6
       clear c6
       replace H:=bi_ H
       obtain⟨t386,A70,H⟩:=H
       have A7:=A_ A70
       clear A70
       by_cases c8:t386=true
       ·
        subst c8
        replace H:=iT_ H
        have H':=A_ H
        clear H
        try go_wp2
        have n0_:=A_ (below_drew1 HB.out)
        clear HB
        have HB:=n0_
        clear n0_
        have p384:0≤(x5_1:Int):=od_
        have q384:x5_1<(l0.length:Int):=od_
        obtain⟨ad384,e384,hx384_0,hx384_1,hx384_2⟩:=at_T63 HR0.out x5_1 p384 q384
        have hw384_2:=hx384_2
        have hw384_1:=hx384_1
        have hw384_0:=hx384_0
        cases e384
        replace hx384_0:=cl_ HB.out hx384_0
        replace hx384_1:=cl_ HB.out hx384_1
        replace hx384_2:=cl_ HB.out hx384_2
        replace p384:=eq_true p384
        replace q384:=eq_true q384
        have p385:0≤(x5_1:Int):=od_
        have q385:x5_1<(l1.length:Int):=od_
        obtain⟨ad385,e385,hx385_0,hx385_1,hx385_2⟩:=at_T63 HR1.out x5_1 p385 q385
        have hw385_2:=hx385_2
        have hw385_1:=hx385_1
        have hw385_0:=hx385_0
        cases e385
        replace hx385_0:=cl_ HB.out hx385_0
        replace hx385_1:=cl_ HB.out hx385_1
        replace hx385_2:=cl_ HB.out hx385_2
        replace p385:=eq_true p385
        replace q385:=eq_true q385
        refine start_ (n:=10) (S:=fun w'=>w'.cell? (ad384.add ((x5_1).toNat*3))=some (.int .i64 ((rd_T63 l0 x5_1).f0))∧w'.cell? ⟨(ad384.add ((x5_1).toNat*3)).block,(ad384.add ((x5_1).toNat*3)).off+1,none⟩=some (.bool ((rd_T63 l0 x5_1).f1))∧w'.cell? ⟨(ad384.add ((x5_1).toNat*3)).block,(ad384.add ((x5_1).toNat*3)).off+2,none⟩=some (.int .u64 ((rd_T63 l0 x5_1).f2))∧w'.cell? (ad385.add ((x5_1).toNat*3))=some (.int .i64 ((rd_T63 l1 x5_1).f0))∧w'.cell? ⟨(ad385.add ((x5_1).toNat*3)).block,(ad385.add ((x5_1).toNat*3)).off+1,none⟩=some (.bool ((rd_T63 l1 x5_1).f1))∧w'.cell? ⟨(ad385.add ((x5_1).toNat*3)).block,(ad385.add ((x5_1).toNat*3)).off+2,none⟩=some (.int .u64 ((rd_T63 l1 x5_1).f2))) (ds:=[]) #[false,false,false,false,false,false,false,false,false,false] (by kernel_rfl) rfl rfl ⟨(ce_ HB hw384_0),(ce_ HB hw384_1),(ce_ HB hw384_2),(ce_ HB hw385_0),(ce_ HB hw385_1),(ce_ HB hw385_2)⟩ (fun hHeld=>?_);refine with_tabW laws_eqGlobalS.tab6 laws_eqGlobalS.bits6 (fun HT_ HW_=>?_)
        generalize wr.drew=w9 at HB hx384_0 hx384_1 hx384_2 hx385_0 hx385_1 hx385_2 hHeld ⊢
        refine pure_ (i:=0) (N:=some 17) (v:=?_) (a':=?_) #[true,false,false,false,false,false,false,false,false,false] rfl rfl (any_of HT_.out (by kernel_rfl)) (fun _ _ _ h=>h) (Or.inl ⟨by rfl,?_⟩) ?_ ?_
        rotate_left
        ·
         intro w'
         go_simp
         with_reducible rfl
        rotate_left
        ·
         simp only[Act.put,List.setIfInBounds_toArray,List.set_cons_zero,List.set_cons_succ,i64_w,i32_w]
         rfl
        refine pure_ (i:=1) (N:=some 18) (v:=?_) (a':=?_) #[true,true,false,false,false,false,false,false,false,false] rfl rfl (any_of HT_.out (by kernel_rfl)) (fun _ _ _ h=>h) (Or.inl ⟨by rfl,?_⟩) ?_ ?_
        rotate_left
        ·
         intro w'
         go_simp
         with_reducible rfl
        rotate_left
        ·
         simp only[Act.put,List.setIfInBounds_toArray,List.set_cons_zero,List.set_cons_succ,i64_w,i32_w]
         rfl
        refine pure_ (i:=2) (N:=some 19) (v:=?_) (a':=?_) #[true,true,true,false,false,false,false,false,false,false] rfl rfl (any_of HT_.out (by kernel_rfl)) (fun _ _ _ h=>h) (Or.inl ⟨by rfl,?_⟩) ?_ ?_
        rotate_left
        ·
         intro w'
         go_simp
         with_reducible rfl
        rotate_left
        ·
         simp only[Act.put,List.setIfInBounds_toArray,List.set_cons_zero,List.set_cons_succ,i64_w,i32_w]
         rfl
        refine pure_ (i:=4) (N:=some 21) (v:=?_) (a':=?_) #[true,true,true,false,true,false,false,false,false,false] rfl rfl (any_of HT_.out (by kernel_rfl)) (fun _ _ _ h=>h) (Or.inl ⟨by rfl,?_⟩) ?_ ?_
        rotate_left
        ·
         intro w'
         go_simp
         with_reducible rfl
        rotate_left
        ·
         simp only[Act.put,List.setIfInBounds_toArray,List.set_cons_zero,List.set_cons_succ,i64_w,i32_w]
         rfl
        refine pure_ (i:=5) (N:=some 22) (v:=?_) (a':=?_) #[true,true,true,false,true,true,false,false,false,false] rfl rfl (any_of HT_.out (by kernel_rfl)) (fun _ _ _ h=>h) (Or.inl ⟨by rfl,?_⟩) ?_ ?_
        rotate_left
        ·
         intro w'
         go_simp
         with_reducible rfl
        rotate_left
        ·
         simp only[Act.put,List.setIfInBounds_toArray,List.set_cons_zero,List.set_cons_succ,i64_w,i32_w]
         rfl
        refine pure_ (i:=6) (N:=some 23) (v:=?_) (a':=?_) #[true,true,true,false,true,true,true,false,false,false] rfl rfl (any_of HT_.out (by kernel_rfl)) (fun _ _ _ h=>h) (Or.inl ⟨by rfl,?_⟩) ?_ ?_
        rotate_left
        ·
         intro w'
         go_simp
         with_reducible rfl
        rotate_left
        ·
         simp only[Act.put,List.setIfInBounds_toArray,List.set_cons_zero,List.set_cons_succ,i64_w,i32_w]
         rfl
        refine take_ (i:=3) (N:=some 20) (v:=?_) (a':=?_) #[true,true,true,true,true,true,true,false,false,false] rfl rfl (take_ofW HT_.out HW_.out (by kernel_rfl)) (fun _ _ _ h=>h) (Or.inl ⟨by rfl,?_⟩) hHeld ?_ ?_
        rotate_left
        ·
         rintro w' ⟨s0,s1,s2,s3,s4,s5⟩
         go_simp
         with_reducible rfl
        rotate_left
        ·
         simp only[Act.put,List.setIfInBounds_toArray,List.set_cons_zero,List.set_cons_succ,i64_w,i32_w]
         rfl
        refine take_ (i:=7) (N:=some 24) (v:=?_) (a':=?_) #[true,true,true,true,true,true,true,true,false,false] rfl rfl (take_ofW HT_.out HW_.out (by kernel_rfl)) (fun _ _ _ h=>h) (Or.inl ⟨by rfl,?_⟩) hHeld ?_ ?_
        rotate_left
        ·
         rintro w' ⟨s0,s1,s2,s3,s4,s5⟩
         go_simp
         with_reducible rfl
        rotate_left
        ·
         simp only[Act.put,List.setIfInBounds_toArray,List.set_cons_zero,List.set_cons_succ,i64_w,i32_w]
         rfl
        refine one_ (i:=8) (N:=some 25) #[true,true,true,true,true,true,true,true,true,false] rfl rfl (one_of HT_.out (by kernel_rfl)) (by decide) (fun K hK=>?_)
        refine goes_ Try.func37 (by kernel_rfl) rfl #[.agg #[.int .i64 ((rd_T63 l0 x5_1).f0),.bool ((rd_T63 l0 x5_1).f1),.int .u64 ((rd_T63 l0 x5_1).f2)],.agg #[.int .i64 ((rd_T63 l1 x5_1).f0),.bool ((rd_T63 l1 x5_1).f1),.int .u64 ((rd_T63 l1 x5_1).f2)]] (by rfl) rfl rfl ar ?_
        with_reducible refine(laws_eqGlobal.calls ((rd_T63 l0 x5_1).f0) ((rd_T63 l0 x5_1).f1) ((rd_T63 l0 x5_1).f2) ((rd_T63 l1 x5_1).f0) ((rd_T63 l1 x5_1).f1) ((rd_T63 l1 x5_1).f2) true _ A7.out).mono ?_
        rintro e w10 ⟨rfl,hb⟩
        refine⟨_,rfl,?_⟩
        have n0_:=A_ (below_step (bw HB.out) hb)
        clear HB
        have HB:=n0_
        clear n0_
        (try clear hb)
        (try clear hb2)
        (try clear hk)
        (try clear hi)
        refine hK.out _ _ ⟨(ce_ HB hw384_0),(ce_ HB hw384_1),(ce_ HB hw384_2),(ce_ HB hw385_0),(ce_ HB hw385_1),(ce_ HB hw385_2)⟩ (fun hHeld=>?_)
        clear hK K
        refine norm_ (a':=?_) ?_ ?_
        rotate_left
        ·
         show Act.put _ (some 25) _=_
         simp only[Act.put,List.setIfInBounds_toArray,List.set_cons_zero,List.set_cons_succ,i64_w,i32_w]
         rfl
        refine pure_ (i:=9) (N:=some 26) (v:=?_) (a':=?_) #[true,true,true,true,true,true,true,true,true,true] rfl rfl (any_of HT_.out (by kernel_rfl)) (fun _ _ _ h=>h) (Or.inl ⟨by rfl,?_⟩) ?_ ?_
        rotate_left
        ·
         intro w'
         go_simp
         with_reducible rfl
        rotate_left
        ·
         simp only[Act.put,List.setIfInBounds_toArray,List.set_cons_zero,List.set_cons_succ,i64_w,i32_w]
         rfl
        refine done_ (done_of HT_.out (by kernel_rfl)) ?_
        try go_wp2
        go_roundg k1
        case measure=>have:=HK1.out;omega
        case rel=>exact⟨(wrap64 (x5_1+1)),rs_,H',⟨by have:=HK1.out;omega⟩,⟨bw HB.out⟩⟩
       replace c8:=Bool.eq_false_iff.mpr c8
       subst c8
       replace H:=iF_ H
       obtain rfl:=Option.some.inj H
       clear H
       try go_wp2
       have n0_:=A_ (below_drew1 HB.out)
       clear HB
       have HB:=n0_
       clear n0_
       have p384:0≤(x5_1:Int):=od_
       have q384:x5_1<(l0.length:Int):=od_
       obtain⟨ad384,e384,hx384_0,hx384_1,hx384_2⟩:=at_T63 HR0.out x5_1 p384 q384
       have hw384_2:=hx384_2
       have hw384_1:=hx384_1
       have hw384_0:=hx384_0
       cases e384
       replace hx384_0:=cl_ HB.out hx384_0
       replace hx384_1:=cl_ HB.out hx384_1
       replace hx384_2:=cl_ HB.out hx384_2
       replace p384:=eq_true p384
       replace q384:=eq_true q384
       have p385:0≤(x5_1:Int):=od_
       have q385:x5_1<(l1.length:Int):=od_
       obtain⟨ad385,e385,hx385_0,hx385_1,hx385_2⟩:=at_T63 HR1.out x5_1 p385 q385
       have hw385_2:=hx385_2
       have hw385_1:=hx385_1
       have hw385_0:=hx385_0
       cases e385
       replace hx385_0:=cl_ HB.out hx385_0
       replace hx385_1:=cl_ HB.out hx385_1
       replace hx385_2:=cl_ HB.out hx385_2
       replace p385:=eq_true p385
       replace q385:=eq_true q385
       refine start_ (n:=10) (S:=fun w'=>w'.cell? (ad384.add ((x5_1).toNat*3))=some (.int .i64 ((rd_T63 l0 x5_1).f0))∧w'.cell? ⟨(ad384.add ((x5_1).toNat*3)).block,(ad384.add ((x5_1).toNat*3)).off+1,none⟩=some (.bool ((rd_T63 l0 x5_1).f1))∧w'.cell? ⟨(ad384.add ((x5_1).toNat*3)).block,(ad384.add ((x5_1).toNat*3)).off+2,none⟩=some (.int .u64 ((rd_T63 l0 x5_1).f2))∧w'.cell? (ad385.add ((x5_1).toNat*3))=some (.int .i64 ((rd_T63 l1 x5_1).f0))∧w'.cell? ⟨(ad385.add ((x5_1).toNat*3)).block,(ad385.add ((x5_1).toNat*3)).off+1,none⟩=some (.bool ((rd_T63 l1 x5_1).f1))∧w'.cell? ⟨(ad385.add ((x5_1).toNat*3)).block,(ad385.add ((x5_1).toNat*3)).off+2,none⟩=some (.int .u64 ((rd_T63 l1 x5_1).f2))) (ds:=[]) #[false,false,false,false,false,false,false,false,false,false] (by kernel_rfl) rfl rfl ⟨(ce_ HB hw384_0),(ce_ HB hw384_1),(ce_ HB hw384_2),(ce_ HB hw385_0),(ce_ HB hw385_1),(ce_ HB hw385_2)⟩ (fun hHeld=>?_);refine with_tabW laws_eqGlobalS.tab6 laws_eqGlobalS.bits6 (fun HT_ HW_=>?_)
       generalize wr.drew=w11 at HB hx384_0 hx384_1 hx384_2 hx385_0 hx385_1 hx385_2 hHeld ⊢
       refine pure_ (i:=0) (N:=some 17) (v:=?_) (a':=?_) #[true,false,false,false,false,false,false,false,false,false] rfl rfl (any_of HT_.out (by kernel_rfl)) (fun _ _ _ h=>h) (Or.inl ⟨by rfl,?_⟩) ?_ ?_
       rotate_left
       ·
        intro w'
        go_simp
        with_reducible rfl
       rotate_left
       ·
        simp only[Act.put,List.setIfInBounds_toArray,List.set_cons_zero,List.set_cons_succ,i64_w,i32_w]
        rfl
       refine pure_ (i:=1) (N:=some 18) (v:=?_) (a':=?_) #[true,true,false,false,false,false,false,false,false,false] rfl rfl (any_of HT_.out (by kernel_rfl)) (fun _ _ _ h=>h) (Or.inl ⟨by rfl,?_⟩) ?_ ?_
       rotate_left
       ·
        intro w'
        go_simp
        with_reducible rfl
       rotate_left
       ·
        simp only[Act.put,List.setIfInBounds_toArray,List.set_cons_zero,List.set_cons_succ,i64_w,i32_w]
        rfl
       refine pure_ (i:=2) (N:=some 19) (v:=?_) (a':=?_) #[true,true,true,false,false,false,false,false,false,false] rfl rfl (any_of HT_.out (by kernel_rfl)) (fun _ _ _ h=>h) (Or.inl ⟨by rfl,?_⟩) ?_ ?_
       rotate_left
       ·
        intro w'
        go_simp
        with_reducible rfl
       rotate_left
       ·
        simp only[Act.put,List.setIfInBounds_toArray,List.set_cons_zero,List.set_cons_succ,i64_w,i32_w]
        rfl
       refine pure_ (i:=4) (N:=some 21) (v:=?_) (a':=?_) #[true,true,true,false,true,false,false,false,false,false] rfl rfl (any_of HT_.out (by kernel_rfl)) (fun _ _ _ h=>h) (Or.inl ⟨by rfl,?_⟩) ?_ ?_
       rotate_left
       ·
        intro w'
        go_simp
        with_reducible rfl
       rotate_left
       ·
        simp only[Act.put,List.setIfInBounds_toArray,List.set_cons_zero,List.set_cons_succ,i64_w,i32_w]
        rfl
       refine pure_ (i:=5) (N:=some 22) (v:=?_) (a':=?_) #[true,true,true,false,true,true,false,false,false,false] rfl rfl (any_of HT_.out (by kernel_rfl)) (fun _ _ _ h=>h) (Or.inl ⟨by rfl,?_⟩) ?_ ?_
       rotate_left
       ·
        intro w'
        go_simp
        with_reducible rfl
       rotate_left
       ·
        simp only[Act.put,List.setIfInBounds_toArray,List.set_cons_zero,List.set_cons_succ,i64_w,i32_w]
        rfl
       refine pure_ (i:=6) (N:=some 23) (v:=?_) (a':=?_) #[true,true,true,false,true,true,true,false,false,false] rfl rfl (any_of HT_.out (by kernel_rfl)) (fun _ _ _ h=>h) (Or.inl ⟨by rfl,?_⟩) ?_ ?_
       rotate_left
       ·
        intro w'
        go_simp
        with_reducible rfl
       rotate_left
       ·
        simp only[Act.put,List.setIfInBounds_toArray,List.set_cons_zero,List.set_cons_succ,i64_w,i32_w]
        rfl
       refine take_ (i:=3) (N:=some 20) (v:=?_) (a':=?_) #[true,true,true,true,true,true,true,false,false,false] rfl rfl (take_ofW HT_.out HW_.out (by kernel_rfl)) (fun _ _ _ h=>h) (Or.inl ⟨by rfl,?_⟩) hHeld ?_ ?_
       rotate_left
       ·
        rintro w' ⟨s0,s1,s2,s3,s4,s5⟩
        go_simp
        with_reducible rfl
       rotate_left
       ·
        simp only[Act.put,List.setIfInBounds_toArray,List.set_cons_zero,List.set_cons_succ,i64_w,i32_w]
        rfl
       refine take_ (i:=7) (N:=some 24) (v:=?_) (a':=?_) #[true,true,true,true,true,true,true,true,false,false] rfl rfl (take_ofW HT_.out HW_.out (by kernel_rfl)) (fun _ _ _ h=>h) (Or.inl ⟨by rfl,?_⟩) hHeld ?_ ?_
       rotate_left
       ·
        rintro w' ⟨s0,s1,s2,s3,s4,s5⟩
        go_simp
        with_reducible rfl
       rotate_left
       ·
        simp only[Act.put,List.setIfInBounds_toArray,List.set_cons_zero,List.set_cons_succ,i64_w,i32_w]
        rfl
       refine one_ (i:=8) (N:=some 25) #[true,true,true,true,true,true,true,true,true,false] rfl rfl (one_of HT_.out (by kernel_rfl)) (by decide) (fun K hK=>?_)
       refine goes_ Try.func37 (by kernel_rfl) rfl #[.agg #[.int .i64 ((rd_T63 l0 x5_1).f0),.bool ((rd_T63 l0 x5_1).f1),.int .u64 ((rd_T63 l0 x5_1).f2)],.agg #[.int .i64 ((rd_T63 l1 x5_1).f0),.bool ((rd_T63 l1 x5_1).f1),.int .u64 ((rd_T63 l1 x5_1).f2)]] (by rfl) rfl rfl ar ?_
       with_reducible refine(laws_eqGlobal.calls ((rd_T63 l0 x5_1).f0) ((rd_T63 l0 x5_1).f1) ((rd_T63 l0 x5_1).f2) ((rd_T63 l1 x5_1).f0) ((rd_T63 l1 x5_1).f1) ((rd_T63 l1 x5_1).f2) false _ A7.out).mono ?_
       rintro e w12 ⟨rfl,hb⟩
       refine⟨_,rfl,?_⟩
       have n0_:=A_ (below_step (bw HB.out) hb)
       clear HB
       have HB:=n0_
       clear n0_
       (try clear hb)
       (try clear hb2)
       (try clear hk)
       (try clear hi)
       refine hK.out _ _ ⟨(ce_ HB hw384_0),(ce_ HB hw384_1),(ce_ HB hw384_2),(ce_ HB hw385_0),(ce_ HB hw385_1),(ce_ HB hw385_2)⟩ (fun hHeld=>?_)
       clear hK K
       refine norm_ (a':=?_) ?_ ?_
       rotate_left
       ·
        show Act.put _ (some 25) _=_
        simp only[Act.put,List.setIfInBounds_toArray,List.set_cons_zero,List.set_cons_succ,i64_w,i32_w]
        rfl
       refine pure_ (i:=9) (N:=some 26) (v:=?_) (a':=?_) #[true,true,true,true,true,true,true,true,true,true] rfl rfl (any_of HT_.out (by kernel_rfl)) (fun _ _ _ h=>h) (Or.inl ⟨by rfl,?_⟩) ?_ ?_
       rotate_left
       ·
        intro w'
        go_simp
        with_reducible rfl
       rotate_left
       ·
        simp only[Act.put,List.setIfInBounds_toArray,List.set_cons_zero,List.set_cons_succ,i64_w,i32_w]
        rfl
       refine done_ (done_of HT_.out (by kernel_rfl)) ?_
       try go_wp2
       go_ret
       exact⟨rr_,bw HB.out⟩
      rw[if_neg c6] at H
      exact absurd H (by simp)
     rw[if_neg c5] at H
     exact absurd H (by simp)
    rw[if_neg c4] at H
    have c4b0:=decide_eq_false c4
    clear c4
    obtain rfl:=Option.some.inj H
    clear H
    go_wp2
    go_ret
    exact⟨rr_,bw HB.out⟩
 rw[if_neg c3] at H
 obtain⟨c3b0,c3b1⟩:=eF_ c3
 have c3b2:(l0.length==l1.length)=false:=by first|simpa using c3|(simp at c3 ⊢;omega)
 obtain rfl:=Option.some.inj H
 clear H
 go_enter Try.func25,Try.ntmps25
 go_wp2
 go_ret
 exact⟨rr_,bw HB.out⟩

/-! ### laws_eqModule: function 10 -/
def laws_eqModule.f (k:Nat) (l0_0:List (S59)) (l0_1:List (S63)) (a0_2:Bool) (a0_3:Int) (a0_4:Int) (a0_5:Int) (l1_0:List (S59)) (l1_1:List (S63)) (a1_2:Bool) (a1_3:Int) (a1_4:Int) (a1_5:Int):Option (Bool):=(laws_eqFuncS.f k l0_0 l1_0).bind fun t389=>(if t389=true then ((laws_eqGlobalS.f k l0_1 l1_1).bind fun t390=>(if t390=true then (if (a0_2 !=a1_2)=true then (some false) else (if a0_3=a1_3 then (if a0_4=a1_4 then (if a0_5=a1_5 then (some true) else (some false)) else (some false)) else (some false))) else (some false))) else (some false))
theorem laws_eqModule.calls (k:Nat) (A0_0:Option Addr) (c0_0:Nat) (l0_0:List (S59)) (A0_1:Option Addr) (c0_1:Nat) (l0_1:List (S63)) (a0_2:Bool) (a0_3:Int) (a0_4:Int) (a0_5:Int) (A1_0:Option Addr) (c1_0:Nat) (l1_0:List (S59)) (A1_1:Option Addr) (c1_1:Nat) (l1_1:List (S63)) (a1_2:Bool) (a1_3:Int) (a1_4:Int) (a1_5:Int) (r:Bool) (w:World) (hr0_0:Kd.C k59 w A0_0 l0_0.length l0_0) (hc0_0:l0_0.length≤c0_0) (hr0_1:Kd.C k63 w A0_1 l0_1.length l0_1) (hc0_1:l0_1.length≤c0_1) (hr1_0:Kd.C k59 w A1_0 l1_0.length l1_0) (hc1_0:l1_0.length≤c1_0) (hr1_1:Kd.C k63 w A1_1 l1_1.length l1_1) (hc1_1:l1_1.length≤c1_1) (h:laws_eqModule.f k l0_0 l0_1 a0_2 a0_3 a0_4 a0_5 l1_0 l1_1 a1_2 a1_3 a1_4 a1_5=some r):
  Calls Try.prog 10 #[.agg #[.slice A0_0 l0_0.length c0_0,.slice A0_1 l0_1.length c0_1,.bool a0_2,.int .i64 a0_3,.int .i64 a0_4,.int .i64 a0_5],.agg #[.slice A1_0 l1_0.length c1_0,.slice A1_1 l1_1.length c1_1,.bool a1_2,.int .i64 a1_3,.int .i64 a1_4,.int .i64 a1_5]] w fun e w'=>e=.returned (.bool r)∧Below w.heap.size w w':=by
 have hu32:=Try.underlying32
 have HR0_0:=A_ hr0_0
 have HC0_0:=A_ hc0_0
 clear hr0_0 hc0_0
 have HR0_1:=A_ hr0_1
 have HC0_1:=A_ hc0_1
 clear hr0_1 hc0_1
 have HR1_0:=A_ hr1_0
 have HC1_0:=A_ hc1_0
 clear hr1_0 hc1_0
 have HR1_1:=A_ hr1_1
 have HC1_1:=A_ hc1_1
 clear hr1_1 hc1_1
 have HB:=A_ (Below.refl w.heap.size w)
 have H:((laws_eqFuncS.f k l0_0 l1_0).bind fun t389=>(if t389=true then ((laws_eqGlobalS.f k l0_1 l1_1).bind fun t390=>(if t390=true then (if (a0_2 !=a1_2)=true then (some false) else (if a0_3=a1_3 then (if a0_4=a1_4 then (if a0_5=a1_5 then (some true) else (some false)) else (some false)) else (some false))) else (some false))) else (some false)))=some r:=h
 clear h
 replace H:=bi_ H
 obtain⟨t389,A30,H⟩:=H
 have A3:=A_ A30
 clear A30
 by_cases c4:t389=true
 ·
  subst c4
  replace H:=iT_ H
  replace H:=bi_ H
  obtain⟨t390,A50,H⟩:=H
  have A5:=A_ A50
  clear A50
  by_cases c6:t390=true
  ·
   subst c6
   replace H:=iT_ H
   by_cases c7:(a0_2 !=a1_2)=true
   ·
    rw[if_pos c7] at H
    have c7b0:(a0_2 !=a1_2)=true:=c7
    (try (have c7b1:decide (a0_2=a1_2)=false:=by simpa using c7))
    (try (have c7b2:(a0_2==a1_2)=false:=by simpa using c7))
    (try (have c7b3:¬(a0_2=a1_2):=by simpa using c7))
    clear c7
    obtain rfl:=Option.some.inj H
    clear H
    go_enter Try.func10,Try.ntmps10
    go_wp2_with (first|((with_reducible refine gd_ 2 rfl ?_);refine bx_ #[.slice A0_0 l0_0.length c0_0,.slice A0_1 l0_1.length c0_1,.bool a0_2,.int .i64 a0_3,.int .i64 a0_4,.int .i64 a0_5] 32 ?_;intro gb387 hg w8 hbox hb;have BK387:=A_ hbox;have GW387:=gw_ hg HB;have GE387:=GW387;replace HB:=bs_ HB hb;clear hb hbox hg)|((with_reducible refine gd_ 3 rfl ?_);refine bx_ #[.slice A1_0 l1_0.length c1_0,.slice A1_1 l1_1.length c1_1,.bool a1_2,.int .i64 a1_3,.int .i64 a1_4,.int .i64 a1_5] 32 ?_;intro gb388 hg w9 hbox hb;have BK388:=A_ hbox;have GW388:=gw_ hg HB;have GE388:=GW388;obtain⟨NB387_388,NB388_387⟩:=nb_ BK387 hg;replace BK387:=kb_ BK387 hb;replace HB:=bs_ HB hb;clear hb hbox hg;have hnb10:=NB387_388.out;have hnc10:=NB388_387.out;obtain⟨hcz11_0,hcz11_1,hcz11_2,hcz11_3,hcz11_4,hcz11_5⟩:=cs6_ BK387.out;obtain⟨hfz11_0,hfz11_1,hfz11_2,hfz11_3,hfz11_4,hfz11_5⟩:=fz6_ BK387.out;obtain⟨hcz12_0,hcz12_1,hcz12_2,hcz12_3,hcz12_4,hcz12_5⟩:=cs6_ BK388.out;obtain⟨hfz12_0,hfz12_1,hfz12_2,hfz12_3,hfz12_4,hfz12_5⟩:=fz6_ BK388.out)|((with_reducible refine gc_ 24 rfl ?_);refine gm_ (some 9) Try.func24 (laws_eqFuncS.calls k _ _ l0_0 _ _ l1_0 true _ (cb_ HR0_0 HB) HC0_0.out (cb_ HR1_0 HB) HC1_0.out A3.out) ?_;intro w13 hb;replace BK387:=kb_ BK387 hb;replace BK388:=kb_ BK388 hb;replace HB:=bs_ HB hb;(try clear hb);obtain⟨hcz14_0,hcz14_1,hcz14_2,hcz14_3,hcz14_4,hcz14_5⟩:=cs6_ BK387.out;obtain⟨hfz14_0,hfz14_1,hfz14_2,hfz14_3,hfz14_4,hfz14_5⟩:=fz6_ BK387.out;obtain⟨hcz15_0,hcz15_1,hcz15_2,hcz15_3,hcz15_4,hcz15_5⟩:=cs6_ BK388.out;obtain⟨hfz15_0,hfz15_1,hfz15_2,hfz15_3,hfz15_4,hfz15_5⟩:=fz6_ BK388.out)|((with_reducible refine gc_ 25 rfl ?_);refine gm_ (some 15) Try.func25 (laws_eqGlobalS.calls k _ _ l0_1 _ _ l1_1 true _ (cb_ HR0_1 HB) HC0_1.out (cb_ HR1_1 HB) HC1_1.out A5.out) ?_;intro w16 hb;replace BK387:=kb_ BK387 hb;replace BK388:=kb_ BK388 hb;replace HB:=bs_ HB hb;(try clear hb);obtain⟨hcz17_0,hcz17_1,hcz17_2,hcz17_3,hcz17_4,hcz17_5⟩:=cs6_ BK387.out;obtain⟨hfz17_0,hfz17_1,hfz17_2,hfz17_3,hfz17_4,hfz17_5⟩:=fz6_ BK387.out;obtain⟨hcz18_0,hcz18_1,hcz18_2,hcz18_3,hcz18_4,hcz18_5⟩:=cs6_ BK388.out;obtain⟨hfz18_0,hfz18_1,hfz18_2,hfz18_3,hfz18_4,hfz18_5⟩:=fz6_ BK388.out))
    go_ret
    exact⟨rr_,bw HB.out⟩
   rw[if_neg c7] at H
   have c7b0:(a0_2 !=a1_2)=false:=by simpa using c7
   (try (have c7b1:decide (a0_2=a1_2)=true:=by simpa using c7))
   (try (have c7b2:(a0_2==a1_2)=true:=by simpa using c7))
   clear c7
   by_cases c19:a0_3=a1_3
   ·
    rw[if_pos c19] at H
    obtain⟨c19b0,c19b1⟩:=eT_ c19
    clear c19
    by_cases c20:a0_4=a1_4
    ·
     rw[if_pos c20] at H
     obtain⟨c20b0,c20b1⟩:=eT_ c20
     clear c20
     by_cases c21:a0_5=a1_5
     ·
      rw[if_pos c21] at H
      obtain⟨c21b0,c21b1⟩:=eT_ c21
      clear c21
      obtain rfl:=Option.some.inj H
      clear H
      go_enter Try.func10,Try.ntmps10
      go_wp2_with (first|((with_reducible refine gd_ 2 rfl ?_);refine bx_ #[.slice A0_0 l0_0.length c0_0,.slice A0_1 l0_1.length c0_1,.bool a0_2,.int .i64 a0_3,.int .i64 a0_4,.int .i64 a0_5] 32 ?_;intro gb387 hg w22 hbox hb;have BK387:=A_ hbox;have GW387:=gw_ hg HB;have GE387:=GW387;replace HB:=bs_ HB hb;clear hb hbox hg)|((with_reducible refine gd_ 3 rfl ?_);refine bx_ #[.slice A1_0 l1_0.length c1_0,.slice A1_1 l1_1.length c1_1,.bool a1_2,.int .i64 a1_3,.int .i64 a1_4,.int .i64 a1_5] 32 ?_;intro gb388 hg w23 hbox hb;have BK388:=A_ hbox;have GW388:=gw_ hg HB;have GE388:=GW388;obtain⟨NB387_388,NB388_387⟩:=nb_ BK387 hg;replace BK387:=kb_ BK387 hb;replace HB:=bs_ HB hb;clear hb hbox hg;have hnb24:=NB387_388.out;have hnc24:=NB388_387.out;obtain⟨hcz25_0,hcz25_1,hcz25_2,hcz25_3,hcz25_4,hcz25_5⟩:=cs6_ BK387.out;obtain⟨hfz25_0,hfz25_1,hfz25_2,hfz25_3,hfz25_4,hfz25_5⟩:=fz6_ BK387.out;obtain⟨hcz26_0,hcz26_1,hcz26_2,hcz26_3,hcz26_4,hcz26_5⟩:=cs6_ BK388.out;obtain⟨hfz26_0,hfz26_1,hfz26_2,hfz26_3,hfz26_4,hfz26_5⟩:=fz6_ BK388.out)|((with_reducible refine gc_ 24 rfl ?_);refine gm_ (some 9) Try.func24 (laws_eqFuncS.calls k _ _ l0_0 _ _ l1_0 true _ (cb_ HR0_0 HB) HC0_0.out (cb_ HR1_0 HB) HC1_0.out A3.out) ?_;intro w27 hb;replace BK387:=kb_ BK387 hb;replace BK388:=kb_ BK388 hb;replace HB:=bs_ HB hb;(try clear hb);obtain⟨hcz28_0,hcz28_1,hcz28_2,hcz28_3,hcz28_4,hcz28_5⟩:=cs6_ BK387.out;obtain⟨hfz28_0,hfz28_1,hfz28_2,hfz28_3,hfz28_4,hfz28_5⟩:=fz6_ BK387.out;obtain⟨hcz29_0,hcz29_1,hcz29_2,hcz29_3,hcz29_4,hcz29_5⟩:=cs6_ BK388.out;obtain⟨hfz29_0,hfz29_1,hfz29_2,hfz29_3,hfz29_4,hfz29_5⟩:=fz6_ BK388.out)|((with_reducible refine gc_ 25 rfl ?_);refine gm_ (some 15) Try.func25 (laws_eqGlobalS.calls k _ _ l0_1 _ _ l1_1 true _ (cb_ HR0_1 HB) HC0_1.out (cb_ HR1_1 HB) HC1_1.out A5.out) ?_;intro w30 hb;replace BK387:=kb_ BK387 hb;replace BK388:=kb_ BK388 hb;replace HB:=bs_ HB hb;(try clear hb);obtain⟨hcz31_0,hcz31_1,hcz31_2,hcz31_3,hcz31_4,hcz31_5⟩:=cs6_ BK387.out;obtain⟨hfz31_0,hfz31_1,hfz31_2,hfz31_3,hfz31_4,hfz31_5⟩:=fz6_ BK387.out;obtain⟨hcz32_0,hcz32_1,hcz32_2,hcz32_3,hcz32_4,hcz32_5⟩:=cs6_ BK388.out;obtain⟨hfz32_0,hfz32_1,hfz32_2,hfz32_3,hfz32_4,hfz32_5⟩:=fz6_ BK388.out))
      go_ret
      exact⟨rr_,bw HB.out⟩
     rw[if_neg c21] at H
     obtain⟨c21b0,c21b1⟩:=eF_ c21
     obtain rfl:=Option.some.inj H
     clear H
     go_enter Try.func10,Try.ntmps10
     go_wp2_with (first|((with_reducible refine gd_ 2 rfl ?_);refine bx_ #[.slice A0_0 l0_0.length c0_0,.slice A0_1 l0_1.length c0_1,.bool a0_2,.int .i64 a0_3,.int .i64 a0_4,.int .i64 a0_5] 32 ?_;intro gb387 hg w33 hbox hb;have BK387:=A_ hbox;have GW387:=gw_ hg HB;have GE387:=GW387;replace HB:=bs_ HB hb;clear hb hbox hg)|((with_reducible refine gd_ 3 rfl ?_);refine bx_ #[.slice A1_0 l1_0.length c1_0,.slice A1_1 l1_1.length c1_1,.bool a1_2,.int .i64 a1_3,.int .i64 a1_4,.int .i64 a1_5] 32 ?_;intro gb388 hg w34 hbox hb;have BK388:=A_ hbox;have GW388:=gw_ hg HB;have GE388:=GW388;obtain⟨NB387_388,NB388_387⟩:=nb_ BK387 hg;replace BK387:=kb_ BK387 hb;replace HB:=bs_ HB hb;clear hb hbox hg;have hnb35:=NB387_388.out;have hnc35:=NB388_387.out;obtain⟨hcz36_0,hcz36_1,hcz36_2,hcz36_3,hcz36_4,hcz36_5⟩:=cs6_ BK387.out;obtain⟨hfz36_0,hfz36_1,hfz36_2,hfz36_3,hfz36_4,hfz36_5⟩:=fz6_ BK387.out;obtain⟨hcz37_0,hcz37_1,hcz37_2,hcz37_3,hcz37_4,hcz37_5⟩:=cs6_ BK388.out;obtain⟨hfz37_0,hfz37_1,hfz37_2,hfz37_3,hfz37_4,hfz37_5⟩:=fz6_ BK388.out)|((with_reducible refine gc_ 24 rfl ?_);refine gm_ (some 9) Try.func24 (laws_eqFuncS.calls k _ _ l0_0 _ _ l1_0 true _ (cb_ HR0_0 HB) HC0_0.out (cb_ HR1_0 HB) HC1_0.out A3.out) ?_;intro w38 hb;replace BK387:=kb_ BK387 hb;replace BK388:=kb_ BK388 hb;replace HB:=bs_ HB hb;(try clear hb);obtain⟨hcz39_0,hcz39_1,hcz39_2,hcz39_3,hcz39_4,hcz39_5⟩:=cs6_ BK387.out;obtain⟨hfz39_0,hfz39_1,hfz39_2,hfz39_3,hfz39_4,hfz39_5⟩:=fz6_ BK387.out;obtain⟨hcz40_0,hcz40_1,hcz40_2,hcz40_3,hcz40_4,hcz40_5⟩:=cs6_ BK388.out;obtain⟨hfz40_0,hfz40_1,hfz40_2,hfz40_3,hfz40_4,hfz40_5⟩:=fz6_ BK388.out)|((with_reducible refine gc_ 25 rfl ?_);refine gm_ (some 15) Try.func25 (laws_eqGlobalS.calls k _ _ l0_1 _ _ l1_1 true _ (cb_ HR0_1 HB) HC0_1.out (cb_ HR1_1 HB) HC1_1.out A5.out) ?_;intro w41 hb;replace BK387:=kb_ BK387 hb;replace BK388:=kb_ BK388 hb;replace HB:=bs_ HB hb;(try clear hb);obtain⟨hcz42_0,hcz42_1,hcz42_2,hcz42_3,hcz42_4,hcz42_5⟩:=cs6_ BK387.out;obtain⟨hfz42_0,hfz42_1,hfz42_2,hfz42_3,hfz42_4,hfz42_5⟩:=fz6_ BK387.out;obtain⟨hcz43_0,hcz43_1,hcz43_2,hcz43_3,hcz43_4,hcz43_5⟩:=cs6_ BK388.out;obtain⟨hfz43_0,hfz43_1,hfz43_2,hfz43_3,hfz43_4,hfz43_5⟩:=fz6_ BK388.out))
     go_ret
     exact⟨rr_,bw HB.out⟩
    rw[if_neg c20] at H
    obtain⟨c20b0,c20b1⟩:=eF_ c20
    obtain rfl:=Option.some.inj H
    clear H
    go_enter Try.func10,Try.ntmps10
    go_wp2_with (first|((with_reducible refine gd_ 2 rfl ?_);refine bx_ #[.slice A0_0 l0_0.length c0_0,.slice A0_1 l0_1.length c0_1,.bool a0_2,.int .i64 a0_3,.int .i64 a0_4,.int .i64 a0_5] 32 ?_;intro gb387 hg w44 hbox hb;have BK387:=A_ hbox;have GW387:=gw_ hg HB;have GE387:=GW387;replace HB:=bs_ HB hb;clear hb hbox hg)|((with_reducible refine gd_ 3 rfl ?_);refine bx_ #[.slice A1_0 l1_0.length c1_0,.slice A1_1 l1_1.length c1_1,.bool a1_2,.int .i64 a1_3,.int .i64 a1_4,.int .i64 a1_5] 32 ?_;intro gb388 hg w45 hbox hb;have BK388:=A_ hbox;have GW388:=gw_ hg HB;have GE388:=GW388;obtain⟨NB387_388,NB388_387⟩:=nb_ BK387 hg;replace BK387:=kb_ BK387 hb;replace HB:=bs_ HB hb;clear hb hbox hg;have hnb46:=NB387_388.out;have hnc46:=NB388_387.out;obtain⟨hcz47_0,hcz47_1,hcz47_2,hcz47_3,hcz47_4,hcz47_5⟩:=cs6_ BK387.out;obtain⟨hfz47_0,hfz47_1,hfz47_2,hfz47_3,hfz47_4,hfz47_5⟩:=fz6_ BK387.out;obtain⟨hcz48_0,hcz48_1,hcz48_2,hcz48_3,hcz48_4,hcz48_5⟩:=cs6_ BK388.out;obtain⟨hfz48_0,hfz48_1,hfz48_2,hfz48_3,hfz48_4,hfz48_5⟩:=fz6_ BK388.out)|((with_reducible refine gc_ 24 rfl ?_);refine gm_ (some 9) Try.func24 (laws_eqFuncS.calls k _ _ l0_0 _ _ l1_0 true _ (cb_ HR0_0 HB) HC0_0.out (cb_ HR1_0 HB) HC1_0.out A3.out) ?_;intro w49 hb;replace BK387:=kb_ BK387 hb;replace BK388:=kb_ BK388 hb;replace HB:=bs_ HB hb;(try clear hb);obtain⟨hcz50_0,hcz50_1,hcz50_2,hcz50_3,hcz50_4,hcz50_5⟩:=cs6_ BK387.out;obtain⟨hfz50_0,hfz50_1,hfz50_2,hfz50_3,hfz50_4,hfz50_5⟩:=fz6_ BK387.out;obtain⟨hcz51_0,hcz51_1,hcz51_2,hcz51_3,hcz51_4,hcz51_5⟩:=cs6_ BK388.out;obtain⟨hfz51_0,hfz51_1,hfz51_2,hfz51_3,hfz51_4,hfz51_5⟩:=fz6_ BK388.out)|((with_reducible refine gc_ 25 rfl ?_);refine gm_ (some 15) Try.func25 (laws_eqGlobalS.calls k _ _ l0_1 _ _ l1_1 true _ (cb_ HR0_1 HB) HC0_1.out (cb_ HR1_1 HB) HC1_1.out A5.out) ?_;intro w52 hb;replace BK387:=kb_ BK387 hb;replace BK388:=kb_ BK388 hb;replace HB:=bs_ HB hb;(try clear hb);obtain⟨hcz53_0,hcz53_1,hcz53_2,hcz53_3,hcz53_4,hcz53_5⟩:=cs6_ BK387.out;obtain⟨hfz53_0,hfz53_1,hfz53_2,hfz53_3,hfz53_4,hfz53_5⟩:=fz6_ BK387.out;obtain⟨hcz54_0,hcz54_1,hcz54_2,hcz54_3,hcz54_4,hcz54_5⟩:=cs6_ BK388.out;obtain⟨hfz54_0,hfz54_1,hfz54_2,hfz54_3,hfz54_4,hfz54_5⟩:=fz6_ BK388.out))
    go_ret
    exact⟨rr_,bw HB.out⟩
   rw[if_neg c19] at H
   obtain⟨c19b0,c19b1⟩:=eF_ c19
   obtain rfl:=Option.some.inj H
   clear H
   go_enter Try.func10,Try.ntmps10
   go_wp2_with (first|((with_reducible refine gd_ 2 rfl ?_);refine bx_ #[.slice A0_0 l0_0.length c0_0,.slice A0_1 l0_1.length c0_1,.bool a0_2,.int .i64 a0_3,.int .i64 a0_4,.int .i64 a0_5] 32 ?_;intro gb387 hg w55 hbox hb;have BK387:=A_ hbox;have GW387:=gw_ hg HB;have GE387:=GW387;replace HB:=bs_ HB hb;clear hb hbox hg)|((with_reducible refine gd_ 3 rfl ?_);refine bx_ #[.slice A1_0 l1_0.length c1_0,.slice A1_1 l1_1.length c1_1,.bool a1_2,.int .i64 a1_3,.int .i64 a1_4,.int .i64 a1_5] 32 ?_;intro gb388 hg w56 hbox hb;have BK388:=A_ hbox;have GW388:=gw_ hg HB;have GE388:=GW388;obtain⟨NB387_388,NB388_387⟩:=nb_ BK387 hg;replace BK387:=kb_ BK387 hb;replace HB:=bs_ HB hb;clear hb hbox hg;have hnb57:=NB387_388.out;have hnc57:=NB388_387.out;obtain⟨hcz58_0,hcz58_1,hcz58_2,hcz58_3,hcz58_4,hcz58_5⟩:=cs6_ BK387.out;obtain⟨hfz58_0,hfz58_1,hfz58_2,hfz58_3,hfz58_4,hfz58_5⟩:=fz6_ BK387.out;obtain⟨hcz59_0,hcz59_1,hcz59_2,hcz59_3,hcz59_4,hcz59_5⟩:=cs6_ BK388.out;obtain⟨hfz59_0,hfz59_1,hfz59_2,hfz59_3,hfz59_4,hfz59_5⟩:=fz6_ BK388.out)|((with_reducible refine gc_ 24 rfl ?_);refine gm_ (some 9) Try.func24 (laws_eqFuncS.calls k _ _ l0_0 _ _ l1_0 true _ (cb_ HR0_0 HB) HC0_0.out (cb_ HR1_0 HB) HC1_0.out A3.out) ?_;intro w60 hb;replace BK387:=kb_ BK387 hb;replace BK388:=kb_ BK388 hb;replace HB:=bs_ HB hb;(try clear hb);obtain⟨hcz61_0,hcz61_1,hcz61_2,hcz61_3,hcz61_4,hcz61_5⟩:=cs6_ BK387.out;obtain⟨hfz61_0,hfz61_1,hfz61_2,hfz61_3,hfz61_4,hfz61_5⟩:=fz6_ BK387.out;obtain⟨hcz62_0,hcz62_1,hcz62_2,hcz62_3,hcz62_4,hcz62_5⟩:=cs6_ BK388.out;obtain⟨hfz62_0,hfz62_1,hfz62_2,hfz62_3,hfz62_4,hfz62_5⟩:=fz6_ BK388.out)|((with_reducible refine gc_ 25 rfl ?_);refine gm_ (some 15) Try.func25 (laws_eqGlobalS.calls k _ _ l0_1 _ _ l1_1 true _ (cb_ HR0_1 HB) HC0_1.out (cb_ HR1_1 HB) HC1_1.out A5.out) ?_;intro w63 hb;replace BK387:=kb_ BK387 hb;replace BK388:=kb_ BK388 hb;replace HB:=bs_ HB hb;(try clear hb);obtain⟨hcz64_0,hcz64_1,hcz64_2,hcz64_3,hcz64_4,hcz64_5⟩:=cs6_ BK387.out;obtain⟨hfz64_0,hfz64_1,hfz64_2,hfz64_3,hfz64_4,hfz64_5⟩:=fz6_ BK387.out;obtain⟨hcz65_0,hcz65_1,hcz65_2,hcz65_3,hcz65_4,hcz65_5⟩:=cs6_ BK388.out;obtain⟨hfz65_0,hfz65_1,hfz65_2,hfz65_3,hfz65_4,hfz65_5⟩:=fz6_ BK388.out))
   go_ret
   exact⟨rr_,bw HB.out⟩
  replace c6:=Bool.eq_false_iff.mpr c6
  subst c6
  replace H:=iF_ H
  obtain rfl:=Option.some.inj H
  clear H
  go_enter Try.func10,Try.ntmps10
  go_wp2_with (first|((with_reducible refine gd_ 2 rfl ?_);refine bx_ #[.slice A0_0 l0_0.length c0_0,.slice A0_1 l0_1.length c0_1,.bool a0_2,.int .i64 a0_3,.int .i64 a0_4,.int .i64 a0_5] 32 ?_;intro gb387 hg w66 hbox hb;have BK387:=A_ hbox;have GW387:=gw_ hg HB;have GE387:=GW387;replace HB:=bs_ HB hb;clear hb hbox hg)|((with_reducible refine gd_ 3 rfl ?_);refine bx_ #[.slice A1_0 l1_0.length c1_0,.slice A1_1 l1_1.length c1_1,.bool a1_2,.int .i64 a1_3,.int .i64 a1_4,.int .i64 a1_5] 32 ?_;intro gb388 hg w67 hbox hb;have BK388:=A_ hbox;have GW388:=gw_ hg HB;have GE388:=GW388;obtain⟨NB387_388,NB388_387⟩:=nb_ BK387 hg;replace BK387:=kb_ BK387 hb;replace HB:=bs_ HB hb;clear hb hbox hg;have hnb68:=NB387_388.out;have hnc68:=NB388_387.out;obtain⟨hcz69_0,hcz69_1,hcz69_2,hcz69_3,hcz69_4,hcz69_5⟩:=cs6_ BK387.out;obtain⟨hfz69_0,hfz69_1,hfz69_2,hfz69_3,hfz69_4,hfz69_5⟩:=fz6_ BK387.out;obtain⟨hcz70_0,hcz70_1,hcz70_2,hcz70_3,hcz70_4,hcz70_5⟩:=cs6_ BK388.out;obtain⟨hfz70_0,hfz70_1,hfz70_2,hfz70_3,hfz70_4,hfz70_5⟩:=fz6_ BK388.out)|((with_reducible refine gc_ 24 rfl ?_);refine gm_ (some 9) Try.func24 (laws_eqFuncS.calls k _ _ l0_0 _ _ l1_0 true _ (cb_ HR0_0 HB) HC0_0.out (cb_ HR1_0 HB) HC1_0.out A3.out) ?_;intro w71 hb;replace BK387:=kb_ BK387 hb;replace BK388:=kb_ BK388 hb;replace HB:=bs_ HB hb;(try clear hb);obtain⟨hcz72_0,hcz72_1,hcz72_2,hcz72_3,hcz72_4,hcz72_5⟩:=cs6_ BK387.out;obtain⟨hfz72_0,hfz72_1,hfz72_2,hfz72_3,hfz72_4,hfz72_5⟩:=fz6_ BK387.out;obtain⟨hcz73_0,hcz73_1,hcz73_2,hcz73_3,hcz73_4,hcz73_5⟩:=cs6_ BK388.out;obtain⟨hfz73_0,hfz73_1,hfz73_2,hfz73_3,hfz73_4,hfz73_5⟩:=fz6_ BK388.out)|((with_reducible refine gc_ 25 rfl ?_);refine gm_ (some 15) Try.func25 (laws_eqGlobalS.calls k _ _ l0_1 _ _ l1_1 false _ (cb_ HR0_1 HB) HC0_1.out (cb_ HR1_1 HB) HC1_1.out A5.out) ?_;intro w74 hb;replace BK387:=kb_ BK387 hb;replace BK388:=kb_ BK388 hb;replace HB:=bs_ HB hb;(try clear hb)))
  go_ret
  exact⟨rr_,bw HB.out⟩
 replace c4:=Bool.eq_false_iff.mpr c4
 subst c4
 replace H:=iF_ H
 obtain rfl:=Option.some.inj H
 clear H
 go_enter Try.func10,Try.ntmps10
 go_wp2_with (first|((with_reducible refine gd_ 2 rfl ?_);refine bx_ #[.slice A0_0 l0_0.length c0_0,.slice A0_1 l0_1.length c0_1,.bool a0_2,.int .i64 a0_3,.int .i64 a0_4,.int .i64 a0_5] 32 ?_;intro gb387 hg w75 hbox hb;have BK387:=A_ hbox;have GW387:=gw_ hg HB;have GE387:=GW387;replace HB:=bs_ HB hb;clear hb hbox hg)|((with_reducible refine gd_ 3 rfl ?_);refine bx_ #[.slice A1_0 l1_0.length c1_0,.slice A1_1 l1_1.length c1_1,.bool a1_2,.int .i64 a1_3,.int .i64 a1_4,.int .i64 a1_5] 32 ?_;intro gb388 hg w76 hbox hb;have BK388:=A_ hbox;have GW388:=gw_ hg HB;have GE388:=GW388;obtain⟨NB387_388,NB388_387⟩:=nb_ BK387 hg;replace BK387:=kb_ BK387 hb;replace HB:=bs_ HB hb;clear hb hbox hg;have hnb77:=NB387_388.out;have hnc77:=NB388_387.out;obtain⟨hcz78_0,hcz78_1,hcz78_2,hcz78_3,hcz78_4,hcz78_5⟩:=cs6_ BK387.out;obtain⟨hfz78_0,hfz78_1,hfz78_2,hfz78_3,hfz78_4,hfz78_5⟩:=fz6_ BK387.out;obtain⟨hcz79_0,hcz79_1,hcz79_2,hcz79_3,hcz79_4,hcz79_5⟩:=cs6_ BK388.out;obtain⟨hfz79_0,hfz79_1,hfz79_2,hfz79_3,hfz79_4,hfz79_5⟩:=fz6_ BK388.out)|((with_reducible refine gc_ 24 rfl ?_);refine gm_ (some 9) Try.func24 (laws_eqFuncS.calls k _ _ l0_0 _ _ l1_0 false _ (cb_ HR0_0 HB) HC0_0.out (cb_ HR1_0 HB) HC1_0.out A3.out) ?_;intro w80 hb;replace BK387:=kb_ BK387 hb;replace BK388:=kb_ BK388 hb;replace HB:=bs_ HB hb;(try clear hb)))
 go_ret
 exact⟨rr_,bw HB.out⟩

/-! ### laws_FnExactCheckFunc: function 3 -/
def laws_FnExactCheckFunc.j0:Nat→Bool→List (S56)→List (S75)→Bool→Int→Int→Int→List (S59)→List (S63)→Bool→Int→Int→Int→Option (Bool)
 |0,_,_,_,_,_,_,_,_,_,_,_,_,_=>none
 |k+1,x38,x392000,x392001,x392002,x392003,x392004,x392005,x416000,x416001,x416002,x416003,x416004,x416005=>if x38=true then (some false) else ((laws_toModule.f k x392000 x392001 x392002 x392003 x392004 x392005).bind fun bt418=>((laws_eqModule.f k x416000 x416001 x416002 x416003 x416004 x416005 bt418.1 bt418.2.1 bt418.2.2.1 bt418.2.2.2.1 bt418.2.2.2.2.1 bt418.2.2.2.2.2).bind fun t428=>(if t428=true then (some true) else (some false))))
def laws_FnExactCheckFunc.f (k:Nat) (l0_0:List (S56)) (l0_1:List (S75)) (a0_2:Bool) (a0_3:Int) (a0_4:Int) (a0_5:Int) (a1:Int):Option (Bool):=(laws_szModule.f k l0_0 l0_1 a0_2 a0_3 a0_4 a0_5 1048576).bind fun t392=>(if t392<0 then (some true) else ((laws_toModule.f k l0_0 l0_1 a0_2 a0_3 a0_4 a0_5).bind fun bt393=>((spec_CheckFunc.f k bt393.1 bt393.2.1 bt393.2.2.1 bt393.2.2.2.1 bt393.2.2.2.2.1 bt393.2.2.2.2.2 a1).bind fun bt403=>((laws_toModule.f k l0_0 l0_1 a0_2 a0_3 a0_4 a0_5).bind fun bt405=>((impl_CheckFunc.f k bt405.1 bt405.2.1 bt405.2.2.1 bt405.2.2.2.1 bt405.2.2.2.2.1 bt405.2.2.2.2.2 a1).bind fun bt416=>(if bt416.1=bt403.1 then (laws_FnExactCheckFunc.j0 k (bt416.2 !=bt403.2) l0_0 l0_1 a0_2 a0_3 a0_4 a0_5 bt405.1 bt405.2.1 bt405.2.2.1 bt405.2.2.2.1 bt405.2.2.2.2.1 bt405.2.2.2.2.2) else (laws_FnExactCheckFunc.j0 k true l0_0 l0_1 a0_2 a0_3 a0_4 a0_5 bt405.1 bt405.2.1 bt405.2.2.1 bt405.2.2.2.1 bt405.2.2.2.2.1 bt405.2.2.2.2.2)))))))
theorem laws_FnExactCheckFunc.calls (k:Nat) (A0_0:Option Addr) (c0_0:Nat) (l0_0:List (S56)) (A0_1:Option Addr) (c0_1:Nat) (l0_1:List (S75)) (a0_2:Bool) (a0_3:Int) (a0_4:Int) (a0_5:Int) (a1:Int) (r:Bool) (w:World) (hr0_0:Kd.C k56 w A0_0 l0_0.length l0_0) (hc0_0:l0_0.length≤c0_0) (hr0_1:Kd.C k75 w A0_1 l0_1.length l0_1) (hc0_1:l0_1.length≤c0_1) (hTrue:r=true) (h:laws_FnExactCheckFunc.f k l0_0 l0_1 a0_2 a0_3 a0_4 a0_5 a1=some r):
  Calls Try.prog 3 #[.agg #[.slice A0_0 l0_0.length c0_0,.slice A0_1 l0_1.length c0_1,.bool a0_2,.int .i64 a0_3,.int .i64 a0_4,.int .i64 a0_5],.int .i64 a1] w fun e w'=>e=.returned (.bool r)∧Below w.heap.size w w':=by
 have hu25:=Try.underlying25
 have hu32:=Try.underlying32
 have HR0_0:=A_ hr0_0
 have HC0_0:=A_ hc0_0
 clear hr0_0 hc0_0
 have HR0_1:=A_ hr0_1
 have HC0_1:=A_ hc0_1
 clear hr0_1 hc0_1
 have HB:=A_ (Below.refl w.heap.size w)
 have H:((laws_szModule.f k l0_0 l0_1 a0_2 a0_3 a0_4 a0_5 1048576).bind fun t392=>(if t392<0 then (some true) else ((laws_toModule.f k l0_0 l0_1 a0_2 a0_3 a0_4 a0_5).bind fun bt393=>((spec_CheckFunc.f k bt393.1 bt393.2.1 bt393.2.2.1 bt393.2.2.2.1 bt393.2.2.2.2.1 bt393.2.2.2.2.2 a1).bind fun bt403=>((laws_toModule.f k l0_0 l0_1 a0_2 a0_3 a0_4 a0_5).bind fun bt405=>((impl_CheckFunc.f k bt405.1 bt405.2.1 bt405.2.2.1 bt405.2.2.2.1 bt405.2.2.2.2.1 bt405.2.2.2.2.2 a1).bind fun bt416=>(if bt416.1=bt403.1 then (laws_FnExactCheckFunc.j0 k (bt416.2 !=bt403.2) l0_0 l0_1 a0_2 a0_3 a0_4 a0_5 bt405.1 bt405.2.1 bt405.2.2.1 bt405.2.2.2.1 bt405.2.2.2.2.1 bt405.2.2.2.2.2) else (laws_FnExactCheckFunc.j0 k true l0_0 l0_1 a0_2 a0_3 a0_4 a0_5 bt405.1 bt405.2.1 bt405.2.2.1 bt405.2.2.2.1 bt405.2.2.2.2.1 bt405.2.2.2.2.2))))))))=some r:=h
 clear h
 have HT:=A_ hTrue
 clear hTrue
 replace H:=bi_ H
 obtain⟨t392,A30,H⟩:=H
 have A3:=A_ A30
 clear A30
 by_cases c4:t392<0
 ·
  rw[if_pos c4] at H
  have c4b0:=decide_eq_true c4
  clear c4
  obtain rfl:=Option.some.inj H
  clear H
  go_enter Try.func3,Try.ntmps3
  go_wp2_with (first|((with_reducible refine gd_ 2 rfl ?_);refine bx_ #[.slice A0_0 l0_0.length c0_0,.slice A0_1 l0_1.length c0_1,.bool a0_2,.int .i64 a0_3,.int .i64 a0_4,.int .i64 a0_5] 25 ?_;intro gb391 hg w5 hbox hb;have BK391:=A_ hbox;have GW391:=gw_ hg HB;have GE391:=GW391;replace HB:=bs_ HB hb;clear hb hbox hg;obtain⟨hcz6_0,hcz6_1,hcz6_2,hcz6_3,hcz6_4,hcz6_5⟩:=cs6_ BK391.out;obtain⟨hfz6_0,hfz6_1,hfz6_2,hfz6_3,hfz6_4,hfz6_5⟩:=fz6_ BK391.out)|((with_reducible refine gc_ 6 rfl ?_);refine gm_ (some 13) Try.func6 (laws_szModule.calls k _ _ l0_0 _ _ l0_1 a0_2 a0_3 a0_4 a0_5 1048576 t392 _ (cb_ HR0_0 HB) HC0_0.out (cb_ HR0_1 HB) HC0_1.out A3.out) ?_;intro w7 hb;replace BK391:=kb_ BK391 hb;replace HB:=bs_ HB hb;(try clear hb)))
  go_ret
  exact⟨rr_,bw HB.out⟩
 rw[if_neg c4] at H
 have c4b0:=decide_eq_false c4
 clear c4
 replace H:=Option.bind_eq_some_iff.mp H
 obtain⟨⟨t393,t396,t399,t400,t401,t402⟩,A80,H⟩:=H
 replace H:((spec_CheckFunc.f k t393 t396 t399 t400 t401 t402 a1).bind fun bt403=>((laws_toModule.f k l0_0 l0_1 a0_2 a0_3 a0_4 a0_5).bind fun bt405=>((impl_CheckFunc.f k bt405.1 bt405.2.1 bt405.2.2.1 bt405.2.2.2.1 bt405.2.2.2.2.1 bt405.2.2.2.2.2 a1).bind fun bt416=>(if bt416.1=bt403.1 then (laws_FnExactCheckFunc.j0 k (bt416.2 !=bt403.2) l0_0 l0_1 a0_2 a0_3 a0_4 a0_5 bt405.1 bt405.2.1 bt405.2.2.1 bt405.2.2.2.1 bt405.2.2.2.2.1 bt405.2.2.2.2.2) else (laws_FnExactCheckFunc.j0 k true l0_0 l0_1 a0_2 a0_3 a0_4 a0_5 bt405.1 bt405.2.1 bt405.2.2.1 bt405.2.2.2.1 bt405.2.2.2.2.1 bt405.2.2.2.2.2)))))=some r:=H
 have A8:=A_ A80
 clear A80
 replace H:=Option.bind_eq_some_iff.mp H
 obtain⟨⟨t403,t404⟩,A90,H⟩:=H
 replace H:((laws_toModule.f k l0_0 l0_1 a0_2 a0_3 a0_4 a0_5).bind fun bt405=>((impl_CheckFunc.f k bt405.1 bt405.2.1 bt405.2.2.1 bt405.2.2.2.1 bt405.2.2.2.2.1 bt405.2.2.2.2.2 a1).bind fun bt416=>(if bt416.1=t403 then (laws_FnExactCheckFunc.j0 k (bt416.2 !=t404) l0_0 l0_1 a0_2 a0_3 a0_4 a0_5 bt405.1 bt405.2.1 bt405.2.2.1 bt405.2.2.2.1 bt405.2.2.2.2.1 bt405.2.2.2.2.2) else (laws_FnExactCheckFunc.j0 k true l0_0 l0_1 a0_2 a0_3 a0_4 a0_5 bt405.1 bt405.2.1 bt405.2.2.1 bt405.2.2.2.1 bt405.2.2.2.2.1 bt405.2.2.2.2.2))))=some r:=H
 have A9:=A_ A90
 clear A90
 replace H:=Option.bind_eq_some_iff.mp H
 obtain⟨⟨t405,t408,t411,t412,t413,t414⟩,A100,H⟩:=H
 replace H:((impl_CheckFunc.f k t405 t408 t411 t412 t413 t414 a1).bind fun bt416=>(if bt416.1=t403 then (laws_FnExactCheckFunc.j0 k (bt416.2 !=t404) l0_0 l0_1 a0_2 a0_3 a0_4 a0_5 t405 t408 t411 t412 t413 t414) else (laws_FnExactCheckFunc.j0 k true l0_0 l0_1 a0_2 a0_3 a0_4 a0_5 t405 t408 t411 t412 t413 t414)))=some r:=H
 have A10:=A_ A100
 clear A100
 replace H:=Option.bind_eq_some_iff.mp H
 obtain⟨⟨t416,t417⟩,A110,H⟩:=H
 replace H:(if t416=t403 then (laws_FnExactCheckFunc.j0 k (t417 !=t404) l0_0 l0_1 a0_2 a0_3 a0_4 a0_5 t405 t408 t411 t412 t413 t414) else (laws_FnExactCheckFunc.j0 k true l0_0 l0_1 a0_2 a0_3 a0_4 a0_5 t405 t408 t411 t412 t413 t414))=some r:=H
 have A11:=A_ A110
 clear A110
 have HC12:=A_ H
 clear H
 go_enter Try.func3,Try.ntmps3
 go_upto_region 8 with (first|((with_reducible refine gd_ 2 rfl ?_);refine bx_ #[.slice A0_0 l0_0.length c0_0,.slice A0_1 l0_1.length c0_1,.bool a0_2,.int .i64 a0_3,.int .i64 a0_4,.int .i64 a0_5] 25 ?_;intro gb391 hg w13 hbox hb;have BK391:=A_ hbox;have GW391:=gw_ hg HB;have GE391:=GW391;replace HB:=bs_ HB hb;clear hb hbox hg;obtain⟨hcz14_0,hcz14_1,hcz14_2,hcz14_3,hcz14_4,hcz14_5⟩:=cs6_ BK391.out;obtain⟨hfz14_0,hfz14_1,hfz14_2,hfz14_3,hfz14_4,hfz14_5⟩:=fz6_ BK391.out)|((with_reducible refine gc_ 6 rfl ?_);refine gm_ (some 13) Try.func6 (laws_szModule.calls k _ _ l0_0 _ _ l0_1 a0_2 a0_3 a0_4 a0_5 1048576 t392 _ (cb_ HR0_0 HB) HC0_0.out (cb_ HR0_1 HB) HC0_1.out A3.out) ?_;intro w15 hb;replace BK391:=kb_ BK391 hb;replace HB:=bs_ HB hb;(try clear hb);obtain⟨hcz16_0,hcz16_1,hcz16_2,hcz16_3,hcz16_4,hcz16_5⟩:=cs6_ BK391.out;obtain⟨hfz16_0,hfz16_1,hfz16_2,hfz16_3,hfz16_4,hfz16_5⟩:=fz6_ BK391.out)|((with_reducible refine gc_ 8 rfl ?_);refine goesL_ (some 18) rfl rfl Try.func8 (by kernel_rfl) rfl #[.agg #[.slice A0_0 l0_0.length c0_0,.slice A0_1 l0_1.length c0_1,.bool a0_2,.int .i64 a0_3,.int .i64 a0_4,.int .i64 a0_5]] rfl ar ?_;(with_reducible refine(laws_toModule.calls k _ _ l0_0 _ _ l0_1 a0_2 a0_3 a0_4 a0_5 t393 t396 t399 t400 t401 t402 _ ?side1 ?side2 ?side3 ?side4 A8.out).mono ?_);(case side1=>exact cb_ HR0_0 HB);(case side2=>exact HC0_0.out);(case side3=>exact cb_ HR0_1 HB);(case side4=>exact HC0_1.out);rintro e w17 ⟨v394,v397,rfl,ho0,ho1,hb⟩;refine⟨_,rfl,?_⟩;have HO395:=A_ (Kd.S_lower ho0 (below_size (bw HB.out)));have HO398:=A_ (Kd.R_lower ho1 (below_size (bw HB.out)));replace BK391:=kb_ BK391 hb;replace HB:=bs_ HB hb;(try clear hb);(try clear hb2);(try clear hk);(try clear hi);(try clear ho0);(try clear ho1);obtain⟨Ao18,co18,eo18⟩:=Kd.S_slice HO395.out;subst eo18;obtain⟨Ao19,co19,eo19⟩:=Kd.R_slice HO398.out;subst eo19)|((with_reducible refine gc_ 7 rfl ?_);refine goesL_ (some 20) rfl rfl Try.func7 (by kernel_rfl) rfl #[.agg #[.slice Ao18 t393.length co18,.slice Ao19 t396.length co19,.bool t399,.int .i64 t400,.int .i64 t401,.int .i64 t402],.int .i64 a1] rfl ar ?_;(with_reducible refine(spec_CheckFunc.calls k _ _ t393 _ _ t396 t399 t400 t401 t402 a1 t403 t404 _ ?side1 ?side2 ?side3 ?side4 A9.out).mono ?_);(case side1=>repeat (first|exact(Kd.S_reads' HO395.out).2.2|(with_reducible refine Kd.C_alloc ?_ _)|(with_reducible refine Kd.C_drewN ?_ _)|(with_reducible refine Kd.C_drew ?_)));(case side2=>exact(Kd.S_reads' HO395.out).2.1);(case side3=>repeat (first|exact(Kd.R_reads' HO398.out).2.2|(with_reducible refine Kd.C_alloc ?_ _)|(with_reducible refine Kd.C_drewN ?_ _)|(with_reducible refine Kd.C_drew ?_)));(case side4=>exact(Kd.R_reads' HO398.out).2.1);rintro e w20 ⟨rfl,hb⟩;refine⟨_,rfl,?_⟩;replace HO395:=A_ (Kd.S_below (ks_ HO395.out) hb);replace HO398:=A_ (Kd.R_below (kr_ HO398.out) hb);replace BK391:=kb_ BK391 hb;replace HB:=bs_ HB hb;(try clear hb);obtain⟨hcz21_0,hcz21_1,hcz21_2,hcz21_3,hcz21_4,hcz21_5⟩:=cs6_ BK391.out;obtain⟨hfz21_0,hfz21_1,hfz21_2,hfz21_3,hfz21_4,hfz21_5⟩:=fz6_ BK391.out)|((with_reducible refine gc_ 8 rfl ?_);refine goesL_ (some 24) rfl rfl Try.func8 (by kernel_rfl) rfl #[.agg #[.slice A0_0 l0_0.length c0_0,.slice A0_1 l0_1.length c0_1,.bool a0_2,.int .i64 a0_3,.int .i64 a0_4,.int .i64 a0_5]] rfl ar ?_;(with_reducible refine(laws_toModule.calls k _ _ l0_0 _ _ l0_1 a0_2 a0_3 a0_4 a0_5 t405 t408 t411 t412 t413 t414 _ ?side1 ?side2 ?side3 ?side4 A10.out).mono ?_);(case side1=>exact cb_ HR0_0 HB);(case side2=>exact HC0_0.out);(case side3=>exact cb_ HR0_1 HB);(case side4=>exact HC0_1.out);rintro e w22 ⟨v406,v409,rfl,ho0,ho1,hb⟩;refine⟨_,rfl,?_⟩;have HO407:=A_ (Kd.S_lower (Kd.S_new' ho0 (Kd.S_lt (ks_ HO395.out))) (below_size (bw HB.out)));have HO410:=A_ (Kd.R_lower (Kd.R_new' ho1 (Kd.R_lt (kr_ HO398.out))) (below_size (bw HB.out)));replace HO395:=A_ (Kd.S_elder' (ks_ HO395.out) (Kd.S_base ho0) hb);replace HO398:=A_ (Kd.R_elder' (kr_ HO398.out) (Kd.R_base ho1) hb);replace BK391:=kb_ BK391 hb;replace HB:=bs_ HB hb;(try clear hb);(try clear hb2);(try clear hk);(try clear hi);(try clear ho0);(try clear ho1))|((with_reducible refine gd_ 8 rfl ?_);refine bx_ #[.slice none 0 0,.slice none 0 0,.bool false,.int .i64 0,.int .i64 0,.int .i64 0] 32 ?_;intro gb415 hg w23 hbox hb;have BK415:=A_ hbox;have GW415:=gw_ hg HB;have GE415:=GW415;obtain⟨NB391_415,NB415_391⟩:=nb_ BK391 hg;replace HO395:=A_ (Kd.S_below (ks_ HO395.out) hb);replace HO398:=A_ (Kd.R_below (kr_ HO398.out) hb);replace HO407:=A_ (Kd.S_below (ks_ HO407.out) hb);replace HO410:=A_ (Kd.R_below (kr_ HO410.out) hb);replace BK391:=kb_ BK391 hb;replace HB:=bs_ HB hb;clear hb hbox hg;obtain⟨Ao24,co24,eo24⟩:=Kd.S_slice HO407.out;subst eo24;have hnb25:=NB415_391.out;have hnc25:=NB391_415.out;obtain⟨hcz26_0,hcz26_1,hcz26_2,hcz26_3,hcz26_4,hcz26_5⟩:=cs6_ BK415.out;obtain⟨hfz26_0,hfz26_1,hfz26_2,hfz26_3,hfz26_4,hfz26_5⟩:=fz6_ BK415.out;obtain⟨Ao27,co27,eo27⟩:=Kd.R_slice HO410.out;subst eo27)|((with_reducible refine gate_store (t:=32) (p:=8) rfl ?_);refine store_event (t:=32) (p:=8) (v:=?vo_w28) (w1:=((((((w23.setCell ⟨gb415,0,none⟩ (.slice Ao24 t405.length co24)).setCell ⟨gb415,1,none⟩ (.slice Ao27 t408.length co27)).setCell ⟨gb415,2,none⟩ (.bool t411)).setCell ⟨gb415,3,none⟩ (.int .i64 t412)).setCell ⟨gb415,4,none⟩ (.int .i64 t413)).setCell ⟨gb415,5,none⟩ (.int .i64 t414))) ?hg ?ho ?hn ?hr ?_;(case ho=>rfl);(case hg=>rfl);(case hn=>rfl);(case hr=>first|(go_simp;done)|(go_simp;rfl));intro w28 hw;replace HO395:Aside0 (Kd.S k59 59 w28 w.heap.size (fun k_=>some k_≠(.slice Ao24 t405.length co24:Value).ownBlock) (.slice Ao18 t393.length co18) t393):=⟨(by rw[hw];exact(by(with_reducible repeat (first|apply Kd.S_alloc|apply Kd.S_drewN|apply Kd.S_drew));exact Kd.S_mono (Kd.S_far (p:=⟨gb415,5,none⟩) (Kd.S_far (p:=⟨gb415,4,none⟩) (Kd.S_far (p:=⟨gb415,3,none⟩) (Kd.S_far (p:=⟨gb415,2,none⟩) (Kd.S_far (p:=⟨gb415,1,none⟩) (Kd.S_far (p:=⟨gb415,0,none⟩) (Kd.S_types HO395.out BK415.out (by decide)) (fun _ hk=>hk.2) (.slice Ao24 t405.length co24)) (fun _ hk=>hk.2) (.slice Ao27 t408.length co27)) (fun _ hk=>hk.2) (.bool t411)) (fun _ hk=>hk.2) (.int .i64 t412)) (fun _ hk=>hk.2) (.int .i64 t413)) (fun _ hk=>hk.2) (.int .i64 t414)) (fun _ hk=>hk.1.2)))⟩;replace HO398:Aside0 (Kd.R k63 63 w28 w.heap.size (fun k_=>some k_≠(.slice Ao27 t408.length co27:Value).ownBlock) (.slice Ao19 t396.length co19) t396):=⟨(by rw[hw];exact(by(with_reducible repeat (first|apply Kd.R_alloc|apply Kd.R_drewN|apply Kd.R_drew));exact Kd.R_mono (Kd.R_far (p:=⟨gb415,5,none⟩) (Kd.R_far (p:=⟨gb415,4,none⟩) (Kd.R_far (p:=⟨gb415,3,none⟩) (Kd.R_far (p:=⟨gb415,2,none⟩) (Kd.R_far (p:=⟨gb415,1,none⟩) (Kd.R_far (p:=⟨gb415,0,none⟩) (Kd.R_types HO398.out BK415.out (by decide)) (fun _ hk=>hk.2) (.slice Ao24 t405.length co24)) (fun _ hk=>hk.2) (.slice Ao27 t408.length co27)) (fun _ hk=>hk.2) (.bool t411)) (fun _ hk=>hk.2) (.int .i64 t412)) (fun _ hk=>hk.2) (.int .i64 t413)) (fun _ hk=>hk.2) (.int .i64 t414)) (fun _ hk=>hk.1.2)))⟩;replace HO407:Aside0 (Kd.S k59 59 w28 w.heap.size (fun k_=>some k_≠(.slice Ao18 t393.length co18:Value).ownBlock) (.slice Ao24 t405.length co24) t405):=⟨(by rw[hw];exact(by(with_reducible repeat (first|apply Kd.S_alloc|apply Kd.S_drewN|apply Kd.S_drew));exact Kd.S_mono (Kd.S_far (p:=⟨gb415,5,none⟩) (Kd.S_far (p:=⟨gb415,4,none⟩) (Kd.S_far (p:=⟨gb415,3,none⟩) (Kd.S_far (p:=⟨gb415,2,none⟩) (Kd.S_far (p:=⟨gb415,1,none⟩) (Kd.S_far (p:=⟨gb415,0,none⟩) (Kd.S_types HO407.out BK415.out (by decide)) (fun _ hk=>hk.2) (.slice Ao24 t405.length co24)) (fun _ hk=>hk.2) (.slice Ao27 t408.length co27)) (fun _ hk=>hk.2) (.bool t411)) (fun _ hk=>hk.2) (.int .i64 t412)) (fun _ hk=>hk.2) (.int .i64 t413)) (fun _ hk=>hk.2) (.int .i64 t414)) (fun _ hk=>hk.1.2)))⟩;replace HO410:Aside0 (Kd.R k63 63 w28 w.heap.size (fun k_=>some k_≠(.slice Ao19 t396.length co19:Value).ownBlock) (.slice Ao27 t408.length co27) t408):=⟨(by rw[hw];exact(by(with_reducible repeat (first|apply Kd.R_alloc|apply Kd.R_drewN|apply Kd.R_drew));exact Kd.R_mono (Kd.R_far (p:=⟨gb415,5,none⟩) (Kd.R_far (p:=⟨gb415,4,none⟩) (Kd.R_far (p:=⟨gb415,3,none⟩) (Kd.R_far (p:=⟨gb415,2,none⟩) (Kd.R_far (p:=⟨gb415,1,none⟩) (Kd.R_far (p:=⟨gb415,0,none⟩) (Kd.R_types HO410.out BK415.out (by decide)) (fun _ hk=>hk.2) (.slice Ao24 t405.length co24)) (fun _ hk=>hk.2) (.slice Ao27 t408.length co27)) (fun _ hk=>hk.2) (.bool t411)) (fun _ hk=>hk.2) (.int .i64 t412)) (fun _ hk=>hk.2) (.int .i64 t413)) (fun _ hk=>hk.2) (.int .i64 t414)) (fun _ hk=>hk.1.2)))⟩;replace BK391:Aside0 (w28.heap[gb391]? =some (.cells #[.slice A0_0 l0_0.length c0_0,.slice A0_1 l0_1.length c0_1,.bool a0_2,.int .i64 a0_3,.int .i64 a0_4,.int .i64 a0_5] 25 (0,0))):=⟨(by rw[hw];exact(by refine blk_far ?_ NB391_415.out _;refine blk_far ?_ NB391_415.out _;refine blk_far ?_ NB391_415.out _;refine blk_far ?_ NB391_415.out _;refine blk_far ?_ NB391_415.out _;refine blk_far ?_ NB391_415.out _;(with_reducible repeat (first|refine blk_drewN ?_ _|refine blk_drew ?_|refine blk_alloc ?_ _));exact BK391.out))⟩;replace BK415:Aside0 (w28.heap[gb415]? =some (.cells #[.slice Ao24 t405.length co24,.slice Ao27 t408.length co27,.bool t411,.int .i64 t412,.int .i64 t413,.int .i64 t414] 32 (0,0))):=⟨(by rw[hw];exact(by refine blk_put (cs:=#[.slice Ao24 t405.length co24,.slice Ao27 t408.length co27,.bool t411,.int .i64 t412,.int .i64 t413,.int .i64 0]) ?_ 5 _ rfl;refine blk_put (cs:=#[.slice Ao24 t405.length co24,.slice Ao27 t408.length co27,.bool t411,.int .i64 t412,.int .i64 0,.int .i64 0]) ?_ 4 _ rfl;refine blk_put (cs:=#[.slice Ao24 t405.length co24,.slice Ao27 t408.length co27,.bool t411,.int .i64 0,.int .i64 0,.int .i64 0]) ?_ 3 _ rfl;refine blk_put (cs:=#[.slice Ao24 t405.length co24,.slice Ao27 t408.length co27,.bool false,.int .i64 0,.int .i64 0,.int .i64 0]) ?_ 2 _ rfl;refine blk_put (cs:=#[.slice Ao24 t405.length co24,.slice none 0 0,.bool false,.int .i64 0,.int .i64 0,.int .i64 0]) ?_ 1 _ rfl;refine blk_put (cs:=#[.slice none 0 0,.slice none 0 0,.bool false,.int .i64 0,.int .i64 0,.int .i64 0]) ?_ 0 _ rfl;(with_reducible repeat (first|refine blk_drewN ?_ _|refine blk_drew ?_|refine blk_alloc ?_ _));exact BK415.out))⟩;replace HB:Aside0 (Below w.heap.size w w28):=⟨(by rw[hw];exact(bw HB.out))⟩;clear hw;obtain⟨hcz29_0,hcz29_1,hcz29_2,hcz29_3,hcz29_4,hcz29_5⟩:=cs6_ BK415.out;obtain⟨hfz29_0,hfz29_1,hfz29_2,hfz29_3,hfz29_4,hfz29_5⟩:=fz6_ BK415.out)|((with_reducible refine gc_ 9 rfl ?_);refine goesL_ (some 28) rfl rfl Try.func9 (by kernel_rfl) rfl #[.agg #[.slice Ao24 t405.length co24,.slice Ao27 t408.length co27,.bool t411,.int .i64 t412,.int .i64 t413,.int .i64 t414],.int .i64 a1] rfl ar ?_;(with_reducible refine(impl_CheckFunc.calls k _ _ t405 _ _ t408 t411 t412 t413 t414 a1 t416 t417 _ ?side1 ?side2 ?side3 ?side4 A11.out).mono ?_);(case side1=>repeat (first|exact(Kd.S_reads' HO407.out).2.2|(with_reducible refine Kd.C_alloc ?_ _)|(with_reducible refine Kd.C_drewN ?_ _)|(with_reducible refine Kd.C_drew ?_)));(case side2=>exact(Kd.S_reads' HO407.out).2.1);(case side3=>repeat (first|exact(Kd.R_reads' HO410.out).2.2|(with_reducible refine Kd.C_alloc ?_ _)|(with_reducible refine Kd.C_drewN ?_ _)|(with_reducible refine Kd.C_drew ?_)));(case side4=>exact(Kd.R_reads' HO410.out).2.1);rintro e w30 ⟨rfl,hb⟩;refine⟨_,rfl,?_⟩;replace HO395:=A_ (Kd.S_below (ks_ HO395.out) hb);replace HO398:=A_ (Kd.R_below (kr_ HO398.out) hb);replace HO407:=A_ (Kd.S_below (ks_ HO407.out) hb);replace HO410:=A_ (Kd.R_below (kr_ HO410.out) hb);replace BK391:=kb_ BK391 hb;replace BK415:=kb_ BK415 hb;replace HB:=bs_ HB hb;(try clear hb)))
 (try simp only[Act.put,List.setIfInBounds_toArray,List.set_cons_zero,List.set_cons_succ])
 go_cut [38] (fun v38 wc=>∃ (kq:Nat) (x38_11:Bool),v38=.bool x38_11∧Aside0 (laws_FnExactCheckFunc.j0 kq x38_11 l0_0 l0_1 a0_2 a0_3 a0_4 a0_5 t405 t408 t411 t412 t413 t414=some r)∧Aside0 (kq≤k)∧Aside0 (Kd.S k59 59 wc w.heap.size (fun _=>True) (.slice Ao24 t405.length co24) t405)∧Aside0 (Kd.R k63 63 wc w.heap.size (fun _=>True) (.slice Ao27 t408.length co27) t408)∧Aside0 (wc.heap[gb391]? =some (.cells #[(.slice A0_0 l0_0.length c0_0),(.slice A0_1 l0_1.length c0_1),.bool a0_2,.int .i64 a0_3,.int .i64 a0_4,.int .i64 a0_5] 25 (0,0)))∧Aside0 (wc.heap[gb415]? =some (.cells #[(.slice Ao24 t405.length co24),(.slice Ao27 t408.length co27),.bool t411,.int .i64 t412,.int .i64 t413,.int .i64 t414] 32 (0,0)))∧Aside0 (Below w.heap.size w wc))
 case first=>
  have H:=HC12.out
  clear HC12
  by_cases c31:t416=t403
  ·
   rw[if_pos c31] at H
   obtain⟨c31b0,c31b1⟩:=eT_ c31
   clear c31
   (first|rw[c31b0]|(simp only[i64_w,i32_w];rw[c31b0])|skip)
   have H':=A_ H
   clear H
   go_wp2
   go_meet
   case rel=>exact⟨_,((t417 !=t404)),rs_,H',⟨by first|omega|exact Nat.le_refl _⟩,⟨by (with_reducible repeat (first|apply Kd.S_alloc|apply Kd.S_drewN|apply Kd.S_drew));exact Kd.S_mono HO407.out (fun _ hk=>trivial)⟩,⟨by (with_reducible repeat (first|apply Kd.R_alloc|apply Kd.R_drewN|apply Kd.R_drew));exact Kd.R_mono HO410.out (fun _ hk=>trivial)⟩,⟨bk BK391.out⟩,⟨bk BK415.out⟩,⟨bw HB.out⟩⟩
  rw[if_neg c31] at H
  obtain⟨c31b0,c31b1⟩:=eF_ c31
  (first|rw[c31b0]|(simp only[i64_w,i32_w];rw[c31b0])|skip)
  have H':=A_ H
  clear H
  go_wp2
  go_meet
  case rel=>exact⟨_,(true),rs_,H',⟨by first|omega|exact Nat.le_refl _⟩,⟨by (with_reducible repeat (first|apply Kd.S_alloc|apply Kd.S_drewN|apply Kd.S_drew));exact Kd.S_mono HO407.out (fun _ hk=>trivial)⟩,⟨by (with_reducible repeat (first|apply Kd.R_alloc|apply Kd.R_drewN|apply Kd.R_drew));exact Kd.R_mono HO410.out (fun _ hk=>trivial)⟩,⟨bk BK391.out⟩,⟨bk BK415.out⟩,⟨bw HB.out⟩⟩
 case rest=>
  clear HC12
  try clear c4 c4b0 hcz14_0 hcz14_1 hcz14_2 hcz14_3 hcz14_4 hcz14_5 hcz16_0 hcz16_1 hcz16_2 hcz16_3 hcz16_4 hcz16_5 hcz21_0 hcz21_1 hcz21_2 hcz21_3 hcz21_4 hcz21_5 hcz26_0 hcz26_1 hcz26_2 hcz26_3 hcz26_4 hcz26_5 hcz29_0 hcz29_1 hcz29_2 hcz29_3 hcz29_4 hcz29_5 hfz14_0 hfz14_1 hfz14_2 hfz14_3 hfz14_4 hfz14_5 hfz16_0 hfz16_1 hfz16_2 hfz16_3 hfz16_4 hfz16_5 hfz21_0 hfz21_1 hfz21_2 hfz21_3 hfz21_4 hfz21_5 hfz26_0 hfz26_1 hfz26_2 hfz26_3 hfz26_4 hfz26_5 hfz29_0 hfz29_1 hfz29_2 hfz29_3 hfz29_4 hfz29_5
  obtain⟨kq,x38_11,rfl,HA,HJ11,HO_416000,HO_416001,BK391,BK415,HB⟩:=hcut
  cases kq with
  |zero=>exact absurd HA.out (by simp[laws_FnExactCheckFunc.j0])
  |succ kj11=>
   have H:=HA.out
   clear HA
   simp only[laws_FnExactCheckFunc.j0] at H
   by_cases c32:x38_11=true
   ·
    subst c32
    replace H:=iT_ H
    obtain rfl:=Option.some.inj H
    exact absurd HT.out (by decide)
   replace c32:=Bool.eq_false_iff.mpr c32
   subst c32
   replace H:=iF_ H
   replace H:=Option.bind_eq_some_iff.mp H
   obtain⟨⟨t418,t421,t424,t425,t426,t427⟩,A330,H⟩:=H
   replace H:((laws_eqModule.f kj11 t405 t408 t411 t412 t413 t414 t418 t421 t424 t425 t426 t427).bind fun t428=>(if t428=true then (some true) else (some false)))=some r:=H
   have A33:=A_ A330
   clear A330
   replace H:=bi_ H
   obtain⟨t428,A340,H⟩:=H
   have A34:=A_ A340
   clear A340
   by_cases c35:t428=true
   ·
    subst c35
    replace H:=iT_ H
    obtain rfl:=Option.some.inj H
    clear H
    try go_wp2
    have n0_:=A_ (Kd.S_drew HO_416000.out)
    have n1_:=A_ (Kd.R_drew HO_416001.out)
    have n2_:=A_ (blk_drew BK391.out)
    have n3_:=A_ (blk_drew BK415.out)
    have n4_:=A_ (below_drew1 HB.out)
    clear HO_416000 HO_416001 BK391 BK415 HB
    have HO_416000:=n0_
    have HO_416001:=n1_
    have BK391:=n2_
    have BK415:=n3_
    have HB:=n4_
    clear n0_ n1_ n2_ n3_ n4_
    refine start_ (n:=5) (S:=fun w'=>w'.cell? ⟨gb415,0,none⟩=some (.slice Ao24 t405.length co24)∧w'.cell? ⟨gb415,1,none⟩=some (.slice Ao27 t408.length co27)∧w'.cell? ⟨gb415,2,none⟩=some (.bool t411)∧w'.cell? ⟨gb415,3,none⟩=some (.int .i64 t412)∧w'.cell? ⟨gb415,4,none⟩=some (.int .i64 t413)∧w'.cell? ⟨gb415,5,none⟩=some (.int .i64 t414)∧w'.cell? ⟨gb391,0,none⟩=some (.slice A0_0 l0_0.length c0_0)∧w'.cell? ⟨gb391,1,none⟩=some (.slice A0_1 l0_1.length c0_1)∧w'.cell? ⟨gb391,2,none⟩=some (.bool a0_2)∧w'.cell? ⟨gb391,3,none⟩=some (.int .i64 a0_3)∧w'.cell? ⟨gb391,4,none⟩=some (.int .i64 a0_4)∧w'.cell? ⟨gb391,5,none⟩=some (.int .i64 a0_5)) (ds:=[]) #[false,false,false,false,false] (by kernel_rfl) rfl rfl ⟨(blk_cell BK415.out 0).trans rfl,(blk_cell BK415.out 1).trans rfl,(blk_cell BK415.out 2).trans rfl,(blk_cell BK415.out 3).trans rfl,(blk_cell BK415.out 4).trans rfl,(blk_cell BK415.out 5).trans rfl,(blk_cell BK391.out 0).trans rfl,(blk_cell BK391.out 1).trans rfl,(blk_cell BK391.out 2).trans rfl,(blk_cell BK391.out 3).trans rfl,(blk_cell BK391.out 4).trans rfl,(blk_cell BK391.out 5).trans rfl⟩ (fun hHeld=>?_)
    generalize wc.drew=w36 at HO_416000 HO_416001 BK391 BK415 HB hHeld ⊢
    refine take_ (i:=0) (N:=some 39) (v:=?_) (a':=?_) #[true,false,false,false,false] rfl rfl (by kernel_rfl) (fun _ _ _ h=>h) (Or.inl ⟨by rfl,?_⟩) hHeld ?_ ?_
    rotate_left
    ·
     rintro w' ⟨s0,s1,s2,s3,s4,s5,s6,s7,s8,s9,s10,s11⟩
     go_simp
     with_reducible rfl
    rotate_left
    ·
     simp only[Act.put,List.setIfInBounds_toArray,List.set_cons_zero,List.set_cons_succ,i64_w,i32_w]
     rfl
    refine take_ (i:=1) (N:=some 40) (v:=?_) (a':=?_) #[true,true,false,false,false] rfl rfl (by kernel_rfl) (fun _ _ _ h=>h) (Or.inl ⟨by rfl,?_⟩) hHeld ?_ ?_
    rotate_left
    ·
     rintro w' ⟨s0,s1,s2,s3,s4,s5,s6,s7,s8,s9,s10,s11⟩
     go_simp
     with_reducible rfl
    rotate_left
    ·
     simp only[Act.put,List.setIfInBounds_toArray,List.set_cons_zero,List.set_cons_succ,i64_w,i32_w]
     rfl
    refine one_ (i:=2) (N:=some 41) #[true,true,true,false,false] rfl rfl (by kernel_rfl) (by decide) (fun K hK=>?_)
    refine goes_ Try.func8 (by kernel_rfl) rfl #[.agg #[.slice A0_0 l0_0.length c0_0,.slice A0_1 l0_1.length c0_1,.bool a0_2,.int .i64 a0_3,.int .i64 a0_4,.int .i64 a0_5]] (by rfl) rfl rfl ar ?_
    with_reducible refine(laws_toModule.calls kj11 _ _ l0_0 _ _ l0_1 a0_2 a0_3 a0_4 a0_5 t418 t421 t424 t425 t426 t427 _ ?side1 ?side2 ?side3 ?side4 A33.out).mono ?_
    (case side1=>repeat (first|exact(Kd.C_below HR0_0.out HB.out)|(with_reducible refine Kd.C_alloc ?_ _)|(with_reducible refine Kd.C_drewN ?_ _)|(with_reducible refine Kd.C_drew ?_)))
    (case side2=>exact HC0_0.out)
    (case side3=>repeat (first|exact(Kd.C_below HR0_1.out HB.out)|(with_reducible refine Kd.C_alloc ?_ _)|(with_reducible refine Kd.C_drewN ?_ _)|(with_reducible refine Kd.C_drew ?_)))
    (case side4=>exact HC0_1.out)
    rintro e w37 ⟨v419,v422,rfl,ho0,ho1,hb⟩
    refine⟨_,rfl,?_⟩
    have n0_:=A_ (Kd.S_elder' (ks_ HO_416000.out) (Kd.S_base ho0) hb)
    have n1_:=A_ (Kd.R_elder' (kr_ HO_416001.out) (Kd.R_base ho1) hb)
    have n2_:=A_ (Kd.S_lower (Kd.S_new' ho0 (Kd.S_lt (ks_ HO_416000.out))) (below_size (bw HB.out)))
    have n3_:=A_ (Kd.R_lower (Kd.R_new' ho1 (Kd.R_lt (kr_ HO_416001.out))) (below_size (bw HB.out)))
    have n4_:=A_ (blk_below (g:=gb391) (o:=.cells #[.slice A0_0 l0_0.length c0_0,.slice A0_1 l0_1.length c0_1,.bool a0_2,.int .i64 a0_3,.int .i64 a0_4,.int .i64 a0_5] 25 (0,0)) (bk BK391.out) hb)
    have n5_:=A_ (blk_below (g:=gb415) (o:=.cells #[.slice Ao24 t405.length co24,.slice Ao27 t408.length co27,.bool t411,.int .i64 t412,.int .i64 t413,.int .i64 t414] 32 (0,0)) (bk BK415.out) hb)
    have n6_:=A_ (below_step (bw HB.out) hb)
    clear HO_416000 HO_416001 BK391 BK415 HB
    have HO_416000:=n0_
    have HO_416001:=n1_
    have HO420:=n2_
    have HO423:=n3_
    have BK391:=n4_
    have BK415:=n5_
    have HB:=n6_
    clear n0_ n1_ n2_ n3_ n4_ n5_ n6_
    (try clear hb)
    (try clear hb2)
    (try clear hk)
    (try clear hi)
    (try clear ho0)
    (try clear ho1)
    obtain⟨Ao38,co38,eo38⟩:=Kd.S_slice HO420.out
    (first|subst eo38|(injection eo38 with f1_ f2_ f3_;have f4_:=f1_.symm;have f5_:=f3_.symm;clear f1_ f2_ f3_;subst f4_;subst f5_))
    obtain⟨Ao39,co39,eo39⟩:=Kd.R_slice HO423.out
    (first|subst eo39|(injection eo39 with f1_ f2_ f3_;have f4_:=f1_.symm;have f5_:=f3_.symm;clear f1_ f2_ f3_;subst f4_;subst f5_))
    refine hK.out _ _ ⟨(blk_cell BK415.out 0).trans rfl,(blk_cell BK415.out 1).trans rfl,(blk_cell BK415.out 2).trans rfl,(blk_cell BK415.out 3).trans rfl,(blk_cell BK415.out 4).trans rfl,(blk_cell BK415.out 5).trans rfl,(blk_cell BK391.out 0).trans rfl,(blk_cell BK391.out 1).trans rfl,(blk_cell BK391.out 2).trans rfl,(blk_cell BK391.out 3).trans rfl,(blk_cell BK391.out 4).trans rfl,(blk_cell BK391.out 5).trans rfl⟩ (fun hHeld=>?_)
    clear hK K
    refine norm_ (a':=?_) ?_ ?_
    rotate_left
    ·
     show Act.put _ (some 41) _=_
     simp only[Act.put,List.setIfInBounds_toArray,List.set_cons_zero,List.set_cons_succ,i64_w,i32_w]
     rfl
    refine one_ (i:=3) (N:=some 42) #[true,true,true,true,false] rfl rfl (by kernel_rfl) (by decide) (fun K hK=>?_)
    refine goes_ Try.func10 (by kernel_rfl) rfl #[.agg #[.slice Ao24 t405.length co24,.slice Ao27 t408.length co27,.bool t411,.int .i64 t412,.int .i64 t413,.int .i64 t414],.agg #[.slice Ao38 t418.length co38,.slice Ao39 t421.length co39,.bool t424,.int .i64 t425,.int .i64 t426,.int .i64 t427]] (by rfl) rfl rfl ar ?_
    with_reducible refine(laws_eqModule.calls kj11 _ _ t405 _ _ t408 t411 t412 t413 t414 _ _ t418 _ _ t421 t424 t425 t426 t427 true _ ?side1 ?side2 ?side3 ?side4 ?side5 ?side6 ?side7 ?side8 A34.out).mono ?_
    (case side1=>repeat (first|exact(Kd.S_reads' HO_416000.out).2.2|(with_reducible refine Kd.C_alloc ?_ _)|(with_reducible refine Kd.C_drewN ?_ _)|(with_reducible refine Kd.C_drew ?_)))
    (case side2=>exact(Kd.S_reads' HO_416000.out).2.1)
    (case side3=>repeat (first|exact(Kd.R_reads' HO_416001.out).2.2|(with_reducible refine Kd.C_alloc ?_ _)|(with_reducible refine Kd.C_drewN ?_ _)|(with_reducible refine Kd.C_drew ?_)))
    (case side4=>exact(Kd.R_reads' HO_416001.out).2.1)
    (case side5=>repeat (first|exact(Kd.S_reads' HO420.out).2.2|(with_reducible refine Kd.C_alloc ?_ _)|(with_reducible refine Kd.C_drewN ?_ _)|(with_reducible refine Kd.C_drew ?_)))
    (case side6=>exact(Kd.S_reads' HO420.out).2.1)
    (case side7=>repeat (first|exact(Kd.R_reads' HO423.out).2.2|(with_reducible refine Kd.C_alloc ?_ _)|(with_reducible refine Kd.C_drewN ?_ _)|(with_reducible refine Kd.C_drew ?_)))
    (case side8=>exact(Kd.R_reads' HO423.out).2.1)
    rintro e w40 ⟨rfl,hb⟩
    refine⟨_,rfl,?_⟩
    have n0_:=A_ (Kd.S_below (ks_ HO_416000.out) hb)
    have n1_:=A_ (Kd.R_below (kr_ HO_416001.out) hb)
    have n2_:=A_ (Kd.S_below (ks_ HO420.out) hb)
    have n3_:=A_ (Kd.R_below (kr_ HO423.out) hb)
    have n4_:=A_ (blk_below (g:=gb391) (o:=.cells #[.slice A0_0 l0_0.length c0_0,.slice A0_1 l0_1.length c0_1,.bool a0_2,.int .i64 a0_3,.int .i64 a0_4,.int .i64 a0_5] 25 (0,0)) (bk BK391.out) hb)
    have n5_:=A_ (blk_below (g:=gb415) (o:=.cells #[.slice Ao24 t405.length co24,.slice Ao27 t408.length co27,.bool t411,.int .i64 t412,.int .i64 t413,.int .i64 t414] 32 (0,0)) (bk BK415.out) hb)
    have n6_:=A_ (below_step (bw HB.out) hb)
    clear HO_416000 HO_416001 HO420 HO423 BK391 BK415 HB
    have HO_416000:=n0_
    have HO_416001:=n1_
    have HO420:=n2_
    have HO423:=n3_
    have BK391:=n4_
    have BK415:=n5_
    have HB:=n6_
    clear n0_ n1_ n2_ n3_ n4_ n5_ n6_
    (try clear hb)
    (try clear hb2)
    (try clear hk)
    (try clear hi)
    refine hK.out _ _ ⟨(blk_cell BK415.out 0).trans rfl,(blk_cell BK415.out 1).trans rfl,(blk_cell BK415.out 2).trans rfl,(blk_cell BK415.out 3).trans rfl,(blk_cell BK415.out 4).trans rfl,(blk_cell BK415.out 5).trans rfl,(blk_cell BK391.out 0).trans rfl,(blk_cell BK391.out 1).trans rfl,(blk_cell BK391.out 2).trans rfl,(blk_cell BK391.out 3).trans rfl,(blk_cell BK391.out 4).trans rfl,(blk_cell BK391.out 5).trans rfl⟩ (fun hHeld=>?_)
    clear hK K
    refine norm_ (a':=?_) ?_ ?_
    rotate_left
    ·
     show Act.put _ (some 42) _=_
     simp only[Act.put,List.setIfInBounds_toArray,List.set_cons_zero,List.set_cons_succ,i64_w,i32_w]
     rfl
    refine pure_ (i:=4) (N:=some 43) (v:=?_) (a':=?_) #[true,true,true,true,true] rfl rfl (by kernel_rfl) (fun _ _ _ h=>h) (Or.inl ⟨by rfl,?_⟩) ?_ ?_
    rotate_left
    ·
     intro w'
     go_simp
     with_reducible rfl
    rotate_left
    ·
     simp only[Act.put,List.setIfInBounds_toArray,List.set_cons_zero,List.set_cons_succ,i64_w,i32_w]
     rfl
    refine done_ (by kernel_rfl) ?_
    try go_wp2
    go_ret
    exact⟨rr_,bw HB.out⟩
   replace c35:=Bool.eq_false_iff.mpr c35
   subst c35
   replace H:=iF_ H
   obtain rfl:=Option.some.inj H
   exact absurd HT.out (by decide)

/-- THE ONE PURE STATEMENT of laws_FnExactCheckFunc. -/
def laws_FnExactCheckFunc.Pure:Prop:=∀ (l0_0:List (S56)) (l0_1:List (S75)) (a0_2:Bool) (a0_3:Int) (a0_4:Int) (a0_5:Int) (a1:Int),(l0_0.length≤maxLen∧∀ y1∈l0_0,((y1.f0.length≤maxLen∧∀ y2∈y1.f0,(Lit.int .i64 y2).wf=true)∧(Lit.int .i64 y1.f1).wf=true∧(y1.f2.length≤maxLen∧∀ y2∈y1.f2,(Lit.int .i64 y2).wf=true)∧(y1.f3.length≤maxLen∧∀ y2∈y1.f3,((Lit.int .i64 y2.f0).wf=true∧(Lit.int .i64 y2.f1).wf=true))))→(l0_1.length≤maxLen∧∀ y1∈l0_1,((Lit.int .i64 y1.f0).wf=true∧True∧(Lit.int .u64 y1.f2).wf=true))→(Lit.int .i64 a0_3).wf=true→(Lit.int .i64 a0_4).wf=true→(Lit.int .i64 a0_5).wf=true→(Lit.int .i64 a1).wf=true→∃ k,laws_FnExactCheckFunc.f k l0_0 l0_1 a0_2 a0_3 a0_4 a0_5 a1=some true

end Go.Proofs.Ytghogonibanieaa.Q

