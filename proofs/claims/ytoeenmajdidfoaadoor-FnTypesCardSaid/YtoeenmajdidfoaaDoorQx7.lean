-- Written by a program of this session; it walks the functions that the law reaches.
import Derived.Test.YtoeenmajdidfoaaDoorQx0
import Derived.Test.YtoeenmajdidfoaaDoorQx6
namespace Go.Proofs.YtoeenmajdidfoaaDoor.Q
open Go.RowKit Go.Proofs.YtoeenmajdidfoaaDoorW.PrintWords Go.Proofs.YtoeenmajdidfoaaDoorW.PrintLast Go.Proofs.YtoeenmajdidfoaaDoorW.PrintMore
attribute [local go_sem] max2_int min2_int max_two min_two max_three min_three max_four min_four   -- for this text's walks alone
set_option linter.unusedVariables false
set_option linter.unusedSimpArgs false
set_option maxRecDepth 100000
set_option maxHeartbeats 8000000

/-! ### spec_l1Num: function 29 -/
def spec_l1Num.f:Nat→Int→Option (ByteArray)
 |0,_=>none
 |k+1,a0=>if a0<0 then (if a0=(-9223372036854775808) then (some (⟨#[45,57,50,50,51,51,55,50,48,51,54,56,53,52,55,55,53,56,48,56]⟩:ByteArray)) else ((spec_l1Num.f k (wrap64 (-a0))).bind fun t264=>(if 1+t264.size≤9223372036854775807 then (some ((⟨#[45]⟩:ByteArray)++t264)) else (none)))) else (if a0<10 then (some (strOfNums (([(wrap64 (48+a0)) % 256]:List Int)))) else ((spec_l1Num.f k (wrap64 (Int.tdiv a0 10))).bind fun t268=>((some (([(wrap64 (48+(Int.tmod a0 10))) % 256]:List Int):List Int)).bind fun y269=>(if t268.size+(strOfNums y269).size≤9223372036854775807 then (some (t268++(strOfNums y269))) else (none)))))
theorem spec_l1Num.mono_l:∀ k,(∀ y0,LeO (spec_l1Num.f k y0) (spec_l1Num.f (k+1) y0))
 |0=>fun _ r h=>by simp[spec_l1Num.f] at h
 |k+1=>by
  have ih0:=spec_l1Num.mono_l k
  intro y0
  unfold spec_l1Num.f
  repeat' first
  |(with_reducible exact ih0 _)
  |(with_reducible exact LeO.refl _)
  |(with_reducible exact LeO.none _)
  |(with_reducible refine LeO.ite ?_ ?_)
  |(with_reducible refine LeO.bind ?_ (fun _=>?_))
  |exact ih0 _
  |exact LeO.none _
  |refine LeO.ite ?_ ?_
  |refine LeO.bind ?_ (fun _=>?_)
theorem spec_l1Num.mono:∀ a0 k,LeO (spec_l1Num.f k a0) (spec_l1Num.f (k+1) a0):=by
 intro a0 k
 have ih0:=spec_l1Num.mono_l k
 exact ih0 a0
def spec_l1Num.T7:Bool × List (List Nat × List Nat):=(true,[([],[]),([0],[0]),([1],[1]),([],[]),([3],[3]),([4],[4]),([5],[5]),([6],[6]),([7],[7]),([2,8],[2,8]),([9,2,0,1,2,3,4,5,6,7,8,9],[9])])
def spec_l1Num.B7:List Nat:=[0,1,3,0,8,24,56,120,248,511,1023]
theorem spec_l1Num.tab7:rtab .any (opsOf Tryd.f29 7)=spec_l1Num.T7:=by kernel_rfl
theorem spec_l1Num.bits7:waitsOk spec_l1Num.T7.2 spec_l1Num.B7=true:=by kernel_rfl
theorem spec_l1Num.calls (k:Nat):∀ (a0:Int) (r:ByteArray) (w:World) (h:spec_l1Num.f k a0=some r),
  Calls Tryd.prog 29 #[.int .i64 a0] w fun e w'=>e=.returned (.string r)∧Below w.heap.size w w':=by
 induction k using Nat.strongRecOn with
 |_ k ih=>
 intro a0 r w h
 cases k with
 |zero=>exact absurd h (by simp[spec_l1Num.f])
 |succ k=>
 simp only[spec_l1Num.f] at h
 have HB:=A_ (Below.refl w.heap.size w)
 have H:(if a0<0 then (if a0=(-9223372036854775808) then (some (⟨#[45,57,50,50,51,51,55,50,48,51,54,56,53,52,55,55,53,56,48,56]⟩:ByteArray)) else ((spec_l1Num.f k (wrap64 (-a0))).bind fun t264=>(if 1+t264.size≤9223372036854775807 then (some ((⟨#[45]⟩:ByteArray)++t264)) else (none)))) else (if a0<10 then (some (strOfNums (([(wrap64 (48+a0)) % 256]:List Int)))) else ((spec_l1Num.f k (wrap64 (Int.tdiv a0 10))).bind fun t268=>((some (([(wrap64 (48+(Int.tmod a0 10))) % 256]:List Int):List Int)).bind fun y269=>(if t268.size+(strOfNums y269).size≤9223372036854775807 then (some (t268++(strOfNums y269))) else (none))))))=some r:=h
 clear h
 revert H
 refine iL_ (fun c2b0 H=>?_) (fun c2b0 H=>?_)
 ·
  revert H
  refine iE_ (fun c3b0 c3b1 H=>?_) (fun c3 c3b0 c3b1 H=>?_)
  ·
   obtain rfl:=Option.some.inj H
   clear H
   go_enter Tryd.func29,Tryd.ntmps29
   go_wp2
   go_ret
   exact⟨rr_,bw HB.out⟩
  replace H:=bA_ H
  obtain⟨t264,A4,H⟩:=H
  by_cases c5:1+t264.size≤9223372036854775807
  ·
   rw[if_pos c5] at H
   have c5b0:=eq_true c5
   have c5b1:=decide_eq_true c5
   try have c5b2:(9223372036854775807<1+t264.size)=False:=eq_false (Nat.not_lt.2 c5)
   obtain rfl:=Option.some.inj H
   clear H
   go_enter Tryd.func29,Tryd.ntmps29
   go_wp2_with (first|((with_reducible refine gc_ 29 rfl ?_);refine gm_ (some 9) Tryd.func29 (ih k (by omega) (wrap64 (-a0)) t264 _ A4.out) ?_;intro w6 hb;replace HB:=bs_ HB hb;(try clear hb)))
   go_ret
   exact⟨rr_,bw HB.out⟩
  rw[if_neg c5] at H
  exact absurd H (by simp)
 revert H
 refine iL_ (fun c7b0 H=>?_) (fun c7b0 H=>?_)
 ·
  obtain⟨y265,hy265⟩:∃ y_:List Int,y_=(([(wrap64 (48+a0)) % 256]:List Int)):=⟨_,rfl⟩
  rw[←hy265] at H
  have Ny265:=A_ hy265
  clear hy265
  obtain rfl:=Option.some.inj H
  clear H
  go_enter Tryd.func29,Tryd.ntmps29
  go_wp2_with (first|((with_reducible refine gd_ 16 rfl ?_);refine Kd.R_lit (Kd.int .u8) _ 5 ?hg (N:=16) ?hd (xs:=([(wrap64 (48+a0)) % 256]:List Int)) (inner:=[.int .u8 ((wrap64 (48+a0)) % 256)]) (ok:=fun _=>True) (okp:=fun _=>True) ?hr ?hp (fun _ hk=>hk) trivial (Below.refl _ _) (Nat.le_refl _) (by simp) ?_;(case hd=>rfl);(case hg=>rfl);(case hr=>first|(go_simp;done)|(go_simp;rfl));(case hp=>exact(Reps.one (show Kd.M (Kd.int .u8) _ _ _ ((wrap64 (48+a0)) % 256) [.int .u8 ((wrap64 (48+a0)) % 256)] from rfl) (Reps.none _ _)));intro v266 w8 ho9 hb hg_ hnew_;clear hg_ hnew_;(first|rw[←Ny265.out] at ho9|(simp only[Int.reduceToNat] at ho9;rw[←Ny265.out] at ho9));have HO267:=A_ (Kd.R_lower ho9 (below_size (bw HB.out)));replace HB:=bs_ HB hb;clear hb ho9;have hcv10:=own_string (P:=Tryd.prog) Tryd.underlying22 Tryd.underlying5 Tryd.underlying9 (Kd.own_of_R HO267.out)))
  go_ret
  exact⟨rr_,bw HB.out⟩
 replace H:=bA_ H
 obtain⟨t268,A11,H⟩:=H
 replace H:=nm_ H
 obtain⟨y269,Ny269,H⟩:=H
 try dsimp only at H
 by_cases c12:t268.size+(strOfNums y269).size≤9223372036854775807
 ·
  rw[if_pos c12] at H
  have c12b0:=eq_true c12
  have c12b1:=decide_eq_true c12
  try have c12b2:(9223372036854775807<t268.size+(strOfNums y269).size)=False:=eq_false (Nat.not_lt.2 c12)
  obtain rfl:=Option.some.inj H
  clear H
  go_enter Tryd.func29,Tryd.ntmps29
  try go_wp2
  have n0_:=A_ (below_drew1 HB.out)
  clear HB
  have HB:=n0_
  clear n0_
  refine sS 11 (fun w'=>True) [] trivial spec_l1Num.tab7 spec_l1Num.bits7 (fun hHeld HT_ HW_=>?_)
  generalize w.drew=w13 at HB hHeld ⊢
  refine pS HT_ 0 18 ?_
  refine pS HT_ 1 19 ?_
  refine pS HT_ 3 21 ?_
  refine pS HT_ 4 22 ?_
  refine pS HT_ 5 23 ?_
  refine pS HT_ 6 24 ?_
  refine join_ (σ:=Value) 2 #[true,true,true,true,true,true,true,true,true,false,false] (fun s_=>[(20,.string t268),(25,s_),(26,.string (strOfNums y269))]) (fun s_ w'=>(Kd.R (Kd.int .u8) 5 w' w.heap.size (fun _=>True) s_ y269)∧(Below w.heap.size w w')) ?_ ?_
  rotate_left
  ·
   intro hCont
   refine two_ (i:=2) (j:=7) (Ni:=some 20) (Nj:=some 25) #[true,true,true,true,true,true,true,false,false,false,false] #[true,true,false,true,true,true,true,true,false,false,false] rfl rfl rfl rfl (two_of HT_.out (by kernel_rfl)) (by decide) (by decide) (fun K hK=>?_) (fun K hK=>?_)
   ·
    skip
    refine goes_ Tryd.func29 (by kernel_rfl) rfl #[.int .i64 (wrap64 (Int.tdiv a0 10))] (by rfl) rfl rfl ar ?_
    with_reducible refine(ih k (by omega) (wrap64 (Int.tdiv a0 10)) t268 _ A11.out).mono ?_
    rintro e w14 ⟨rfl,hb⟩
    refine⟨_,rfl,?_⟩
    have n0_:=A_ (below_step (bw HB.out) hb)
    clear HB
    have HB:=n0_
    clear n0_
    (try clear hb)
    (try clear hb2)
    (try clear hk)
    (try clear hi)
    refine hK.out _ _ trivial (fun hHeld=>?_)
    clear hK K
    refine nS (some 20) ?_
    refine oS HT_ 7 (some 25) (fun K hK=>?_)
    refine Kd.R_lit_step (Kd.int .u8) _ 5 ?hg (N:=25) ?hd (xs:=([(wrap64 (48+(Int.tmod a0 10))) % 256]:List Int)) (inner:=[.int .u8 ((wrap64 (48+(Int.tmod a0 10))) % 256)]) (ok:=fun _=>True) (okp:=fun _=>True) ?hr ?hp (fun _ hk=>hk) trivial (Below.refl _ _) (Nat.le_refl _) (by simp) ?_;(case hd=>rfl);(case hg=>rfl);(case hr=>first|(go_simp;done)|(go_simp;rfl));(case hp=>exact(Reps.one (show Kd.M (Kd.int .u8) _ _ _ ((wrap64 (48+(Int.tmod a0 10))) % 256) [.int .u8 ((wrap64 (48+(Int.tmod a0 10))) % 256)] from rfl) (Reps.none _ _)))
    intro v270 w15 ho16 hb hg_ hnew_
    clear hg_ hnew_
    (first|rw[←Ny269.out] at ho16|(simp only[Int.reduceToNat] at ho16;rw[←Ny269.out] at ho16))
    have n0_:=A_ (Kd.R_lower ho16 (below_size (bw HB.out)))
    have n1_:=A_ (below_step (bw HB.out) hb)
    clear HB
    have HO271:=n0_
    have HB:=n1_
    clear n0_ n1_ hb ho16
    refine hK.out _ _ trivial (fun hHeld=>?_)
    clear hK K
    refine nS (some 25) ?_
    refine oS HT_ 8 (some 26) (fun K hK=>?_)
    have hcv17:=own_string (P:=Tryd.prog) Tryd.underlying22 Tryd.underlying5 Tryd.underlying9 (Kd.own_of_R HO271.out)
    refine value_ (w1:=?_) (v:=?_) (by rfl) rfl ?_ ?_
    rotate_left 2
    ·
     go_simp
     constructor
     ·
      rfl
     rfl
    clear hcv17
    refine hK.out _ _ trivial (fun hHeld=>?_)
    clear hK K
    refine nS (some 26) ?_
    exact norm_ (by simp only[putAll,Act.put,List.setIfInBounds_toArray,List.set_cons_zero,List.set_cons_succ]) (hCont (v270) _ ⟨(kr_ HO271.out),(bw HB.out)⟩)
   skip
   refine Kd.R_lit_step (Kd.int .u8) _ 5 ?hg (N:=25) ?hd (xs:=([(wrap64 (48+(Int.tmod a0 10))) % 256]:List Int)) (inner:=[.int .u8 ((wrap64 (48+(Int.tmod a0 10))) % 256)]) (ok:=fun _=>True) (okp:=fun _=>True) ?hr ?hp (fun _ hk=>hk) trivial (Below.refl _ _) (Nat.le_refl _) (by simp) ?_;(case hd=>rfl);(case hg=>rfl);(case hr=>first|(go_simp;done)|(go_simp;rfl));(case hp=>exact(Reps.one (show Kd.M (Kd.int .u8) _ _ _ ((wrap64 (48+(Int.tmod a0 10))) % 256) [.int .u8 ((wrap64 (48+(Int.tmod a0 10))) % 256)] from rfl) (Reps.none _ _)))
   intro v270 w14 ho15 hb hg_ hnew_
   clear hg_ hnew_
   (first|rw[←Ny269.out] at ho15|(simp only[Int.reduceToNat] at ho15;rw[←Ny269.out] at ho15))
   have n0_:=A_ (Kd.R_lower ho15 (below_size (bw HB.out)))
   have n1_:=A_ (below_step (bw HB.out) hb)
   clear HB
   have HO271:=n0_
   have HB:=n1_
   clear n0_ n1_ hb ho15
   refine hK.out _ _ trivial (fun hHeld=>?_)
   clear hK K
   refine nS (some 25) ?_
   refine two_ (i:=2) (j:=8) (Ni:=some 20) (Nj:=some 26) #[true,true,true,true,true,true,true,true,false,false,false] #[true,true,false,true,true,true,true,true,true,false,false] rfl rfl rfl rfl (two_of HT_.out (by kernel_rfl)) (by decide) (by decide) (fun K hK=>?_) (fun K hK=>?_)
   ·
    skip
    refine goes_ Tryd.func29 (by kernel_rfl) rfl #[.int .i64 (wrap64 (Int.tdiv a0 10))] (by rfl) rfl rfl ar ?_
    with_reducible refine(ih k (by omega) (wrap64 (Int.tdiv a0 10)) t268 _ A11.out).mono ?_
    rintro e w16 ⟨rfl,hb⟩
    refine⟨_,rfl,?_⟩
    have n0_:=A_ (Kd.R_below (kr_ HO271.out) hb)
    have n1_:=A_ (below_step (bw HB.out) hb)
    clear HO271 HB
    have HO271:=n0_
    have HB:=n1_
    clear n0_ n1_
    (try clear hb)
    (try clear hb2)
    (try clear hk)
    (try clear hi)
    refine hK.out _ _ trivial (fun hHeld=>?_)
    clear hK K
    refine nS (some 20) ?_
    refine oS HT_ 8 (some 26) (fun K hK=>?_)
    have hcv17:=own_string (P:=Tryd.prog) Tryd.underlying22 Tryd.underlying5 Tryd.underlying9 (Kd.own_of_R HO271.out)
    refine value_ (w1:=?_) (v:=?_) (by rfl) rfl ?_ ?_
    rotate_left 2
    ·
     go_simp
     constructor
     ·
      rfl
     rfl
    clear hcv17
    refine hK.out _ _ trivial (fun hHeld=>?_)
    clear hK K
    refine nS (some 26) ?_
    exact norm_ (by simp only[putAll,Act.put,List.setIfInBounds_toArray,List.set_cons_zero,List.set_cons_succ]) (hCont (v270) _ ⟨(kr_ HO271.out),(bw HB.out)⟩)
   skip
   have hcv16:=own_string (P:=Tryd.prog) Tryd.underlying22 Tryd.underlying5 Tryd.underlying9 (Kd.own_of_R HO271.out)
   refine value_ (w1:=?_) (v:=?_) (by rfl) rfl ?_ ?_
   rotate_left 2
   ·
    go_simp
    constructor
    ·
     rfl
    rfl
   clear hcv16
   refine hK.out _ _ trivial (fun hHeld=>?_)
   clear hK K
   refine nS (some 26) ?_
   refine oS HT_ 2 (some 20) (fun K hK=>?_)
   refine goes_ Tryd.func29 (by kernel_rfl) rfl #[.int .i64 (wrap64 (Int.tdiv a0 10))] (by rfl) rfl rfl ar ?_
   with_reducible refine(ih k (by omega) (wrap64 (Int.tdiv a0 10)) t268 _ A11.out).mono ?_
   rintro e w17 ⟨rfl,hb⟩
   refine⟨_,rfl,?_⟩
   have n0_:=A_ (Kd.R_below (kr_ HO271.out) hb)
   have n1_:=A_ (below_step (bw HB.out) hb)
   clear HO271 HB
   have HO271:=n0_
   have HB:=n1_
   clear n0_ n1_
   (try clear hb)
   (try clear hb2)
   (try clear hk)
   (try clear hi)
   refine hK.out _ _ trivial (fun hHeld=>?_)
   clear hK K
   refine nS (some 20) ?_
   exact norm_ (by simp only[putAll,Act.put,List.setIfInBounds_toArray,List.set_cons_zero,List.set_cons_succ]) (hCont (v270) _ ⟨(kr_ HO271.out),(bw HB.out)⟩)
  rintro v270 w18 ⟨h0_,h1_⟩
  have n0_:Aside0 (Kd.R (Kd.int .u8) 5 w18 w.heap.size (fun _=>True) v270 y269):=⟨h0_⟩
  have n1_:Aside0 (Below w.heap.size w w18):=⟨h1_⟩
  clear HB h0_ h1_
  have HO271:=n0_
  have HB:=n1_
  clear n0_ n1_
  have hHeld:=trivial
  refine norm_ (a':=?_) ?_ ?_
  rotate_left
  ·
   simp only[putAll,Act.put,List.setIfInBounds_toArray,List.set_cons_zero,List.set_cons_succ]
   rfl
  refine pS HT_ 9 27 ?_
  refine pS HT_ 10 2 ?_
  refine dS HT_ ?_
  try go_wp2
  go_ret
  exact⟨rr_,bw HB.out⟩
 rw[if_neg c12] at H
 exact absurd H (by simp)

/-! ### spec_l11Text: function 14 -/
mutual
def spec_l11Text.l0:Nat→ByteArray→List (S43)→Int→Int→Option (ByteArray)
 |0,_,_,_,_=>none
 |k+1,x3,x19,x20,x21=>if x21<x20 then (if 0≤x21 then (if x21<(x19.length:Int) then (if x21 > 0 then (if x3.size+1≤9223372036854775807 then ((spec_l11Text.f k ((rd_T43 x19 x21).f0) ((rd_T43 x19 x21).f1) ((rd_T43 x19 x21).f2)).bind fun t279=>(if (x3++(⟨#[44]⟩:ByteArray)).size+t279.size≤9223372036854775807 then (spec_l11Text.l0 k ((x3++(⟨#[44]⟩:ByteArray))++t279) x19 x20 (wrap64 (x21+1))) else (none))) else (none)) else ((spec_l11Text.f k ((rd_T43 x19 x21).f0) ((rd_T43 x19 x21).f1) ((rd_T43 x19 x21).f2)).bind fun t280=>(if x3.size+t280.size≤9223372036854775807 then (spec_l11Text.l0 k (x3++t280) x19 x20 (wrap64 (x21+1))) else (none)))) else (none)) else (none)) else (if x3.size+1≤9223372036854775807 then (some (x3++(⟨#[62]⟩:ByteArray))) else (none))
def spec_l11Text.f:Nat→Int→Int→List (S43)→Option (ByteArray)
 |0,_,_,_=>none
 |k+1,a0_0,a0_1,l0_2=>(spec_l11Names.f).bind fun t273=>(if 0≤a0_0 then (if a0_0<(t273.length:Int) then (if (l0_2.length:Int) > 0 then (if (rdOf ByteArray.empty t273 a0_0).size+1≤9223372036854775807 then (spec_l11Text.l0 k ((rdOf ByteArray.empty t273 a0_0)++(⟨#[60]⟩:ByteArray)) l0_2 (l0_2.length:Int) 0) else (none)) else ((spec_l1In.f a0_0 19 21).bind fun t281=>(if t281=true then (if (rdOf ByteArray.empty t273 a0_0).size+1≤9223372036854775807 then ((spec_l1Num.f k a0_1).bind fun t282=>(if ((rdOf ByteArray.empty t273 a0_0)++(⟨#[60]⟩:ByteArray)).size+t282.size≤9223372036854775807 then (if (((rdOf ByteArray.empty t273 a0_0)++(⟨#[60]⟩:ByteArray))++t282).size+1≤9223372036854775807 then (some ((((rdOf ByteArray.empty t273 a0_0)++(⟨#[60]⟩:ByteArray))++t282)++(⟨#[62]⟩:ByteArray))) else (none)) else (none))) else (none)) else (if a0_0=16 then (if (rdOf ByteArray.empty t273 a0_0).size+1≤9223372036854775807 then ((spec_l1Num.f k a0_1).bind fun t283=>(if ((rdOf ByteArray.empty t273 a0_0)++(⟨#[60]⟩:ByteArray)).size+t283.size≤9223372036854775807 then (if (((rdOf ByteArray.empty t273 a0_0)++(⟨#[60]⟩:ByteArray))++t283).size+1≤9223372036854775807 then (some ((((rdOf ByteArray.empty t273 a0_0)++(⟨#[60]⟩:ByteArray))++t283)++(⟨#[62]⟩:ByteArray))) else (none)) else (none))) else (none)) else (some (rdOf ByteArray.empty t273 a0_0)))))) else (none)) else (none))
end
theorem spec_l11Text.calls (k:Nat):∀ (a0_0:Int) (a0_1:Int) (A0_2:Option Addr) (c0_2:Nat) (l0_2:List (S43)) (r:ByteArray) (w:World) (hr0_2:Kd.C k43 w A0_2 l0_2.length l0_2) (hc0_2:l0_2.length≤c0_2) (h:spec_l11Text.f k a0_0 a0_1 l0_2=some r),
  Calls Tryd.prog 14 #[.agg #[.int .i64 a0_0,.int .i64 a0_1,.slice A0_2 l0_2.length c0_2]] w fun e w'=>e=.returned (.string r)∧Below w.heap.size w w':=by
 induction k using Nat.strongRecOn with
 |_ k ih=>
 intro a0_0 a0_1 A0_2 c0_2 l0_2 r w hr0_2 hc0_2 h
 cases k with
 |zero=>exact absurd h (by simp[spec_l11Text.f])
 |succ k=>
 simp only[spec_l11Text.f] at h
 have hu43:=Tryd.underlying43
 have HR0_2:=A_ hr0_2
 have HC0_2:=A_ hc0_2
 clear hr0_2 hc0_2
 have HB:=A_ (Below.refl w.heap.size w)
 have H:((spec_l11Names.f).bind fun t273=>(if 0≤a0_0 then (if a0_0<(t273.length:Int) then (if (l0_2.length:Int) > 0 then (if (rdOf ByteArray.empty t273 a0_0).size+1≤9223372036854775807 then (spec_l11Text.l0 k ((rdOf ByteArray.empty t273 a0_0)++(⟨#[60]⟩:ByteArray)) l0_2 (l0_2.length:Int) 0) else (none)) else ((spec_l1In.f a0_0 19 21).bind fun t281=>(if t281=true then (if (rdOf ByteArray.empty t273 a0_0).size+1≤9223372036854775807 then ((spec_l1Num.f k a0_1).bind fun t282=>(if ((rdOf ByteArray.empty t273 a0_0)++(⟨#[60]⟩:ByteArray)).size+t282.size≤9223372036854775807 then (if (((rdOf ByteArray.empty t273 a0_0)++(⟨#[60]⟩:ByteArray))++t282).size+1≤9223372036854775807 then (some ((((rdOf ByteArray.empty t273 a0_0)++(⟨#[60]⟩:ByteArray))++t282)++(⟨#[62]⟩:ByteArray))) else (none)) else (none))) else (none)) else (if a0_0=16 then (if (rdOf ByteArray.empty t273 a0_0).size+1≤9223372036854775807 then ((spec_l1Num.f k a0_1).bind fun t283=>(if ((rdOf ByteArray.empty t273 a0_0)++(⟨#[60]⟩:ByteArray)).size+t283.size≤9223372036854775807 then (if (((rdOf ByteArray.empty t273 a0_0)++(⟨#[60]⟩:ByteArray))++t283).size+1≤9223372036854775807 then (some ((((rdOf ByteArray.empty t273 a0_0)++(⟨#[60]⟩:ByteArray))++t283)++(⟨#[62]⟩:ByteArray))) else (none)) else (none))) else (none)) else (some (rdOf ByteArray.empty t273 a0_0)))))) else (none)) else (none)))=some r:=h
 clear h
 replace H:=bA_ H
 obtain⟨t273,A2,H⟩:=H
 replace H:=id_ H
 obtain⟨c3b0,H⟩:=H
 replace H:=id_ H
 obtain⟨c4b0,H⟩:=H
 by_cases c5:(l0_2.length:Int) > 0
 ·
  rw[if_pos c5] at H
  have c5b0:=decide_eq_true c5
  have c5b1:decide (0<l0_2.length)=true:=decide_eq_true (by omega)
  clear c5
  by_cases c6:(rdOf ByteArray.empty t273 a0_0).size+1≤9223372036854775807
  ·
   rw[if_pos c6] at H
   have c6b0:=eq_true c6
   have c6b1:=decide_eq_true c6
   try have c6b2:(9223372036854775807<(rdOf ByteArray.empty t273 a0_0).size+1)=False:=eq_false (Nat.not_lt.2 c6)
   have H':=A_ H
   clear H
   go_enter Tryd.func14,Tryd.ntmps14
   try go_wp2_with (first|((with_reducible refine gd_ 1 rfl ?_);refine bx_ #[.int .i64 a0_0,.int .i64 a0_1,.slice A0_2 l0_2.length c0_2] 43 ?_;intro gb272 hg w7 hbox hb;have BK272:=A_ hbox;have GW272:=gw_ hg HB;have GE272:=GW272;replace HB:=bs_ HB hb;clear hb hbox hg))
   have n0_:=A_ (blk_drew BK272.out)
   have n1_:=A_ (below_drew1 HB.out)
   clear BK272 HB
   have BK272:=n0_
   have HB:=n1_
   clear n0_ n1_
   refine start_ (n:=6) (S:=fun w'=>w'.cell? ⟨gb272,0,none⟩=some (.int .i64 a0_0)∧w'.cell? ⟨gb272,1,none⟩=some (.int .i64 a0_1)∧w'.cell? ⟨gb272,2,none⟩=some (.slice A0_2 l0_2.length c0_2)) (ds:=[]) #[false,false,false,false,false,false] (by kernel_rfl) rfl rfl ⟨(blk_cell BK272.out 0).trans rfl,(blk_cell BK272.out 1).trans rfl,(blk_cell BK272.out 2).trans rfl⟩ (fun hHeld=>?_)
   generalize w7.drew=w8 at BK272 HB hHeld ⊢
   refine pure_ (i:=1) (N:=some 7) (v:=?_) (a':=?_) #[false,true,false,false,false,false] rfl rfl (by kernel_rfl) (fun _ _ _ h=>h) (Or.inl ⟨by rfl,?_⟩) ?_ ?_
   rotate_left
   ·
    intro w'
    go_simp
    with_reducible rfl
   rotate_left
   ·
    simp only[Act.put,List.setIfInBounds_toArray,List.set_cons_zero,List.set_cons_succ,i64_w,i32_w]
    rfl
   refine take_ (i:=2) (N:=some 8) (v:=?_) (a':=?_) #[false,true,true,false,false,false] rfl rfl (by kernel_rfl) (fun _ _ _ h=>h) (Or.inl ⟨by rfl,?_⟩) hHeld ?_ ?_
   rotate_left
   ·
    rintro w' ⟨s0,s1,s2⟩
    go_simp
    with_reducible rfl
   rotate_left
   ·
    simp only[Act.put,List.setIfInBounds_toArray,List.set_cons_zero,List.set_cons_succ,i64_w,i32_w]
    rfl
   refine one_ (i:=0) (N:=some 6) #[true,true,true,false,false,false] rfl rfl (by kernel_rfl) (by decide) (fun K hK=>?_)
   refine goes_ Tryd.func28 (by kernel_rfl) rfl #[] (by rfl) rfl rfl ar ?_
   with_reducible refine(spec_l11Names.calls t273 _ A2.out).mono ?_
   rintro e w9 ⟨v274,rfl,ho0,hb⟩
   refine⟨_,rfl,?_⟩
   have n0_:=A_ (Kd.R_lower ho0 (below_size (bw HB.out)))
   have n1_:=A_ (blk_below (g:=gb272) (o:=.cells #[.int .i64 a0_0,.int .i64 a0_1,.slice A0_2 l0_2.length c0_2] 43 (0,0)) (bk BK272.out) hb)
   have n2_:=A_ (below_step (bw HB.out) hb)
   clear BK272 HB
   have HO275:=n0_
   have BK272:=n1_
   have HB:=n2_
   clear n0_ n1_ n2_
   (try clear hb)
   (try clear hb2)
   (try clear hk)
   (try clear hi)
   (try clear ho0)
   obtain⟨Ao10,co10,eo10⟩:=Kd.R_slice HO275.out
   (first|subst eo10|(injection eo10 with f1_ f2_ f3_;have f4_:=f1_.symm;have f5_:=f3_.symm;clear f1_ f2_ f3_;subst f4_;subst f5_))
   have p276:0≤(a0_0:Int):=od_
   have q276:a0_0<(t273.length:Int):=od_
   obtain⟨ad276,e276,hx276_0⟩:=Kd.at_string (Kd.R_reads' HO275.out).2.2 a0_0 p276 q276
   cases e276
   replace p276:=eq_true p276
   replace q276:=eq_true q276
   refine hK.out _ _ ⟨(blk_cell BK272.out 0).trans rfl,(blk_cell BK272.out 1).trans rfl,(blk_cell BK272.out 2).trans rfl⟩ (fun hHeld=>?_)
   clear hK K
   refine nS (some 6) ?_
   refine pure_ (i:=3) (N:=some 9) (v:=?_) (a':=?_) #[true,true,true,true,false,false] rfl rfl (by kernel_rfl) (fun _ _ _ h=>h) (Or.inl ⟨by rfl,?_⟩) ?_ ?_
   rotate_left
   ·
    intro w'
    go_simp
    with_reducible rfl
   rotate_left
   ·
    simp only[Act.put,List.setIfInBounds_toArray,List.set_cons_zero,List.set_cons_succ,i64_w,i32_w]
    rfl
   refine one_ (i:=4) (N:=some 10) #[true,true,true,true,true,false] rfl rfl (by kernel_rfl) (by decide) (fun K hK=>?_)
   refine value_ (v:=.string (rdOf ByteArray.empty t273 a0_0)) (by first|rfl|kernel_rfl) rfl (by first|(go_simp;done)|(go_simp;with_reducible rfl)) ?_
   refine hK.out _ _ ⟨(blk_cell BK272.out 0).trans rfl,(blk_cell BK272.out 1).trans rfl,(blk_cell BK272.out 2).trans rfl⟩ (fun hHeld=>?_)
   clear hK K
   refine nS (some 10) ?_
   refine pure_ (i:=5) (N:=some 3) (v:=?_) (a':=?_) #[true,true,true,true,true,true] rfl rfl (by kernel_rfl) (fun _ _ _ h=>h) (Or.inl ⟨by rfl,?_⟩) ?_ ?_
   rotate_left
   ·
    intro w'
    go_simp
    with_reducible rfl
   rotate_left
   ·
    simp only[Act.put,List.setIfInBounds_toArray,List.set_cons_zero,List.set_cons_succ,i64_w,i32_w]
    rfl
   refine done_ (by kernel_rfl) ?_
   obtain⟨hcz11_0,hcz11_1,hcz11_2⟩:=cs3_ BK272.out
   obtain⟨hfz11_0,hfz11_1,hfz11_2⟩:=fz3_ BK272.out
   try go_wp2
   (try simp only[Act.put,List.setIfInBounds_toArray,List.set_cons_zero,List.set_cons_succ])
   go_loopg [3,21] k (fun kq v3 v21 w'=>∃ (x3_1:ByteArray) (x21_1:Int),v3=.string x3_1∧v21=.int .i64 x21_1∧Aside0 (spec_l11Text.l0 kq x3_1 l0_2 (l0_2.length:Int) x21_1=some r)∧Aside0 (kq≤k)∧Aside0 (w'.heap[gb272]? =some (.cells #[.int .i64 a0_0,.int .i64 a0_1,(.slice A0_2 l0_2.length c0_2)] 43 (0,0)))∧Aside0 (Below w.heap.size w w'))
   case atStart=>exact⟨((rdOf ByteArray.empty t273 a0_0)++(⟨#[60]⟩:ByteArray)),(0),rs_,rs_,H',⟨Nat.le_refl _⟩,⟨bk BK272.out⟩,⟨bw HB.out⟩⟩
   case round=>
    clear H'
    try clear c3 c3b0 c4 c4b0 c5 c5b0 c5b1 c6 c6b0 c6b1 c6b2 hcz11_0 hcz11_1 hcz11_2 hfz11_0 hfz11_1 hfz11_2 hx276_0 p276 q276
    obtain⟨x3_1,x21_1,rfl,rfl,HA,HK1,BK272,HB⟩:=hrel
    cases gk with
    |zero=>exact absurd HA.out (by simp[spec_l11Text.l0])
    |succ k1=>
     have H:=HA.out
     clear HA
     simp only[spec_l11Text.l0] at H
     revert H
     refine iL_ (fun c12b0 H=>?_) (fun c12b0 H=>?_)
     ·
      replace H:=id_ H
      obtain⟨c13b0,H⟩:=H
      replace H:=id_ H
      obtain⟨c14b0,H⟩:=H
      revert H
      refine iL_ (fun c15b0 H=>?_) (fun c15b0 H=>?_)
      ·
       by_cases c16:x3_1.size+1≤9223372036854775807
       ·
        rw[if_pos c16] at H
        have c16b0:=eq_true c16
        have c16b1:=decide_eq_true c16
        try have c16b2:(9223372036854775807<x3_1.size+1)=False:=eq_false (Nat.not_lt.2 c16)
        replace H:=bA_ H
        obtain⟨t279,A17,H⟩:=H
        by_cases c18:(x3_1++(⟨#[44]⟩:ByteArray)).size+t279.size≤9223372036854775807
        ·
         rw[if_pos c18] at H
         have c18b0:=eq_true c18
         have c18n:x3_1.size+1+t279.size≤9223372036854775807:=by have h_:=c18;simp only[ByteArray.size_append] at h_;exact h_
         have c18b1:=decide_eq_true c18
         try have c18b2:(9223372036854775807<(x3_1++(⟨#[44]⟩:ByteArray)).size+t279.size)=False:=eq_false (Nat.not_lt.2 c18)
         have H':=A_ H
         clear H
         have p277:0≤(x21_1:Int):=od_
         have q277:x21_1<(l0_2.length:Int):=od_
         obtain⟨ad277,A277_2,c277_2,e277,hx277_0,hx277_1,hx277_2,hl277_2,hi277_2⟩:=at_T43 HR0_2.out x21_1 p277 q277
         cases e277
         replace hx277_0:=cl_ HB.out hx277_0
         replace hx277_1:=cl_ HB.out hx277_1
         replace hx277_2:=cl_ HB.out hx277_2
         have HR277_2:=A_ hi277_2
         have HC277_2:=A_ hl277_2
         clear hi277_2 hl277_2
         replace p277:=eq_true p277
         replace q277:=eq_true q277
         go_wp2_with (first|((with_reducible refine gd_ 5 rfl ?_);refine bx_ #[.int .i64 0,.int .i64 0,.slice none 0 0] 43 ?_;intro gb278 hg w19 hbox hb;have BK278:=A_ hbox;have GW278:=gw_ hg HB;have GE278:=GW278;obtain⟨NB272_278,NB278_272⟩:=nb_ BK272 hg;replace BK272:=kb_ BK272 hb;replace HB:=bs_ HB hb;clear hb hbox hg;have hnb20:=NB278_272.out;have hnc20:=NB272_278.out;obtain⟨hcz21_0,hcz21_1,hcz21_2⟩:=cs3_ BK278.out;obtain⟨hfz21_0,hfz21_1,hfz21_2⟩:=fz3_ BK278.out)|((with_reducible refine gc_ 14 rfl ?_);refine goesL_ (some 32) rfl rfl Tryd.func14 (by kernel_rfl) rfl #[.agg #[.int .i64 ((rd_T43 l0_2 x21_1).f0),.int .i64 ((rd_T43 l0_2 x21_1).f1),.slice A277_2 ((rd_T43 l0_2 x21_1).f2).length c277_2]] rfl ar ?_;(with_reducible refine(ih k1 (by have:=HK1.out;omega) ((rd_T43 l0_2 x21_1).f0) ((rd_T43 l0_2 x21_1).f1) _ _ ((rd_T43 l0_2 x21_1).f2) t279 _ ?side1 ?side2 A17.out).mono ?_);(case side1=>exact Kd.C_below HR277_2.out (bw HB.out));(case side2=>exact HC277_2.out);rintro e w22 ⟨rfl,hb⟩;refine⟨_,rfl,?_⟩;replace BK272:=A_ (blk_below (g:=gb272) (o:=.cells #[.int .i64 a0_0,.int .i64 a0_1,.slice (some ad277) l0_2.length c0_2] 43 (0,0)) (by refine blk_far ?_ NB272_278.out _;refine blk_far ?_ NB272_278.out _;refine blk_far ?_ NB272_278.out _;(with_reducible repeat (first|refine blk_drewN ?_ _|refine blk_drew ?_|refine blk_alloc ?_ _));exact BK272.out) hb);replace BK278:=A_ (blk_below (g:=gb278) (o:=.cells #[.int .i64 ((rd_T43 l0_2 x21_1).f0),.int .i64 ((rd_T43 l0_2 x21_1).f1),.slice A277_2 ((rd_T43 l0_2 x21_1).f2).length c277_2] 43 (0,0)) (by refine blk_put (cs:=#[.int .i64 ((rd_T43 l0_2 x21_1).f0),.int .i64 ((rd_T43 l0_2 x21_1).f1),.slice none 0 0]) ?_ 2 _ rfl;refine blk_put (cs:=#[.int .i64 ((rd_T43 l0_2 x21_1).f0),.int .i64 0,.slice none 0 0]) ?_ 1 _ rfl;refine blk_put (cs:=#[.int .i64 0,.int .i64 0,.slice none 0 0]) ?_ 0 _ rfl;(with_reducible repeat (first|refine blk_drewN ?_ _|refine blk_drew ?_|refine blk_alloc ?_ _));exact BK278.out) hb);replace HB:=bs_ HB hb;(try clear hb)))
         go_roundg k1
         case measure=>have:=HK1.out;omega
         case rel=>exact⟨((x3_1++(⟨#[44]⟩:ByteArray))++t279),(wrap64 (x21_1+1)),rs_,rs_,H',⟨by have:=HK1.out;omega⟩,⟨bk BK272.out⟩,⟨bw HB.out⟩⟩
        rw[if_neg c18] at H
        exact absurd H (by simp)
       rw[if_neg c16] at H
       exact absurd H (by simp)
      replace H:=bA_ H
      obtain⟨t280,A23,H⟩:=H
      by_cases c24:x3_1.size+t280.size≤9223372036854775807
      ·
       rw[if_pos c24] at H
       have c24b0:=eq_true c24
       have c24b1:=decide_eq_true c24
       try have c24b2:(9223372036854775807<x3_1.size+t280.size)=False:=eq_false (Nat.not_lt.2 c24)
       have H':=A_ H
       clear H
       have p277:0≤(x21_1:Int):=od_
       have q277:x21_1<(l0_2.length:Int):=od_
       obtain⟨ad277,A277_2,c277_2,e277,hx277_0,hx277_1,hx277_2,hl277_2,hi277_2⟩:=at_T43 HR0_2.out x21_1 p277 q277
       cases e277
       replace hx277_0:=cl_ HB.out hx277_0
       replace hx277_1:=cl_ HB.out hx277_1
       replace hx277_2:=cl_ HB.out hx277_2
       have HR277_2:=A_ hi277_2
       have HC277_2:=A_ hl277_2
       clear hi277_2 hl277_2
       replace p277:=eq_true p277
       replace q277:=eq_true q277
       go_wp2_with (first|((with_reducible refine gd_ 5 rfl ?_);refine bx_ #[.int .i64 0,.int .i64 0,.slice none 0 0] 43 ?_;intro gb278 hg w25 hbox hb;have BK278:=A_ hbox;have GW278:=gw_ hg HB;have GE278:=GW278;obtain⟨NB272_278,NB278_272⟩:=nb_ BK272 hg;replace BK272:=kb_ BK272 hb;replace HB:=bs_ HB hb;clear hb hbox hg;have hnb26:=NB278_272.out;have hnc26:=NB272_278.out;obtain⟨hcz27_0,hcz27_1,hcz27_2⟩:=cs3_ BK278.out;obtain⟨hfz27_0,hfz27_1,hfz27_2⟩:=fz3_ BK278.out)|((with_reducible refine gc_ 14 rfl ?_);refine goesL_ (some 32) rfl rfl Tryd.func14 (by kernel_rfl) rfl #[.agg #[.int .i64 ((rd_T43 l0_2 x21_1).f0),.int .i64 ((rd_T43 l0_2 x21_1).f1),.slice A277_2 ((rd_T43 l0_2 x21_1).f2).length c277_2]] rfl ar ?_;(with_reducible refine(ih k1 (by have:=HK1.out;omega) ((rd_T43 l0_2 x21_1).f0) ((rd_T43 l0_2 x21_1).f1) _ _ ((rd_T43 l0_2 x21_1).f2) t280 _ ?side1 ?side2 A23.out).mono ?_);(case side1=>exact Kd.C_below HR277_2.out (bw HB.out));(case side2=>exact HC277_2.out);rintro e w28 ⟨rfl,hb⟩;refine⟨_,rfl,?_⟩;replace BK272:=A_ (blk_below (g:=gb272) (o:=.cells #[.int .i64 a0_0,.int .i64 a0_1,.slice (some ad277) l0_2.length c0_2] 43 (0,0)) (by refine blk_far ?_ NB272_278.out _;refine blk_far ?_ NB272_278.out _;refine blk_far ?_ NB272_278.out _;(with_reducible repeat (first|refine blk_drewN ?_ _|refine blk_drew ?_|refine blk_alloc ?_ _));exact BK272.out) hb);replace BK278:=A_ (blk_below (g:=gb278) (o:=.cells #[.int .i64 ((rd_T43 l0_2 x21_1).f0),.int .i64 ((rd_T43 l0_2 x21_1).f1),.slice A277_2 ((rd_T43 l0_2 x21_1).f2).length c277_2] 43 (0,0)) (by refine blk_put (cs:=#[.int .i64 ((rd_T43 l0_2 x21_1).f0),.int .i64 ((rd_T43 l0_2 x21_1).f1),.slice none 0 0]) ?_ 2 _ rfl;refine blk_put (cs:=#[.int .i64 ((rd_T43 l0_2 x21_1).f0),.int .i64 0,.slice none 0 0]) ?_ 1 _ rfl;refine blk_put (cs:=#[.int .i64 0,.int .i64 0,.slice none 0 0]) ?_ 0 _ rfl;(with_reducible repeat (first|refine blk_drewN ?_ _|refine blk_drew ?_|refine blk_alloc ?_ _));exact BK278.out) hb);replace HB:=bs_ HB hb;(try clear hb)))
       go_roundg k1
       case measure=>have:=HK1.out;omega
       case rel=>exact⟨(x3_1++t280),(wrap64 (x21_1+1)),rs_,rs_,H',⟨by have:=HK1.out;omega⟩,⟨bk BK272.out⟩,⟨bw HB.out⟩⟩
      rw[if_neg c24] at H
      exact absurd H (by simp)
     by_cases c29:x3_1.size+1≤9223372036854775807
     ·
      rw[if_pos c29] at H
      have c29b0:=eq_true c29
      have c29b1:=decide_eq_true c29
      try have c29b2:(9223372036854775807<x3_1.size+1)=False:=eq_false (Nat.not_lt.2 c29)
      obtain rfl:=Option.some.inj H
      clear H
      go_wp2
      go_ret
      exact⟨rr_,bw HB.out⟩
     rw[if_neg c29] at H
     exact absurd H (by simp)
  rw[if_neg c6] at H
  exact absurd H (by simp)
 rw[if_neg c5] at H
 have c5b0:=decide_eq_false c5
 have c5b1:decide (0<l0_2.length)=false:=decide_eq_false (by omega)
 clear c5
 replace H:=bA_ H
 obtain⟨t281,A30,H⟩:=H
 revert H
 refine iB_ (fun c31 H=>?_) (fun c31 H=>?_)<;>subst c31
 ·
  by_cases c32:(rdOf ByteArray.empty t273 a0_0).size+1≤9223372036854775807
  ·
   rw[if_pos c32] at H
   have c32b0:=eq_true c32
   have c32b1:=decide_eq_true c32
   try have c32b2:(9223372036854775807<(rdOf ByteArray.empty t273 a0_0).size+1)=False:=eq_false (Nat.not_lt.2 c32)
   replace H:=bA_ H
   obtain⟨t282,A33,H⟩:=H
   by_cases c34:((rdOf ByteArray.empty t273 a0_0)++(⟨#[60]⟩:ByteArray)).size+t282.size≤9223372036854775807
   ·
    rw[if_pos c34] at H
    have c34b0:=eq_true c34
    have c34n:(rdOf ByteArray.empty t273 a0_0).size+1+t282.size≤9223372036854775807:=by have h_:=c34;simp only[ByteArray.size_append] at h_;exact h_
    have c34b1:=decide_eq_true c34
    try have c34b2:(9223372036854775807<((rdOf ByteArray.empty t273 a0_0)++(⟨#[60]⟩:ByteArray)).size+t282.size)=False:=eq_false (Nat.not_lt.2 c34)
    by_cases c35:(((rdOf ByteArray.empty t273 a0_0)++(⟨#[60]⟩:ByteArray))++t282).size+1≤9223372036854775807
    ·
     rw[if_pos c35] at H
     have c35b0:=eq_true c35
     have c35n:(rdOf ByteArray.empty t273 a0_0).size+1+t282.size+1≤9223372036854775807:=by have h_:=c35;simp only[ByteArray.size_append] at h_;exact h_
     have c35b1:=decide_eq_true c35
     try have c35b2:(9223372036854775807<(((rdOf ByteArray.empty t273 a0_0)++(⟨#[60]⟩:ByteArray))++t282).size+1)=False:=eq_false (Nat.not_lt.2 c35)
     obtain rfl:=Option.some.inj H
     clear H
     go_enter Tryd.func14,Tryd.ntmps14
     try go_wp2_with (first|((with_reducible refine gd_ 1 rfl ?_);refine bx_ #[.int .i64 a0_0,.int .i64 a0_1,.slice A0_2 l0_2.length c0_2] 43 ?_;intro gb272 hg w36 hbox hb;have BK272:=A_ hbox;have GW272:=gw_ hg HB;have GE272:=GW272;replace HB:=bs_ HB hb;clear hb hbox hg))
     have n0_:=A_ (blk_drew BK272.out)
     have n1_:=A_ (below_drew1 HB.out)
     clear BK272 HB
     have BK272:=n0_
     have HB:=n1_
     clear n0_ n1_
     refine start_ (n:=6) (S:=fun w'=>w'.cell? ⟨gb272,0,none⟩=some (.int .i64 a0_0)∧w'.cell? ⟨gb272,1,none⟩=some (.int .i64 a0_1)∧w'.cell? ⟨gb272,2,none⟩=some (.slice A0_2 l0_2.length c0_2)) (ds:=[]) #[false,false,false,false,false,false] (by kernel_rfl) rfl rfl ⟨(blk_cell BK272.out 0).trans rfl,(blk_cell BK272.out 1).trans rfl,(blk_cell BK272.out 2).trans rfl⟩ (fun hHeld=>?_)
     generalize w36.drew=w37 at BK272 HB hHeld ⊢
     refine pure_ (i:=1) (N:=some 7) (v:=?_) (a':=?_) #[false,true,false,false,false,false] rfl rfl (by kernel_rfl) (fun _ _ _ h=>h) (Or.inl ⟨by rfl,?_⟩) ?_ ?_
     rotate_left
     ·
      intro w'
      go_simp
      with_reducible rfl
     rotate_left
     ·
      simp only[Act.put,List.setIfInBounds_toArray,List.set_cons_zero,List.set_cons_succ,i64_w,i32_w]
      rfl
     refine take_ (i:=2) (N:=some 8) (v:=?_) (a':=?_) #[false,true,true,false,false,false] rfl rfl (by kernel_rfl) (fun _ _ _ h=>h) (Or.inl ⟨by rfl,?_⟩) hHeld ?_ ?_
     rotate_left
     ·
      rintro w' ⟨s0,s1,s2⟩
      go_simp
      with_reducible rfl
     rotate_left
     ·
      simp only[Act.put,List.setIfInBounds_toArray,List.set_cons_zero,List.set_cons_succ,i64_w,i32_w]
      rfl
     refine one_ (i:=0) (N:=some 6) #[true,true,true,false,false,false] rfl rfl (by kernel_rfl) (by decide) (fun K hK=>?_)
     refine goes_ Tryd.func28 (by kernel_rfl) rfl #[] (by rfl) rfl rfl ar ?_
     with_reducible refine(spec_l11Names.calls t273 _ A2.out).mono ?_
     rintro e w38 ⟨v274,rfl,ho0,hb⟩
     refine⟨_,rfl,?_⟩
     have n0_:=A_ (Kd.R_lower ho0 (below_size (bw HB.out)))
     have n1_:=A_ (blk_below (g:=gb272) (o:=.cells #[.int .i64 a0_0,.int .i64 a0_1,.slice A0_2 l0_2.length c0_2] 43 (0,0)) (bk BK272.out) hb)
     have n2_:=A_ (below_step (bw HB.out) hb)
     clear BK272 HB
     have HO275:=n0_
     have BK272:=n1_
     have HB:=n2_
     clear n0_ n1_ n2_
     (try clear hb)
     (try clear hb2)
     (try clear hk)
     (try clear hi)
     (try clear ho0)
     obtain⟨Ao39,co39,eo39⟩:=Kd.R_slice HO275.out
     (first|subst eo39|(injection eo39 with f1_ f2_ f3_;have f4_:=f1_.symm;have f5_:=f3_.symm;clear f1_ f2_ f3_;subst f4_;subst f5_))
     have p276:0≤(a0_0:Int):=od_
     have q276:a0_0<(t273.length:Int):=od_
     obtain⟨ad276,e276,hx276_0⟩:=Kd.at_string (Kd.R_reads' HO275.out).2.2 a0_0 p276 q276
     cases e276
     replace p276:=eq_true p276
     replace q276:=eq_true q276
     refine hK.out _ _ ⟨(blk_cell BK272.out 0).trans rfl,(blk_cell BK272.out 1).trans rfl,(blk_cell BK272.out 2).trans rfl⟩ (fun hHeld=>?_)
     clear hK K
     refine nS (some 6) ?_
     refine pure_ (i:=3) (N:=some 9) (v:=?_) (a':=?_) #[true,true,true,true,false,false] rfl rfl (by kernel_rfl) (fun _ _ _ h=>h) (Or.inl ⟨by rfl,?_⟩) ?_ ?_
     rotate_left
     ·
      intro w'
      go_simp
      with_reducible rfl
     rotate_left
     ·
      simp only[Act.put,List.setIfInBounds_toArray,List.set_cons_zero,List.set_cons_succ,i64_w,i32_w]
      rfl
     refine one_ (i:=4) (N:=some 10) #[true,true,true,true,true,false] rfl rfl (by kernel_rfl) (by decide) (fun K hK=>?_)
     refine value_ (v:=.string (rdOf ByteArray.empty t273 a0_0)) (by first|rfl|kernel_rfl) rfl (by first|(go_simp;done)|(go_simp;with_reducible rfl)) ?_
     refine hK.out _ _ ⟨(blk_cell BK272.out 0).trans rfl,(blk_cell BK272.out 1).trans rfl,(blk_cell BK272.out 2).trans rfl⟩ (fun hHeld=>?_)
     clear hK K
     refine nS (some 10) ?_
     refine pure_ (i:=5) (N:=some 3) (v:=?_) (a':=?_) #[true,true,true,true,true,true] rfl rfl (by kernel_rfl) (fun _ _ _ h=>h) (Or.inl ⟨by rfl,?_⟩) ?_ ?_
     rotate_left
     ·
      intro w'
      go_simp
      with_reducible rfl
     rotate_left
     ·
      simp only[Act.put,List.setIfInBounds_toArray,List.set_cons_zero,List.set_cons_succ,i64_w,i32_w]
      rfl
     refine done_ (by kernel_rfl) ?_
     obtain⟨hcz40_0,hcz40_1,hcz40_2⟩:=cs3_ BK272.out
     obtain⟨hfz40_0,hfz40_1,hfz40_2⟩:=fz3_ BK272.out
     try go_wp2_with (first|((with_reducible refine gc_ 25 rfl ?_);refine gn_ (some 40) Tryd.func25 (spec_l1In.calls a0_0 19 21 true _ A30.out) ?_;intro nd)|((with_reducible refine gc_ 29 rfl ?_);refine gm_ (some 50) Tryd.func29 (spec_l1Num.calls k a0_1 t282 _ A33.out) ?_;intro w41 hb;replace HO275:=A_ (Kd.R_below (kr_ HO275.out) hb);replace BK272:=kb_ BK272 hb;replace HB:=bs_ HB hb;(try clear hb)))
     go_ret
     exact⟨rr_,bw HB.out⟩
    rw[if_neg c35] at H
    exact absurd H (by simp)
   rw[if_neg c34] at H
   exact absurd H (by simp)
  rw[if_neg c32] at H
  exact absurd H (by simp)
 revert H
 refine iE_ (fun c42b0 c42b1 H=>?_) (fun c42 c42b0 c42b1 H=>?_)
 ·
  by_cases c43:(rdOf ByteArray.empty t273 a0_0).size+1≤9223372036854775807
  ·
   rw[if_pos c43] at H
   have c43b0:=eq_true c43
   have c43b1:=decide_eq_true c43
   try have c43b2:(9223372036854775807<(rdOf ByteArray.empty t273 a0_0).size+1)=False:=eq_false (Nat.not_lt.2 c43)
   replace H:=bA_ H
   obtain⟨t283,A44,H⟩:=H
   by_cases c45:((rdOf ByteArray.empty t273 a0_0)++(⟨#[60]⟩:ByteArray)).size+t283.size≤9223372036854775807
   ·
    rw[if_pos c45] at H
    have c45b0:=eq_true c45
    have c45n:(rdOf ByteArray.empty t273 a0_0).size+1+t283.size≤9223372036854775807:=by have h_:=c45;simp only[ByteArray.size_append] at h_;exact h_
    have c45b1:=decide_eq_true c45
    try have c45b2:(9223372036854775807<((rdOf ByteArray.empty t273 a0_0)++(⟨#[60]⟩:ByteArray)).size+t283.size)=False:=eq_false (Nat.not_lt.2 c45)
    by_cases c46:(((rdOf ByteArray.empty t273 a0_0)++(⟨#[60]⟩:ByteArray))++t283).size+1≤9223372036854775807
    ·
     rw[if_pos c46] at H
     have c46b0:=eq_true c46
     have c46n:(rdOf ByteArray.empty t273 a0_0).size+1+t283.size+1≤9223372036854775807:=by have h_:=c46;simp only[ByteArray.size_append] at h_;exact h_
     have c46b1:=decide_eq_true c46
     try have c46b2:(9223372036854775807<(((rdOf ByteArray.empty t273 a0_0)++(⟨#[60]⟩:ByteArray))++t283).size+1)=False:=eq_false (Nat.not_lt.2 c46)
     obtain rfl:=Option.some.inj H
     clear H
     go_enter Tryd.func14,Tryd.ntmps14
     try go_wp2_with (first|((with_reducible refine gd_ 1 rfl ?_);refine bx_ #[.int .i64 a0_0,.int .i64 a0_1,.slice A0_2 l0_2.length c0_2] 43 ?_;intro gb272 hg w47 hbox hb;have BK272:=A_ hbox;have GW272:=gw_ hg HB;have GE272:=GW272;replace HB:=bs_ HB hb;clear hb hbox hg))
     have n0_:=A_ (blk_drew BK272.out)
     have n1_:=A_ (below_drew1 HB.out)
     clear BK272 HB
     have BK272:=n0_
     have HB:=n1_
     clear n0_ n1_
     refine start_ (n:=6) (S:=fun w'=>w'.cell? ⟨gb272,0,none⟩=some (.int .i64 a0_0)∧w'.cell? ⟨gb272,1,none⟩=some (.int .i64 a0_1)∧w'.cell? ⟨gb272,2,none⟩=some (.slice A0_2 l0_2.length c0_2)) (ds:=[]) #[false,false,false,false,false,false] (by kernel_rfl) rfl rfl ⟨(blk_cell BK272.out 0).trans rfl,(blk_cell BK272.out 1).trans rfl,(blk_cell BK272.out 2).trans rfl⟩ (fun hHeld=>?_)
     generalize w47.drew=w48 at BK272 HB hHeld ⊢
     refine pure_ (i:=1) (N:=some 7) (v:=?_) (a':=?_) #[false,true,false,false,false,false] rfl rfl (by kernel_rfl) (fun _ _ _ h=>h) (Or.inl ⟨by rfl,?_⟩) ?_ ?_
     rotate_left
     ·
      intro w'
      go_simp
      with_reducible rfl
     rotate_left
     ·
      simp only[Act.put,List.setIfInBounds_toArray,List.set_cons_zero,List.set_cons_succ,i64_w,i32_w]
      rfl
     refine take_ (i:=2) (N:=some 8) (v:=?_) (a':=?_) #[false,true,true,false,false,false] rfl rfl (by kernel_rfl) (fun _ _ _ h=>h) (Or.inl ⟨by rfl,?_⟩) hHeld ?_ ?_
     rotate_left
     ·
      rintro w' ⟨s0,s1,s2⟩
      go_simp
      with_reducible rfl
     rotate_left
     ·
      simp only[Act.put,List.setIfInBounds_toArray,List.set_cons_zero,List.set_cons_succ,i64_w,i32_w]
      rfl
     refine one_ (i:=0) (N:=some 6) #[true,true,true,false,false,false] rfl rfl (by kernel_rfl) (by decide) (fun K hK=>?_)
     refine goes_ Tryd.func28 (by kernel_rfl) rfl #[] (by rfl) rfl rfl ar ?_
     with_reducible refine(spec_l11Names.calls t273 _ A2.out).mono ?_
     rintro e w49 ⟨v274,rfl,ho0,hb⟩
     refine⟨_,rfl,?_⟩
     have n0_:=A_ (Kd.R_lower ho0 (below_size (bw HB.out)))
     have n1_:=A_ (blk_below (g:=gb272) (o:=.cells #[.int .i64 a0_0,.int .i64 a0_1,.slice A0_2 l0_2.length c0_2] 43 (0,0)) (bk BK272.out) hb)
     have n2_:=A_ (below_step (bw HB.out) hb)
     clear BK272 HB
     have HO275:=n0_
     have BK272:=n1_
     have HB:=n2_
     clear n0_ n1_ n2_
     (try clear hb)
     (try clear hb2)
     (try clear hk)
     (try clear hi)
     (try clear ho0)
     obtain⟨Ao50,co50,eo50⟩:=Kd.R_slice HO275.out
     (first|subst eo50|(injection eo50 with f1_ f2_ f3_;have f4_:=f1_.symm;have f5_:=f3_.symm;clear f1_ f2_ f3_;subst f4_;subst f5_))
     have p276:0≤(a0_0:Int):=od_
     have q276:a0_0<(t273.length:Int):=od_
     obtain⟨ad276,e276,hx276_0⟩:=Kd.at_string (Kd.R_reads' HO275.out).2.2 a0_0 p276 q276
     cases e276
     replace p276:=eq_true p276
     replace q276:=eq_true q276
     refine hK.out _ _ ⟨(blk_cell BK272.out 0).trans rfl,(blk_cell BK272.out 1).trans rfl,(blk_cell BK272.out 2).trans rfl⟩ (fun hHeld=>?_)
     clear hK K
     refine nS (some 6) ?_
     refine pure_ (i:=3) (N:=some 9) (v:=?_) (a':=?_) #[true,true,true,true,false,false] rfl rfl (by kernel_rfl) (fun _ _ _ h=>h) (Or.inl ⟨by rfl,?_⟩) ?_ ?_
     rotate_left
     ·
      intro w'
      go_simp
      with_reducible rfl
     rotate_left
     ·
      simp only[Act.put,List.setIfInBounds_toArray,List.set_cons_zero,List.set_cons_succ,i64_w,i32_w]
      rfl
     refine one_ (i:=4) (N:=some 10) #[true,true,true,true,true,false] rfl rfl (by kernel_rfl) (by decide) (fun K hK=>?_)
     refine value_ (v:=.string (rdOf ByteArray.empty t273 a0_0)) (by first|rfl|kernel_rfl) rfl (by first|(go_simp;done)|(go_simp;with_reducible rfl)) ?_
     refine hK.out _ _ ⟨(blk_cell BK272.out 0).trans rfl,(blk_cell BK272.out 1).trans rfl,(blk_cell BK272.out 2).trans rfl⟩ (fun hHeld=>?_)
     clear hK K
     refine nS (some 10) ?_
     refine pure_ (i:=5) (N:=some 3) (v:=?_) (a':=?_) #[true,true,true,true,true,true] rfl rfl (by kernel_rfl) (fun _ _ _ h=>h) (Or.inl ⟨by rfl,?_⟩) ?_ ?_
     rotate_left
     ·
      intro w'
      go_simp
      with_reducible rfl
     rotate_left
     ·
      simp only[Act.put,List.setIfInBounds_toArray,List.set_cons_zero,List.set_cons_succ,i64_w,i32_w]
      rfl
     refine done_ (by kernel_rfl) ?_
     obtain⟨hcz51_0,hcz51_1,hcz51_2⟩:=cs3_ BK272.out
     obtain⟨hfz51_0,hfz51_1,hfz51_2⟩:=fz3_ BK272.out
     try go_wp2_with (first|((with_reducible refine gc_ 25 rfl ?_);refine gn_ (some 40) Tryd.func25 (spec_l1In.calls a0_0 19 21 false _ A30.out) ?_;intro nd)|((with_reducible refine gc_ 29 rfl ?_);refine gm_ (some 50) Tryd.func29 (spec_l1Num.calls k a0_1 t283 _ A44.out) ?_;intro w52 hb;replace HO275:=A_ (Kd.R_below (kr_ HO275.out) hb);replace BK272:=kb_ BK272 hb;replace HB:=bs_ HB hb;(try clear hb)))
     go_ret
     exact⟨rr_,bw HB.out⟩
    rw[if_neg c46] at H
    exact absurd H (by simp)
   rw[if_neg c45] at H
   exact absurd H (by simp)
  rw[if_neg c43] at H
  exact absurd H (by simp)
 obtain rfl:=Option.some.inj H
 clear H
 go_enter Tryd.func14,Tryd.ntmps14
 try go_wp2_with (first|((with_reducible refine gd_ 1 rfl ?_);refine bx_ #[.int .i64 a0_0,.int .i64 a0_1,.slice A0_2 l0_2.length c0_2] 43 ?_;intro gb272 hg w53 hbox hb;have BK272:=A_ hbox;have GW272:=gw_ hg HB;have GE272:=GW272;replace HB:=bs_ HB hb;clear hb hbox hg))
 have n0_:=A_ (blk_drew BK272.out)
 have n1_:=A_ (below_drew1 HB.out)
 clear BK272 HB
 have BK272:=n0_
 have HB:=n1_
 clear n0_ n1_
 refine start_ (n:=6) (S:=fun w'=>w'.cell? ⟨gb272,0,none⟩=some (.int .i64 a0_0)∧w'.cell? ⟨gb272,1,none⟩=some (.int .i64 a0_1)∧w'.cell? ⟨gb272,2,none⟩=some (.slice A0_2 l0_2.length c0_2)) (ds:=[]) #[false,false,false,false,false,false] (by kernel_rfl) rfl rfl ⟨(blk_cell BK272.out 0).trans rfl,(blk_cell BK272.out 1).trans rfl,(blk_cell BK272.out 2).trans rfl⟩ (fun hHeld=>?_)
 generalize w53.drew=w54 at BK272 HB hHeld ⊢
 refine pure_ (i:=1) (N:=some 7) (v:=?_) (a':=?_) #[false,true,false,false,false,false] rfl rfl (by kernel_rfl) (fun _ _ _ h=>h) (Or.inl ⟨by rfl,?_⟩) ?_ ?_
 rotate_left
 ·
  intro w'
  go_simp
  with_reducible rfl
 rotate_left
 ·
  simp only[Act.put,List.setIfInBounds_toArray,List.set_cons_zero,List.set_cons_succ,i64_w,i32_w]
  rfl
 refine take_ (i:=2) (N:=some 8) (v:=?_) (a':=?_) #[false,true,true,false,false,false] rfl rfl (by kernel_rfl) (fun _ _ _ h=>h) (Or.inl ⟨by rfl,?_⟩) hHeld ?_ ?_
 rotate_left
 ·
  rintro w' ⟨s0,s1,s2⟩
  go_simp
  with_reducible rfl
 rotate_left
 ·
  simp only[Act.put,List.setIfInBounds_toArray,List.set_cons_zero,List.set_cons_succ,i64_w,i32_w]
  rfl
 refine one_ (i:=0) (N:=some 6) #[true,true,true,false,false,false] rfl rfl (by kernel_rfl) (by decide) (fun K hK=>?_)
 refine goes_ Tryd.func28 (by kernel_rfl) rfl #[] (by rfl) rfl rfl ar ?_
 with_reducible refine(spec_l11Names.calls t273 _ A2.out).mono ?_
 rintro e w55 ⟨v274,rfl,ho0,hb⟩
 refine⟨_,rfl,?_⟩
 have n0_:=A_ (Kd.R_lower ho0 (below_size (bw HB.out)))
 have n1_:=A_ (blk_below (g:=gb272) (o:=.cells #[.int .i64 a0_0,.int .i64 a0_1,.slice A0_2 l0_2.length c0_2] 43 (0,0)) (bk BK272.out) hb)
 have n2_:=A_ (below_step (bw HB.out) hb)
 clear BK272 HB
 have HO275:=n0_
 have BK272:=n1_
 have HB:=n2_
 clear n0_ n1_ n2_
 (try clear hb)
 (try clear hb2)
 (try clear hk)
 (try clear hi)
 (try clear ho0)
 obtain⟨Ao56,co56,eo56⟩:=Kd.R_slice HO275.out
 (first|subst eo56|(injection eo56 with f1_ f2_ f3_;have f4_:=f1_.symm;have f5_:=f3_.symm;clear f1_ f2_ f3_;subst f4_;subst f5_))
 have p276:0≤(a0_0:Int):=od_
 have q276:a0_0<(t273.length:Int):=od_
 obtain⟨ad276,e276,hx276_0⟩:=Kd.at_string (Kd.R_reads' HO275.out).2.2 a0_0 p276 q276
 cases e276
 replace p276:=eq_true p276
 replace q276:=eq_true q276
 refine hK.out _ _ ⟨(blk_cell BK272.out 0).trans rfl,(blk_cell BK272.out 1).trans rfl,(blk_cell BK272.out 2).trans rfl⟩ (fun hHeld=>?_)
 clear hK K
 refine nS (some 6) ?_
 refine pure_ (i:=3) (N:=some 9) (v:=?_) (a':=?_) #[true,true,true,true,false,false] rfl rfl (by kernel_rfl) (fun _ _ _ h=>h) (Or.inl ⟨by rfl,?_⟩) ?_ ?_
 rotate_left
 ·
  intro w'
  go_simp
  with_reducible rfl
 rotate_left
 ·
  simp only[Act.put,List.setIfInBounds_toArray,List.set_cons_zero,List.set_cons_succ,i64_w,i32_w]
  rfl
 refine one_ (i:=4) (N:=some 10) #[true,true,true,true,true,false] rfl rfl (by kernel_rfl) (by decide) (fun K hK=>?_)
 refine value_ (v:=.string (rdOf ByteArray.empty t273 a0_0)) (by first|rfl|kernel_rfl) rfl (by first|(go_simp;done)|(go_simp;with_reducible rfl)) ?_
 refine hK.out _ _ ⟨(blk_cell BK272.out 0).trans rfl,(blk_cell BK272.out 1).trans rfl,(blk_cell BK272.out 2).trans rfl⟩ (fun hHeld=>?_)
 clear hK K
 refine nS (some 10) ?_
 refine pure_ (i:=5) (N:=some 3) (v:=?_) (a':=?_) #[true,true,true,true,true,true] rfl rfl (by kernel_rfl) (fun _ _ _ h=>h) (Or.inl ⟨by rfl,?_⟩) ?_ ?_
 rotate_left
 ·
  intro w'
  go_simp
  with_reducible rfl
 rotate_left
 ·
  simp only[Act.put,List.setIfInBounds_toArray,List.set_cons_zero,List.set_cons_succ,i64_w,i32_w]
  rfl
 refine done_ (by kernel_rfl) ?_
 obtain⟨hcz57_0,hcz57_1,hcz57_2⟩:=cs3_ BK272.out
 obtain⟨hfz57_0,hfz57_1,hfz57_2⟩:=fz3_ BK272.out
 try go_wp2_with (first|((with_reducible refine gc_ 25 rfl ?_);refine gn_ (some 40) Tryd.func25 (spec_l1In.calls a0_0 19 21 false _ A30.out) ?_;intro nd))
 go_ret
 exact⟨rr_,bw HB.out⟩
end Go.Proofs.YtoeenmajdidfoaaDoor.Q

