-- Written by a program of this session; it walks the functions that the law reaches.
import Derived.Test.YtlgegdgilkaldaaQx0
import Derived.Test.YtlgegdgilkaldaaQx4
import Derived.Test.YtlgegdgilkaldaaQx2
namespace Go.Proofs.Ytlgegdgilkaldaa.Q
open Go.RowKit Go.Proofs.YtlgegdgilkaldaaW.PrintWords Go.Proofs.YtlgegdgilkaldaaW.PrintLast Go.Proofs.YtlgegdgilkaldaaW.PrintMore
attribute [local go_sem] max2_int min2_int max_two min_two max_three min_three max_four min_four   -- for this text's walks alone
set_option linter.unusedVariables false
set_option linter.unusedSimpArgs false


/-! ### spec_l12Flat: function 48 (walked by hand) -/

/-! Pointers to made structs: a kind of its own, with the struct's block among what it holds. -/
def kptr {α : Type} (t : Nat) (d : Kd α) : Kd α where
 sz := 1
 E := t :: d.E
 K := fun w x cs => ∃ (g : Nat) (cells : Array Value), cs = [.pointer (some ⟨g, 0, none⟩)] ∧ w.heap[g]? = some (.cells cells t (0, 0)) ∧ d.K w x cells.toList
 M := fun w base ok x cs => ∃ (g : Nat) (cells : Array Value), cs = [.pointer (some ⟨g, 0, none⟩)] ∧ base ≤ g ∧ ok g ∧ w.heap[g]? = some (.cells cells t (0, 0)) ∧ d.M w base ok x cells.toList
 K_len := by
  rintro w x cs ⟨g, cells, rfl, _⟩
  rfl
 K_one := by
  rintro w x cs ⟨g, cells, rfl, _⟩ u hu
  rw [List.mem_singleton.1 hu]
  rfl
 K_below := by
  rintro w w1 x cs hb ⟨g, cells, rfl, hc, h⟩
  exact ⟨g, cells, rfl, (hb.block g (blk_lt hc)).trans hc, d.K_below hb h⟩
 K_of_M := by
  rintro w base ok x cs ⟨g, cells, rfl, _, _, hc, h⟩
  exact ⟨g, cells, rfl, hc, d.K_of_M h⟩
 M_mono := by
  rintro w base ok ok' x cs hok ⟨g, cells, rfl, hb, hg, hc, h⟩
  exact ⟨g, cells, rfl, hb, hok g hg, hc, d.M_mono hok h⟩
 M_bound := by
  rintro w base ok x cs ⟨g, cells, rfl, hb, hg, hc, h⟩
  refine ⟨g, cells, rfl, hb, ⟨hg, hb, blk_lt hc, t, List.mem_cons_self, cells, hc⟩, hc, d.M_mono ?_ (d.M_bound h)⟩
  rintro k ⟨h2, h3, h4, q, hq, hc⟩
  exact ⟨h2, h3, h4, q, List.mem_cons_of_mem _ hq, hc⟩
 M_move := by
  rintro w w1 base ok x cs hm ⟨g, cells, rfl, hb, hg, hc, h⟩
  exact ⟨g, cells, rfl, hb, hg, (hm g hg).trans hc, d.M_move hm h⟩
 M_lower := by
  rintro w base base' ok x cs hb ⟨g, cells, rfl, hb2, hg, hc, h⟩
  exact ⟨g, cells, rfl, Nat.le_trans hb hb2, hg, hc, d.M_lower hb h⟩
theorem mono_kptr {α β : Type} (t : Nat) {G : Kd α → Kd β} (hG : Kd.Mono G) : Kd.Mono (fun d => kptr t (G d)) := by
 refine ⟨fun _ _ _ => rfl, ?_, ?_⟩
 ·
  rintro d d' hs h w x cs ⟨g, cells, rfl, hc, hr⟩
  exact ⟨g, cells, rfl, hc, hG.K d d' hs h _ _ _ hr⟩
 ·
  rintro d d' hs h w base ok x cs ⟨g, cells, rfl, hb, hg, hc, hr⟩
  exact ⟨g, cells, rfl, hb, hg, hc, hG.M d d' hs h _ _ _ _ _ hr⟩
theorem sub_kptr {α β : Type} {E : List Nat} (t : Nat) {G : Kd α → Kd β} (he : t ∈ E) (hG : Kd.Sub G E) : Kd.Sub (fun d => kptr t (G d)) E := fun d h q hq => by
 rcases List.mem_cons.1 hq with rfl | hq
 ·
  exact he
 ·
  exact hG d h q hq
/-- A pointer to a datum (struct type 98; a row of such pointers has elements of type 70). -/
def FD (d : Kd S68) : Kd S68 := kptr 98 (Kd.iso (Kd.pair (Kd.int .i64) (Kd.pair Kd.string (Kd.slice 70 d))) (fun x : S68 => (x.f0, x.f1, x.f2)))
theorem monoD : Kd.Mono FD := mono_kptr 98 (Kd.mono_iso _ (Kd.mono_pair (Kd.mono_const _) (Kd.mono_pair (Kd.mono_const _) (Kd.mono_slice 70 Kd.mono_id))))
theorem subD : Kd.Sub FD [98, 70] := sub_kptr 98 (by decide) (Kd.sub_iso _ (Kd.sub_pair (Kd.sub_const _ (fun _ h => by cases h)) (Kd.sub_pair (Kd.sub_const _ (fun _ h => by cases h)) (Kd.sub_slice 70 (by decide) Kd.sub_id))))
theorem szD : ∀ n, (Kd.upto FD 1 [98, 70] n).sz = 1 := Kd.upto_sz (fun _ => rfl)
def kD : Kd S68 := Kd.fix FD 1 [98, 70] szD (Kd.upto_E subD)
theorem kD_open {w : World} {x : S68} {cs : List Value} (h : kD.K w x cs) : ∃ g A c, cs = [.pointer (some ⟨g, 0, none⟩)] ∧ w.heap[g]? = some (.cells #[.int .i64 x.f0, .string x.f1, .slice A x.f2.length c] 98 (0, 0)) ∧ x.f2.length ≤ c ∧ kD.C w A x.f2.length x.f2 := by
 obtain ⟨n, h⟩ := h
 cases n with
 | zero => exact h.elim
 | succ n =>
  obtain ⟨g, cells, rfl, hc, ⟨_, _, e1, rfl, ⟨_, _, rfl, rfl, ⟨A, c, rfl, l2, g2⟩⟩⟩⟩ := h
  have e2 : cells = #[.int .i64 x.f0, .string x.f1, .slice A x.f2.length c] := Array.toList_inj.1 e1
  subst e2
  exact ⟨g, A, c, rfl, hc, l2, Kd.fix_C g2⟩
theorem kD_mkM {w : World} {base : Nat} {ok : Nat → Prop} {x : S68} {g : Nat} {v : Value} (hb : base ≤ g) (hg : ok g) (hc : w.heap[g]? = some (.cells #[.int .i64 x.f0, .string x.f1, v] 98 (0, 0))) (g2 : kD.R 70 w base ok v x.f2) : kD.M w base ok x [.pointer (some ⟨g, 0, none⟩)] := by
 obtain ⟨n2, q2⟩ := Kd.fix_R_back monoD g2
 have r2 := Kd.upto_R_le monoD szD (show n2 ≤ n2 by omega) q2
 exact ⟨n2 + 1, ⟨g, _, rfl, hb, hg, hc, ⟨[.int .i64 x.f0], [.string x.f1, v], rfl, rfl, ⟨[.string x.f1], [v], rfl, rfl, ⟨v, rfl, r2⟩⟩⟩⟩⟩
theorem kD_ne {t : Nat} (h1 : (t == 98) = false) (h2 : (t == 70) = false) : ∀ q, q ∈ 70 :: kD.E → q ≠ t := by
 intro q hq
 have : q = 70 ∨ q = 98 ∨ q = 70 := by simpa [kD, Kd.fix] using hq
 rintro rfl
 rcases this with rfl | rfl | rfl <;> simp_all
/-- The i-th pointer of a row of data. -/
theorem at_D {w : World} {A : Option Addr} {n : Nat} {xs : List S68} (h : kD.C w A n xs) (i : Nat) (hi : i < n) (x : S68) (hx : xs[i]? = some x) : ∃ ad g, A = some ad ∧ w.cell? (ad.add i) = some (.pointer (some ⟨g, 0, none⟩)) ∧ kD.K w x [.pointer (some ⟨g, 0, none⟩)] := by
 obtain ⟨ad, c, e, _, hK, hc⟩ := Kd.C_get h z68 (i : Int) (by omega) (by omega)
 have hx2 : xs.getD (i : Int).toNat z68 = x := by rw [Int.toNat_natCast, List.getD_eq_getElem?_getD, hx]; rfl
 rw [hx2] at hK
 obtain ⟨g, A2, c2, rfl, _⟩ := kD_open hK
 have h0 := hc 0 _ rfl
 rw [Int.toNat_natCast] at h0
 refine ⟨ad, g, e, ?_, hK⟩
 have e1 : i * kD.sz + 0 = i := by show i * 1 + 0 = i; omega
 rw [e1] at h0
 exact h0
theorem infoV : (Try.prog.info? 75).map (fun i => (i.zero, i.size, i.bytes)) = some (some (.agg #[(.int .i64 0), (.string ⟨#[]⟩), (.int .i64 0)]), 3, 32) := by kernel_rfl


/-! The nodes of a tree of data, behind the row handed over. -/
def fewV : Nat → S68 → Bool
 | 0, _ => false
 | n + 1, t => decide (t.f2.length ≤ 8) && t.f2.all (fewV n)
theorem fewV_kids {n : Nat} {t : S68} (h : fewV (n + 1) t = true) : t.f2.length ≤ 8 ∧ ∀ x ∈ t.f2, fewV n x = true := by
 rw [fewV, Bool.and_eq_true] at h
 exact ⟨of_decide_eq_true h.1, fun x hx => List.all_eq_true.1 h.2 x hx⟩
def dnodesN : Nat → List S75 → S68 → Int → List S75
 | 0, l, _, _ => l
 | n + 1, l, t, up => t.f2.foldl (fun s x => dnodesN n s x (l.length : Int)) (l ++ [⟨t.f0, t.f1, up⟩])
theorem foldl_vals_len (f : List S75 → S68 → List S75) (m : Nat) : ∀ (xs : List S68) (s : List S75), (∀ x ∈ xs, ∀ s, (f s x).length ≤ s.length + m) → (xs.foldl f s).length ≤ s.length + xs.length * m
 | [], s, _ => by simp
 | x :: xs, s, h => by
  have h1 := foldl_vals_len f m xs (f s x) (fun y hy => h y (List.mem_cons_of_mem _ hy))
  have h2 := h x List.mem_cons_self s
  rw [List.foldl_cons]
  rw [List.length_cons, Nat.succ_mul]
  omega
theorem dnodesN_len : ∀ (n : Nat) (l : List S75) (t : S68) (up : Int), fewV n t = true → (dnodesN n l t up).length ≤ l.length + (2 * 8 ^ n - 1)
 | 0, _, _, _, h => by cases h
 | n + 1, l, t, up, h => by
  obtain ⟨hl, hx⟩ := fewV_kids h
  have h1 := foldl_vals_len (fun s x => dnodesN n s x (l.length : Int)) (2 * 8 ^ n - 1) t.f2 (l ++ [⟨t.f0, t.f1, up⟩]) (fun x hxx s => dnodesN_len n s x _ (hx x hxx))
  have hp : 1 ≤ 8 ^ n := Nat.one_le_pow _ _ (by decide)
  have hq : 8 ^ (n + 1) = 8 * 8 ^ n := by rw [Nat.pow_succ, Nat.mul_comm]
  have h8 : t.f2.length * (2 * 8 ^ n - 1) ≤ 8 * (2 * 8 ^ n - 1) := Nat.mul_le_mul_right _ hl
  rw [List.length_append, List.length_singleton] at h1
  show (t.f2.foldl (fun s x => dnodesN n s x (l.length : Int)) (l ++ [⟨t.f0, t.f1, up⟩])).length ≤ _
  omega
def dnodesN.T2 : Bool × List (List Nat × List Nat) := (true, [([], []), ([], []), ([1], [1]), ([2], [2]), ([3], [3]), ([], []), ([5], [5]), ([6], [6]), ([7], [7]), ([], []), ([4, 8, 9], [4, 8, 9]), ([10], [10]), ([0, 11], [0, 11]), ([12, 12, 0, 1, 2, 3, 4, 5, 6, 7, 8, 9, 10, 11, 12], [0, 12])])
def dnodesN.B2 : List Nat := [0, 0, 2, 6, 14, 0, 32, 96, 224, 0, 1022, 2046, 4095, 8191]
theorem dnodesN.tab2 : rtab .any (opsOf Try.f51 2) = dnodesN.T2 := by kernel_rfl
theorem dnodesN.bits2 : waitsOk dnodesN.T2.2 dnodesN.B2 = true := by kernel_rfl

set_option maxHeartbeats 8000000 in
set_option maxRecDepth 100000 in
theorem dnodes_any (n : Nat) : n ≤ 12 → ∀ (t : S68) (g : Nat) (up : Int) (l : List S75) (v : Value) (wb w : World), fewV n t = true → kD.K wb t [.pointer (some ⟨g, 0, none⟩)] → Below wb.heap.size wb w → Kd.R k75 75 w wb.heap.size (fun _ => True) v l → l.length + 2 * 8 ^ n ≤ 1000000000000 →
  Calls Try.prog 51 #[.pointer (some ⟨g, 0, none⟩), v, .int .i64 up] w fun e w' => ∃ v0 : Value, e = .returned v0 ∧ Kd.R k75 75 w' wb.heap.size (fun _ => True) v0 (dnodesN n l t up) ∧ Below wb.heap.size wb w' := by
 induction n with
 | zero => intro hn t g up l v wb w h; cases h
 | succ n ih =>
  intro hn t g up l v wb w hf hK hB hR hl
  have hu75 := Try.underlying75
  have hu98 := Try.underlying98
  have HF8 := Aside0.mk (fewV_kids hf)
  obtain ⟨g_, A, c, eg, hbk, hc, hC⟩ := kD_open hK
  obtain rfl : g = g_ := by injection eg with eg _; injection eg with eg; injection eg with eg; injection eg
  clear eg
  have HC := Aside0.mk hC
  have HBK := Aside0.mk hbk
  have HB := Aside0.mk hB
  have HLN := Aside0.mk hl
  have BK := Aside0.mk ((hB.block g (blk_lt hbk)).trans hbk)
  obtain ⟨Av, cv, ev⟩ := Kd.R_slice hR
  subst ev
  have HO := Aside0.mk hR
  clear hC hf hB hR hl hK hbk
  have HNL : Aside0 ((l.length + 1) * 32 ≤ 140737488355328) := ⟨by have := HLN.out; omega⟩
  have E : dnodesN (n + 1) l t up = t.f2.foldl (fun s x => dnodesN n s x (l.length : Int)) (l ++ [⟨t.f0, t.f1, up⟩]) := rfl
  rw [E]; clear E
  go_enter Try.func51, Try.ntmps51
  go_wp2
  have n0_ := Aside0.mk (Kd.R_drew HO.out); have n1_ := Aside0.mk (blk_drew BK.out); have n2_ := Aside0.mk (below_drew1 HB.out); clear HO BK HB; have HO := n0_; have BK := n1_; have HB := n2_; clear n0_ n1_ n2_
  refine start_ (n := 14) (S := fun w' => w'.cell? ⟨g, 0, none⟩ = some (.int .i64 t.f0) ∧ w'.cell? ⟨g, 1, none⟩ = some (.string t.f1)) (ds := []) #[false, false, false, false, false, false, false, false, false, false, false, false, false, false] (by kernel_rfl) rfl rfl ⟨(blk_cell BK.out 0).trans rfl, (blk_cell BK.out 1).trans rfl⟩ (fun hHeld => ?_); refine with_tabW dnodesN.tab2 dnodesN.bits2 (fun HT_ HW_ => ?_)
  generalize w.drew = wd at HO BK HB hHeld ⊢
  refine pure_ (i := 0) (N := some 12) (v := ?_) (a' := ?_) #[true, false, false, false, false, false, false, false, false, false, false, false, false, false] rfl rfl (any_of HT_.out (by kernel_rfl)) (fun _ _ _ h => h) (Or.inl ⟨by rfl, ?_⟩) ?_ ?_
  rotate_left
  ·
   intro w'
   go_simp
   with_reducible rfl
  rotate_left
  ·
   simp only [Act.put, List.setIfInBounds_toArray, List.set_cons_zero, List.set_cons_succ, i64_w, i32_w]
   rfl
  refine pure_ (i := 1) (N := some 13) (v := ?_) (a' := ?_) #[true, true, false, false, false, false, false, false, false, false, false, false, false, false] rfl rfl (any_of HT_.out (by kernel_rfl)) (fun _ _ _ h => h) (Or.inl ⟨by rfl, ?_⟩) ?_ ?_
  rotate_left
  ·
   intro w'
   go_simp
   with_reducible rfl
  rotate_left
  ·
   simp only [Act.put, List.setIfInBounds_toArray, List.set_cons_zero, List.set_cons_succ, i64_w, i32_w]
   rfl
  refine pure_ (i := 2) (N := some 14) (v := ?_) (a' := ?_) #[true, true, true, false, false, false, false, false, false, false, false, false, false, false] rfl rfl (any_of HT_.out (by kernel_rfl)) (fun _ _ _ h => h) (Or.inl ⟨by rfl, ?_⟩) ?_ ?_
  rotate_left
  ·
   intro w'
   go_simp
   with_reducible rfl
  rotate_left
  ·
   simp only [Act.put, List.setIfInBounds_toArray, List.set_cons_zero, List.set_cons_succ, i64_w, i32_w]
   rfl
  refine pure_ (i := 3) (N := some 15) (v := ?_) (a' := ?_) #[true, true, true, true, false, false, false, false, false, false, false, false, false, false] rfl rfl (any_of HT_.out (by kernel_rfl)) (fun _ _ _ h => h) (Or.inl ⟨by rfl, ?_⟩) ?_ ?_
  rotate_left
  ·
   intro w'
   go_simp
   with_reducible rfl
  rotate_left
  ·
   simp only [Act.put, List.setIfInBounds_toArray, List.set_cons_zero, List.set_cons_succ, i64_w, i32_w]
   rfl
  refine pure_ (i := 5) (N := some 17) (v := ?_) (a' := ?_) #[true, true, true, true, false, true, false, false, false, false, false, false, false, false] rfl rfl (any_of HT_.out (by kernel_rfl)) (fun _ _ _ h => h) (Or.inl ⟨by rfl, ?_⟩) ?_ ?_
  rotate_left
  ·
   intro w'
   go_simp
   with_reducible rfl
  rotate_left
  ·
   simp only [Act.put, List.setIfInBounds_toArray, List.set_cons_zero, List.set_cons_succ, i64_w, i32_w]
   rfl
  refine pure_ (i := 6) (N := some 18) (v := ?_) (a' := ?_) #[true, true, true, true, false, true, true, false, false, false, false, false, false, false] rfl rfl (any_of HT_.out (by kernel_rfl)) (fun _ _ _ h => h) (Or.inl ⟨by rfl, ?_⟩) ?_ ?_
  rotate_left
  ·
   intro w'
   go_simp
   with_reducible rfl
  rotate_left
  ·
   simp only [Act.put, List.setIfInBounds_toArray, List.set_cons_zero, List.set_cons_succ, i64_w, i32_w]
   rfl
  refine pure_ (i := 7) (N := some 19) (v := ?_) (a' := ?_) #[true, true, true, true, false, true, true, true, false, false, false, false, false, false] rfl rfl (any_of HT_.out (by kernel_rfl)) (fun _ _ _ h => h) (Or.inl ⟨by rfl, ?_⟩) ?_ ?_
  rotate_left
  ·
   intro w'
   go_simp
   with_reducible rfl
  rotate_left
  ·
   simp only [Act.put, List.setIfInBounds_toArray, List.set_cons_zero, List.set_cons_succ, i64_w, i32_w]
   rfl
  refine pure_ (i := 9) (N := some 21) (v := ?_) (a' := ?_) #[true, true, true, true, false, true, true, true, false, true, false, false, false, false] rfl rfl (any_of HT_.out (by kernel_rfl)) (fun _ _ _ h => h) (Or.inl ⟨by rfl, ?_⟩) ?_ ?_
  rotate_left
  ·
   intro w'
   go_simp
   with_reducible rfl
  rotate_left
  ·
   simp only [Act.put, List.setIfInBounds_toArray, List.set_cons_zero, List.set_cons_succ, i64_w, i32_w]
   rfl
  refine take_ (i := 4) (N := some 16) (v := ?_) (a' := ?_) #[true, true, true, true, true, true, true, true, false, true, false, false, false, false] rfl rfl (take_ofW HT_.out HW_.out (by kernel_rfl)) (fun _ _ _ h => h) (Or.inl ⟨by rfl, ?_⟩) hHeld ?_ ?_
  rotate_left
  ·
   rintro w' ⟨s0, s1⟩
   go_simp
   with_reducible rfl
  rotate_left
  ·
   simp only [Act.put, List.setIfInBounds_toArray, List.set_cons_zero, List.set_cons_succ, i64_w, i32_w]
   rfl
  refine take_ (i := 8) (N := some 20) (v := ?_) (a' := ?_) #[true, true, true, true, true, true, true, true, true, true, false, false, false, false] rfl rfl (take_ofW HT_.out HW_.out (by kernel_rfl)) (fun _ _ _ h => h) (Or.inl ⟨by rfl, ?_⟩) hHeld ?_ ?_
  rotate_left
  ·
   rintro w' ⟨s0, s1⟩
   go_simp
   with_reducible rfl
  rotate_left
  ·
   simp only [Act.put, List.setIfInBounds_toArray, List.set_cons_zero, List.set_cons_succ, i64_w, i32_w]
   rfl
  refine pure_ (i := 10) (N := some 22) (v := ?_) (a' := ?_) #[true, true, true, true, true, true, true, true, true, true, true, false, false, false] rfl rfl (any_of HT_.out (by kernel_rfl)) (fun _ _ _ h => h) (Or.inl ⟨by rfl, ?_⟩) ?_ ?_
  rotate_left
  ·
   intro w'
   go_simp
   with_reducible rfl
  rotate_left
  ·
   simp only [Act.put, List.setIfInBounds_toArray, List.set_cons_zero, List.set_cons_succ, i64_w, i32_w]
   rfl
  refine one_ (i := 11) (N := some 23) #[true, true, true, true, true, true, true, true, true, true, true, true, false, false] rfl rfl (one_of HT_.out (by kernel_rfl)) (by decide) (fun K hK => ?_)
  refine value_ (w1 := ?_) (v := ?_) (by rfl) rfl ?_ ?_
  rotate_left 2
  ·
   go_simp
   constructor
   ·
    rfl
   ·
    rfl
  refine hK.out _ _ ⟨(blk_cell (blk_alloc BK.out _) 0).trans rfl, (blk_cell (blk_alloc BK.out _) 1).trans rfl⟩ (fun hHeld => ?_)
  clear hK K
  refine norm_ (a' := ?_) ?_ ?_
  rotate_left
  ·
   show Act.put _ (some 23) _ = _
   simp only [Act.put, List.setIfInBounds_toArray, List.set_cons_zero, List.set_cons_succ, i64_w, i32_w]
   rfl
  refine one_ (i := 12) (N := some 24) #[true, true, true, true, true, true, true, true, true, true, true, true, true, false] rfl rfl (one_of HT_.out (by kernel_rfl)) (by decide) (fun K hK => ?_)
  refine Kd.R_append_step k75 (w0 := wb) wb.heap.size (by rfl) (.tmp 12) (.tmp 23) 32 75 (.agg #[(.int .i64 0), (.string ⟨#[]⟩), (.int .i64 0)]) 32 rfl Try.underlying32 infoV rfl (by decide) (by omega) (.slice Av l.length cv) l (⟨t.f0, t.f1, up⟩ : S75) [.int .i64 t.f0, .string t.f1, .int .i64 up] (fun _ => True) (fun _ => False) rfl rfl ?aP (fun _ hk => hk.elim) ?aF ?aO ?aB ?aS ?aL ?_
  (case aP => exact k75_mkM _ _ _ _)
  (case aB => exact HB.out)
  (case aF => exact (fun k_ hk => trivial))
  (case aO => exact HO.out)
  (case aS => exact HB.out.size)
  (case aL => exact HNL.out)
  intro v2 w2 ho hb hg hat
  have n0_ := Aside0.mk (show w2.heap[g]? = some (.cells #[.int .i64 t.f0, .string t.f1, .slice A t.f2.length c] 98 (0, 0)) from (hb.block g (blk_lt HBK.out)).trans HBK.out)
  have n1_ := Aside0.mk hb
  have n2_ := Aside0.mk ho
  clear HO BK HB ho hb hg hat hHeld; have HO := n2_; have BK := n0_; have HB := n1_; clear n0_ n1_ n2_
  obtain ⟨Ao, co, eo⟩ := Kd.R_slice HO.out
  rw [List.length_append, List.length_singleton] at eo
  subst eo
  refine hK.out _ _ ⟨(blk_cell BK.out 0).trans rfl, (blk_cell BK.out 1).trans rfl⟩ (fun hHeld => ?_)
  clear hK K
  refine norm_ (a' := ?_) ?_ ?_
  rotate_left
  ·
   show Act.put _ (some 24) _ = _
   simp only [Act.put, List.setIfInBounds_toArray, List.set_cons_zero, List.set_cons_succ, i64_w, i32_w]
   rfl
  refine pure_ (i := 13) (N := some 1) (v := ?_) (a' := ?_) #[true, true, true, true, true, true, true, true, true, true, true, true, true, true] rfl rfl (any_of HT_.out (by kernel_rfl)) (fun _ _ _ h => h) (Or.inl ⟨by rfl, ?_⟩) ?_ ?_
  rotate_left
  ·
   intro w'
   go_simp
   with_reducible rfl
  rotate_left
  ·
   simp only [Act.put, List.setIfInBounds_toArray, List.set_cons_zero, List.set_cons_succ, i64_w, i32_w]
   rfl
  refine done_ (done_of HT_.out (by kernel_rfl)) ?_
  clear hHeld
  have y2 : w2.cell? ⟨g, 2, none⟩ = some (.slice A t.f2.length c) := (blk_cell BK.out 2).trans rfl
  go_wp2
  go_loopg [1, 30] t.f2.length (fun kq v1 v30 w' => ∃ j : Nat, j + kq = t.f2.length ∧ v30 = .int .i64 j ∧ Aside0 (Kd.R k75 75 w' wb.heap.size (fun _ => True) v1 ((t.f2.take j).foldl (fun s x => dnodesN n s x (l.length : Int)) (l ++ [⟨t.f0, t.f1, up⟩]))) ∧ Aside0 (Below wb.heap.size wb w'))
  case atStart => exact ⟨0, by omega, rfl, ⟨HO.out⟩, ⟨HB.out⟩⟩
  case round =>
   clear y2 HO HB BK
   obtain ⟨j, hj, rfl, HO, HB⟩ := hrel
   have hl8 := HF8.out.1
   by_cases hlt : j < t.f2.length
   ·
    obtain ⟨ad, gx, hA, hp, hKx⟩ := at_D HC.out j hlt t.f2[j] (List.getElem?_eq_getElem hlt)
    subst hA
    have gp := (HB.out.cell (World.block_lt_of_cell? _ _ hp)).trans hp
    have HX := Aside0.mk hKx
    have HFX := Aside0.mk (HF8.out.2 _ (List.getElem_mem hlt))
    have HFD := Aside0.mk (fold_take (fun s x => dnodesN n s x (l.length : Int)) (l ++ [⟨t.f0, t.f1, up⟩]) t.f2 j hlt)
    have HL := Aside0.mk (foldl_vals_len (fun s x => dnodesN n s x (l.length : Int)) (2 * 8 ^ n - 1) (t.f2.take j) (l ++ [⟨t.f0, t.f1, up⟩]) (fun y hy s => dnodesN_len n s y _ (HF8.out.2 y (List.mem_of_mem_take hy))))
    clear hp hKx
    generalize t.f2[j] = x at HX HFX HFD
    generalize (t.f2.take j).foldl (fun s x => dnodesN n s x (l.length : Int)) (l ++ [⟨t.f0, t.f1, up⟩]) = acc at HFD HO HL
    have HN : Aside0 (acc.length + 2 * 8 ^ n ≤ 1000000000000) := ⟨by
     have a1 := HL.out
     have a3 : (t.f2.take j).length * (2 * 8 ^ n - 1) ≤ 7 * (2 * 8 ^ n - 1) := Nat.mul_le_mul_right _ (by rw [List.length_take]; have := HF8.out.1; omega)
     have a5 : 8 ^ (n + 1) = 8 * 8 ^ n := by rw [Nat.pow_succ, Nat.mul_comm]
     have a6 : 1 ≤ 8 ^ n := Nat.one_le_pow _ _ (by decide)
     have a7 := HLN.out
     rw [List.length_append, List.length_singleton] at a1
     omega⟩
    clear HL
    obtain ⟨Ac, cc, ec⟩ := Kd.R_slice HO.out
    subst ec
    go_wp2_with (first | (go_at_call 51; refine (ih (by omega) x gx (l.length : Int) acc _ wb _ HFX.out HX.out HB.out HO.out HN.out).mono ?_; rintro e w' ⟨v0, rfl, ho, hb⟩; rw [← HFD.out] at ho; have n0_ := Aside0.mk ho; have n1_ := Aside0.mk hb; clear HO HB gp ho hb; have HO := n0_; have HB := n1_; clear n0_ n1_))
    go_roundg (t.f2.length - (j + 1))
    case measure => omega
    case rel => exact ⟨j + 1, by omega, by go_num, ⟨HO.out⟩, ⟨HB.out⟩⟩
   ·
    obtain rfl : j = t.f2.length := by omega
    rw [List.take_length] at HO
    go_wp2
    go_ret
    exact ⟨_, rfl, HO.out, HB.out⟩


/-! The nodes of a value, behind the row handed over; no more than a few above 100. -/
def valsN : Nat → List S75 → S68 → Int → List S75
 | 0, l, _, _ => l
 | n + 1, l, t, up => t.f2.foldl (fun s x => if s.length ≤ 100 then valsN n s x (l.length : Int) else s) (l ++ [⟨t.f0, t.f1, up⟩])
theorem vals_fold_len (f : List S75 → S68 → List S75) : ∀ (xs : List S68) (s : List S75), s.length ≤ 101 → (∀ x ∈ xs, ∀ s : List S75, s.length ≤ 100 → (f s x).length ≤ 101) → (xs.foldl (fun s x => if s.length ≤ 100 then f s x else s) s).length ≤ 101
 | [], s, h, _ => h
 | x :: xs, s, h, hf => by
  rw [List.foldl_cons]
  refine vals_fold_len f xs _ ?_ (fun y hy => hf y (List.mem_cons_of_mem _ hy))
  split
  ·
   rename_i h2; exact hf x List.mem_cons_self s h2
  ·
   exact h
theorem valsN_len : ∀ (n : Nat) (l : List S75) (t : S68) (up : Int), l.length ≤ 100 → (valsN n l t up).length ≤ 101
 | 0, l, _, _, h => by show l.length ≤ 101; omega
 | n + 1, l, t, up, h => by
  show (t.f2.foldl (fun s x => if s.length ≤ 100 then valsN n s x (l.length : Int) else s) (l ++ [⟨t.f0, t.f1, up⟩])).length ≤ 101
  exact vals_fold_len (fun s x => valsN n s x (l.length : Int)) t.f2 (l ++ [⟨t.f0, t.f1, up⟩]) (by rw [List.length_append, List.length_singleton]; omega) (fun x _ s hs => valsN_len n s x _ hs)

set_option maxHeartbeats 8000000 in
set_option maxRecDepth 100000 in
theorem vals_any (n : Nat) : n ≤ 12 → ∀ (t : S68) (A : Option Addr) (c : Nat) (up : Int) (l : List S75) (v : Value) (wb w : World), fewV n t = true → Kd.C k68 wb A t.f2.length t.f2 → t.f2.length ≤ c → Below wb.heap.size wb w → Kd.R k75 75 w wb.heap.size (fun _ => True) v l → l.length ≤ 100 →
  Calls Try.prog 48 #[v, .agg #[.int .i64 t.f0, .string t.f1, .slice A t.f2.length c], .int .i64 up] w fun e w' => ∃ v0 : Value, e = .returned v0 ∧ Kd.R k75 75 w' wb.heap.size (fun _ => True) v0 (valsN n l t up) ∧ Below wb.heap.size wb w' := by
 induction n with
 | zero => intro hn t A c up l v wb w h; cases h
 | succ n ih =>
  intro hn t A c up l v wb w hf hC hc hB hR hl
  have hu75 := Try.underlying75
  have hu68 := Try.underlying68
  have HF8 := Aside0.mk (fewV_kids hf)
  have HC := Aside0.mk hC
  have HB := Aside0.mk hB
  have HLN := Aside0.mk hl
  obtain ⟨Av, cv, ev⟩ := Kd.R_slice hR
  subst ev
  have HO := Aside0.mk hR
  clear hC hf hB hR hl
  have HNE : Aside0 (∀ g, w.heap.size ≤ g → some g ≠ (Value.slice Av l.length cv).ownBlock) := ⟨fun g hg h => absurd (Kd.R_lt HO.out g h.symm) (by omega)⟩
  have HNL : Aside0 ((l.length + 1) * 32 ≤ 140737488355328) := ⟨by have := HLN.out; omega⟩
  have E : valsN (n + 1) l t up = t.f2.foldl (fun s x => if s.length ≤ 100 then valsN n s x (l.length : Int) else s) (l ++ [⟨t.f0, t.f1, up⟩]) := rfl
  rw [E]; clear E
  go_enter Try.func48, Try.ntmps48
  go_wp2_with (first
   | ((with_reducible refine gate_dst (N := 4) rfl ?_); refine box_event ?hg (N := 4) ?hd (cs := #[.int .i64 t.f0, .string t.f1, .slice A t.f2.length c]) (t := 68) ?hr ?_; (case hd => rfl); (case hg => rfl); (case hr => first | (go_simp; done) | (go_simp; rfl)); intro g0 hg w0 hbox hb; have BK0 := Aside0.mk hbox; have n0_ := Aside0.mk (HB.out.trans (hb.mono HB.out.size)); have n1_ := Aside0.mk (Kd.R_below HO.out hb); have GE0 := Aside0.mk (HNE.out g0 (Nat.le_of_eq hg.symm)); clear hbox hb hg HB HO; have HB := n0_; have HO := n1_; clear n0_ n1_; have q0 : w0.cell? ⟨g0, 0, none⟩ = some (.int .i64 t.f0) := (blk_cell BK0.out 0).trans rfl; have q1 : w0.cell? ⟨g0, 1, none⟩ = some (.string t.f1) := (blk_cell BK0.out 1).trans rfl; have q2 : w0.cell? ⟨g0, 2, none⟩ = some (.slice A t.f2.length c) := (blk_cell BK0.out 2).trans rfl)
   | ((with_reducible refine gate_builtin (b := .append) (xs := #[.tmp 12, .tmp 19]) rfl ?_); at_builtin; refine Kd.R_append k75 (w0 := wb) wb.heap.size rfl (.tmp 12) (.tmp 19) 32 75 (.agg #[(.int .i64 0), (.string ⟨#[]⟩), (.int .i64 0)]) 32 rfl Try.underlying32 infoV rfl (by decide) (by omega) (.slice Av l.length cv) l (⟨t.f0, t.f1, up⟩ : S75) [.int .i64 t.f0, .string t.f1, .int .i64 up] (fun _ => True) (fun _ => False) rfl rfl ?aP (fun _ hk => hk.elim) ?aF ?aO ?aB ?aS ?aL ?_; (case aP => exact k75_mkM _ _ _ _); (case aB => exact HB.out); (case aF => exact (fun k_ hk => trivial)); (case aO => exact HO.out); (case aS => exact HB.out.size); (case aL => exact HNL.out); intro v2 w2 ho hb hg hat; have n0_ := Aside0.mk ho; have n1_ := Aside0.mk hb; have q2' : w2.cell? ⟨g0, 2, none⟩ = some (.slice A t.f2.length c) := (blk_cell (blk_grown BK0.out hg GE0.out) 2).trans rfl; clear ho hb hg hat HO HB q0 q1 q2 BK0 GE0; have HO := n0_; have HB := n1_; have q2 := q2'; clear n0_ n1_ q2'))
  go_loopg [0, 24] t.f2.length (fun kq v0 v24 w' => ∃ j : Nat, j + kq = t.f2.length ∧ v24 = .int .i64 j ∧ Aside0 (Kd.R k75 75 w' wb.heap.size (fun _ => True) v0 ((t.f2.take j).foldl (fun s x => if s.length ≤ 100 then valsN n s x (l.length : Int) else s) (l ++ [⟨t.f0, t.f1, up⟩]))) ∧ Aside0 (Below wb.heap.size wb w'))
  case atStart => exact ⟨0, by omega, rfl, ⟨HO.out⟩, ⟨HB.out⟩⟩
  case round =>
   clear q2 HO HB
   obtain ⟨j, hj, rfl, HO, HB⟩ := hrel
   have hl8 := HF8.out.1
   by_cases hlt : j < t.f2.length
   ·
    obtain ⟨ad, A2, c2, hA, hx0b, hx1b, hx2b, hl2, hiB⟩ := at_T68 HC.out (j : Int) (by omega) (by omega)
    subst hA
    have hx0 := (HB.out.cell (World.block_lt_of_cell? _ _ hx0b)).trans hx0b
    have hx1 := (HB.out.cell (World.block_lt_of_cell? _ _ hx1b)).trans hx1b
    have hx2 := (HB.out.cell (World.block_lt_of_cell? _ _ hx2b)).trans hx2b
    clear hx0b hx1b hx2b
    have hrd : rd_T68 t.f2 (j : Int) = t.f2[j] := by unfold rd_T68; rw [Int.toNat_natCast, List.getD_eq_getElem?_getD, List.getElem?_eq_getElem hlt]; rfl
    rw [hrd] at hx0 hx1 hx2 hl2 hiB
    clear hrd
    rw [Int.toNat_natCast] at hx0 hx1 hx2
    have HFX := Aside0.mk (HF8.out.2 _ (List.getElem_mem hlt))
    have HX := Aside0.mk hiB
    have HCX := Aside0.mk hl2
    have HFD := Aside0.mk (fold_take (fun s x => if s.length ≤ 100 then valsN n s x (l.length : Int) else s) (l ++ [⟨t.f0, t.f1, up⟩]) t.f2 j hlt)
    have HL := Aside0.mk (vals_fold_len (fun s x => valsN n s x (l.length : Int)) (t.f2.take j) (l ++ [⟨t.f0, t.f1, up⟩]) (by rw [List.length_append, List.length_singleton]; have := HLN.out; omega) (fun y _ s hs => valsN_len n s y _ hs))
    clear hl2 hiB
    generalize t.f2[j] = x at hx0 hx1 hx2 HFX HX HCX HFD
    generalize (t.f2.take j).foldl (fun s x => if s.length ≤ 100 then valsN n s x (l.length : Int) else s) (l ++ [⟨t.f0, t.f1, up⟩]) = acc at HFD HO HL
    obtain ⟨Ac, cc, ec⟩ := Kd.R_slice HO.out
    subst ec
    by_cases hs : acc.length ≤ 100
    ·
     have HN := hs
     have hsb : decide ((acc.length : Int) ≤ 100) = true := decide_eq_true (by omega)
     have hsc : decide (acc.length ≤ 100) = true := decide_eq_true hs
     rw [if_pos hs] at HFD
     go_wp2_with (first
      | ((with_reducible refine gate_dst (N := 9) rfl ?_); refine box_event ?hg (N := 9) ?hd (cs := #[.int .i64 0, .string ⟨#[]⟩, .slice none 0 0]) (t := 68) ?hr ?_; (case hd => rfl); (case hg => rfl); (case hr => first | (go_simp; done) | (go_simp; rfl)); intro gb hg wx hbox hb; have BK := Aside0.mk hbox; have HBb := Aside0.mk hb; have GE := Aside0.mk (show wr.heap.size ≤ gb from Nat.le_of_eq hg.symm); clear hbox hb hg; have z0 : wx.cell? ⟨gb, 0, none⟩ = some (.int .i64 0) := (blk_cell BK.out 0).trans rfl; have z1 : wx.cell? ⟨gb, 1, none⟩ = some (.string ⟨#[]⟩) := (blk_cell BK.out 1).trans rfl; have z2 : wx.cell? ⟨gb, 2, none⟩ = some (.slice none 0 0) := (blk_cell BK.out 2).trans rfl; have y0 := blk_frozen BK.out 0; have y1 := blk_frozen BK.out 1; have y2 := blk_frozen BK.out 2)
      | ((with_reducible refine gate_store (t := 68) (p := 9) rfl ?_); refine store_event (t := 68) (p := 9) (v := ?vo_a) (w1 := (((wx.setCell ⟨gb, 0, none⟩ (.int .i64 x.f0)).setCell ⟨gb, 1, none⟩ (.string x.f1)).setCell ⟨gb, 2, none⟩ (.slice A2 x.f2.length c2))) ?hg ?ho ?hn ?hr ?_; (case ho => rfl); (case hg => rfl); (case hn => rfl); (case hr => first | (go_simp; done) | (go_simp; rfl)); intro wc hw; have HW := Aside0.mk (show Below wr.heap.size wr wc from by rw [hw]; exact below_set (below_set (below_set HBb.out GE.out) GE.out) GE.out); have BK2 : Aside0 (wc.heap[gb]? = some (.cells #[.int .i64 x.f0, .string x.f1, .slice A2 x.f2.length c2] 68 (0, 0))) := ⟨by rw [hw]; refine blk_put (cs := #[.int .i64 x.f0, .string x.f1, .slice none 0 0]) ?_ 2 _ rfl; refine blk_put (cs := #[.int .i64 x.f0, .string ⟨#[]⟩, .slice none 0 0]) ?_ 1 _ rfl; refine blk_put (cs := #[.int .i64 0, .string ⟨#[]⟩, .slice none 0 0]) ?_ 0 _ rfl; exact BK.out⟩; clear hw z0 z1 z2 y0 y1 y2 BK HBb; have z0 : wc.cell? ⟨gb, 0, none⟩ = some (.int .i64 x.f0) := (blk_cell BK2.out 0).trans rfl; have z1 : wc.cell? ⟨gb, 1, none⟩ = some (.string x.f1) := (blk_cell BK2.out 1).trans rfl; have z2 : wc.cell? ⟨gb, 2, none⟩ = some (.slice A2 x.f2.length c2) := (blk_cell BK2.out 2).trans rfl)
      | (go_at_call 48; refine (ih (by omega) x A2 c2 (l.length : Int) acc _ wb _ HFX.out HX.out HCX.out (HB.out.trans (HW.out.mono HB.out.size)) (Kd.R_below HO.out HW.out) HN).mono ?_; rintro e w' ⟨v0, rfl, ho, hb⟩; rw [← HFD.out] at ho; have n0_ := Aside0.mk ho; have n1_ := Aside0.mk hb; clear HO HB HW BK2 z0 z1 z2 ho hb; have HO := n0_; have HB := n1_; clear n0_ n1_))
     go_roundg (t.f2.length - (j + 1))
     case measure => omega
     case rel => exact ⟨j + 1, by omega, by go_num, ⟨HO.out⟩, ⟨HB.out⟩⟩
    ·
     have hsb : decide ((acc.length : Int) ≤ 100) = false := decide_eq_false (by omega)
     have hsc : decide (acc.length ≤ 100) = false := decide_eq_false hs
     rw [if_neg hs] at HFD
     go_wp2_with (first
      | ((with_reducible refine gate_dst (N := 9) rfl ?_); refine box_event ?hg (N := 9) ?hd (cs := #[.int .i64 0, .string ⟨#[]⟩, .slice none 0 0]) (t := 68) ?hr ?_; (case hd => rfl); (case hg => rfl); (case hr => first | (go_simp; done) | (go_simp; rfl)); intro gb hg wx hbox hb; have BK := Aside0.mk hbox; have HBb := Aside0.mk hb; have GE := Aside0.mk (show wr.heap.size ≤ gb from Nat.le_of_eq hg.symm); clear hbox hb hg; have z0 : wx.cell? ⟨gb, 0, none⟩ = some (.int .i64 0) := (blk_cell BK.out 0).trans rfl; have z1 : wx.cell? ⟨gb, 1, none⟩ = some (.string ⟨#[]⟩) := (blk_cell BK.out 1).trans rfl; have z2 : wx.cell? ⟨gb, 2, none⟩ = some (.slice none 0 0) := (blk_cell BK.out 2).trans rfl; have y0 := blk_frozen BK.out 0; have y1 := blk_frozen BK.out 1; have y2 := blk_frozen BK.out 2)
      | ((with_reducible refine gate_store (t := 68) (p := 9) rfl ?_); refine store_event (t := 68) (p := 9) (v := ?vo_b) (w1 := (((wx.setCell ⟨gb, 0, none⟩ (.int .i64 x.f0)).setCell ⟨gb, 1, none⟩ (.string x.f1)).setCell ⟨gb, 2, none⟩ (.slice A2 x.f2.length c2))) ?hg ?ho ?hn ?hr ?_; (case ho => rfl); (case hg => rfl); (case hn => rfl); (case hr => first | (go_simp; done) | (go_simp; rfl)); intro wc hw; have HW := Aside0.mk (show Below wr.heap.size wr wc from by rw [hw]; exact below_set (below_set (below_set HBb.out GE.out) GE.out) GE.out); have BK2 : Aside0 (wc.heap[gb]? = some (.cells #[.int .i64 x.f0, .string x.f1, .slice A2 x.f2.length c2] 68 (0, 0))) := ⟨by rw [hw]; refine blk_put (cs := #[.int .i64 x.f0, .string x.f1, .slice none 0 0]) ?_ 2 _ rfl; refine blk_put (cs := #[.int .i64 x.f0, .string ⟨#[]⟩, .slice none 0 0]) ?_ 1 _ rfl; refine blk_put (cs := #[.int .i64 0, .string ⟨#[]⟩, .slice none 0 0]) ?_ 0 _ rfl; exact BK.out⟩; clear hw z0 z1 z2 y0 y1 y2 BK HBb; have z0 : wc.cell? ⟨gb, 0, none⟩ = some (.int .i64 x.f0) := (blk_cell BK2.out 0).trans rfl; have z1 : wc.cell? ⟨gb, 1, none⟩ = some (.string x.f1) := (blk_cell BK2.out 1).trans rfl; have z2 : wc.cell? ⟨gb, 2, none⟩ = some (.slice A2 x.f2.length c2) := (blk_cell BK2.out 2).trans rfl))
     have n0_ := Aside0.mk (Kd.R_below HO.out HW.out)
     have n1_ := Aside0.mk (HB.out.trans (HW.out.mono HB.out.size))
     clear HO HB HW BK2 z0 z1 z2
     have HO := n0_
     have HB := n1_
     go_roundg (t.f2.length - (j + 1))
     case measure => omega
     case rel => exact ⟨j + 1, by omega, by go_num, ⟨by rw [HFD.out]; exact HO.out⟩, ⟨HB.out⟩⟩
   ·
    obtain rfl : j = t.f2.length := by omega
    rw [List.take_length] at HO
    go_wp2
    go_ret
    exact ⟨_, rfl, HO.out, HB.out⟩

/-- No row, or one cell and more. -/
def capV (A : Option Addr) (c : Nat) : Nat := match A with
 | none => c
 | some _ => c + 1
/-- The row handed over is the empty one in all the statements. -/
def spec_l12Flat.f (l0 : List S75) (a1_0 : Int) (a1_1 : ByteArray) (l1_2 : List S68) (a2 : Int) : Option (List S75) := if fewV 9 ⟨a1_0, a1_1, l1_2⟩ = true ∧ l0 = [] then some (valsN 9 [] ⟨a1_0, a1_1, l1_2⟩ a2) else none
theorem spec_l12Flat.calls (A0 : Option Addr) (c0 : Nat) (l0 : List (S75)) (a1_0 : Int) (a1_1 : ByteArray) (A1_2 : Option Addr) (c1_2 : Nat) (l1_2 : List (S68)) (a2 : Int) (r : List (S75)) (w : World) (hr0 : Kd.C k75 w A0 l0.length l0) (hc0 : capV A0 c0 ≤ 0) (hr1_2 : Kd.C k68 w A1_2 l1_2.length l1_2) (hc1_2 : l1_2.length ≤ c1_2) (h : spec_l12Flat.f l0 a1_0 a1_1 l1_2 a2 = some r) :
  Calls Try.prog 48 #[.slice A0 l0.length c0, .agg #[.int .i64 a1_0, .string a1_1, .slice A1_2 l1_2.length c1_2], .int .i64 a2] w fun e w' => ∃ v0_ : Value, e = .returned (v0_) ∧ Kd.R k75 75 w' w.heap.size (fun _ => True) v0_ r ∧ Below w.heap.size w w' := by
 unfold spec_l12Flat.f at h
 by_cases c : fewV 9 ⟨a1_0, a1_1, l1_2⟩ = true ∧ l0 = []
 ·
  rw [if_pos c] at h
  obtain rfl := Option.some.inj h
  obtain ⟨c1, rfl⟩ := c
  cases A0 with
  | some ad => exact absurd hc0 (by simp [capV])
  | none =>
   obtain rfl : c0 = 0 := Nat.le_zero.1 hc0
   exact vals_any 9 (by decide) ⟨a1_0, a1_1, l1_2⟩ A1_2 c1_2 a2 [] _ w w c1 hr1_2 hc1_2 (Below.refl _ _) (Kd.R_nil _ _ _ _ _) (by decide)
 ·
  rw [if_neg c] at h; cases h


end Go.Proofs.Ytlgegdgilkaldaa.Q

namespace Go.Proofs.Ytlgegdgilkaldaa.Q
open Go.RowKit Go.Proofs.YtlgegdgilkaldaaW.PrintWords Go.Proofs.YtlgegdgilkaldaaW.PrintLast Go.Proofs.YtlgegdgilkaldaaW.PrintMore
attribute [local go_sem] max2_int min2_int max_two min_two max_three min_three max_four min_four   -- for this text's walks alone
set_option linter.unusedVariables false
set_option linter.unusedSimpArgs false

/-! ### spec_l12Kids: function 71 -/
mutual
def spec_l12Kids.l0 : Nat → List (S52) → Int → Int → Int → Int → List (S52) → Option ((List (S52)))
 | 0, _, _, _, _, _, _ => none
 | k + 1, x5, x12, x13, x291000, x291001, x291002 => if x13 < x12 then (if 0 < (x291002.length : Int) then (if x5.length < 3518437208883 then (spec_l12Kids.l0 k (x5 ++ [(⟨(rd_T52 x291002 0).f0, (rd_T52 x291002 0).f1, (rd_T52 x291002 0).f2⟩ : S52)]) x12 (wrap64 (x13 + 1)) x291000 x291001 x291002) else (none)) else (none)) else (some x5)
def spec_l12Kids.j1 : Nat → Int → Bool → Int → Int → List (S52) → Int → ByteArray → List (S68) → Option ((List (S52)))
 | 0, _, _, _, _, _, _, _, _ => none
 | k + 1, x7, x28, x291000, x291001, x291002, x292000, x292001, x292002 => if x28 = true then (if 0 ≤ x292000 then (if x292000 ≤ (wrap64 (x292000 + 1)) then (if (wrap64 (x292000 + 1)) ≤ (x291002.length : Int) then (some ((x291002.take ((wrap64 (x292000 + 1)) : Int).toNat).drop (x292000 : Int).toNat)) else (none)) else (none)) else (none)) else (if x7 = 17 then (if 0 ≤ x292000 then (if x292000 ≤ (x291002.length : Int) then (some (x291002.take (x292000 : Int).toNat)) else (none)) else (none)) else (some ([] : List (S52))))
end
def spec_l12Kids.f (k : Nat) (a0_0 : Int) (a0_1 : Int) (l0_2 : List (S52)) (a1_0 : Int) (a1_1 : ByteArray) (l1_2 : List (S68)) : Option ((List (S52))) := if a0_0 = 13 then (spec_l12Kids.l0 k ([] : List (S52)) (l1_2.length : Int) 0 a0_0 a0_1 l0_2) else (if a0_0 = 14 then (some l0_2) else (if a0_0 = 15 then (spec_l12Kids.j1 k a0_0 (a0_0 == 15) a0_0 a0_1 l0_2 a1_0 a1_1 l1_2) else (spec_l12Kids.j1 k a0_0 (a0_0 == 18) a0_0 a0_1 l0_2 a1_0 a1_1 l1_2)))
theorem spec_l12Kids.mono_l : ∀ k, (∀ y0 y1 y2 y3 y4 y5, LeO (spec_l12Kids.l0 k y0 y1 y2 y3 y4 y5) (spec_l12Kids.l0 (k + 1) y0 y1 y2 y3 y4 y5)) ∧ (∀ y0 y1 y2 y3 y4 y5 y6 y7, LeO (spec_l12Kids.j1 k y0 y1 y2 y3 y4 y5 y6 y7) (spec_l12Kids.j1 (k + 1) y0 y1 y2 y3 y4 y5 y6 y7))
 | 0 => ⟨fun _ _ _ _ _ _ r h => by simp [spec_l12Kids.l0] at h, fun _ _ _ _ _ _ _ _ r h => by simp [spec_l12Kids.j1] at h⟩
 | k + 1 => by
  obtain ⟨ih0, ih1⟩ := spec_l12Kids.mono_l k
  refine ⟨?_, ?_⟩
  ·
   intro y0 y1 y2 y3 y4 y5
   unfold spec_l12Kids.l0
   repeat' first
   | (with_reducible exact ih0 _ _ _ _ _ _)
   | (with_reducible exact ih1 _ _ _ _ _ _ _ _)
   | (with_reducible exact LeO.refl _)
   | (with_reducible exact LeO.none _)
   | (with_reducible refine LeO.ite ?_ ?_)
   | (with_reducible refine LeO.bind ?_ (fun _ => ?_))
   | exact ih0 _ _ _ _ _ _
   | exact ih1 _ _ _ _ _ _ _ _
   | exact LeO.none _
   | refine LeO.ite ?_ ?_
   | refine LeO.bind ?_ (fun _ => ?_)
  ·
   intro y0 y1 y2 y3 y4 y5 y6 y7
   unfold spec_l12Kids.j1
   repeat' first
   | (with_reducible exact ih0 _ _ _ _ _ _)
   | (with_reducible exact ih1 _ _ _ _ _ _ _ _)
   | (with_reducible exact LeO.refl _)
   | (with_reducible exact LeO.none _)
   | (with_reducible refine LeO.ite ?_ ?_)
   | (with_reducible refine LeO.bind ?_ (fun _ => ?_))
   | exact ih0 _ _ _ _ _ _
   | exact ih1 _ _ _ _ _ _ _ _
   | exact LeO.none _
   | refine LeO.ite ?_ ?_
   | refine LeO.bind ?_ (fun _ => ?_)
theorem spec_l12Kids.mono : ∀ a0 a1 a2 a3 a4 a5 k, LeO (spec_l12Kids.f k a0 a1 a2 a3 a4 a5) (spec_l12Kids.f (k + 1) a0 a1 a2 a3 a4 a5) := by
 intro a0 a1 a2 a3 a4 a5 k
 obtain ⟨ih0, ih1⟩ := spec_l12Kids.mono_l k
 unfold spec_l12Kids.f
 repeat' first
   | (with_reducible exact ih0 _ _ _ _ _ _)
   | (with_reducible exact ih1 _ _ _ _ _ _ _ _)
   | (with_reducible exact LeO.refl _)
   | (with_reducible exact LeO.none _)
   | (with_reducible refine LeO.ite ?_ ?_)
   | (with_reducible refine LeO.bind ?_ (fun _ => ?_))
   | exact ih0 _ _ _ _ _ _
   | exact ih1 _ _ _ _ _ _ _ _
   | exact LeO.none _
   | refine LeO.ite ?_ ?_
   | refine LeO.bind ?_ (fun _ => ?_)
set_option maxHeartbeats 8000000 in
set_option maxRecDepth 100000 in
theorem spec_l12Kids.calls (k : Nat) (a0_0 : Int) (a0_1 : Int) (P0_2_ : Nat → Prop) (A0_2 : Option Addr) (c0_2 : Nat) (l0_2 : List (S52)) (a1_0 : Int) (a1_1 : ByteArray) (A1_2 : Option Addr) (c1_2 : Nat) (l1_2 : List (S68)) (r : List (S52)) (w : World) (hs0_2 : Kd.V k52 52 w w.heap.size (fun k_ => P0_2_ k_) (.slice A0_2 l0_2.length c0_2) l0_2) (hr1_2 : Kd.C k68 w A1_2 l1_2.length l1_2) (hc1_2 : l1_2.length ≤ c1_2) (h : spec_l12Kids.f k a0_0 a0_1 l0_2 a1_0 a1_1 l1_2 = some r) :
  Calls Try.prog 71 #[.agg #[.int .i64 a0_0, .int .i64 a0_1, .slice A0_2 l0_2.length c0_2], .agg #[.int .i64 a1_0, .string a1_1, .slice A1_2 l1_2.length c1_2]] w fun e w' => ∃ v0_ : Value, e = .returned (v0_) ∧ Kd.V k52 52 w' w.heap.size (fun k_ => (P0_2_ k_ ∨ w.heap.size ≤ k_)) v0_ r ∧ Below w.heap.size w w' := by
 have hu52 := Try.underlying52
 have hu68 := Try.underlying68
 have HO0_2 := Aside0.mk (show Kd.V k52 52 w w.heap.size (fun k_ => (P0_2_ k_ ∨ w.heap.size ≤ k_)) (.slice A0_2 l0_2.length c0_2) l0_2 from Kd.V_mono hs0_2 (fun k_ hk => .inl hk))
 have HR1_2 := Aside0.mk hr1_2
 have HC1_2 := Aside0.mk hc1_2
 clear hr1_2 hc1_2
 have HB := Aside0.mk (Below.refl w.heap.size w)
 have H : (if a0_0 = 13 then (spec_l12Kids.l0 k ([] : List (S52)) (l1_2.length : Int) 0 a0_0 a0_1 l0_2) else (if a0_0 = 14 then (some l0_2) else (if a0_0 = 15 then (spec_l12Kids.j1 k a0_0 (a0_0 == 15) a0_0 a0_1 l0_2 a1_0 a1_1 l1_2) else (spec_l12Kids.j1 k a0_0 (a0_0 == 18) a0_0 a0_1 l0_2 a1_0 a1_1 l1_2)))) = some r := h
 clear h
 by_cases c3 : a0_0 = 13
 ·
  rw [if_pos c3] at H
  have c3b0 : (a0_0 == 13) = true := beq_iff_eq.mpr c3
  have c3b1 : (a0_0 != 13) = false := bne_eq_false_iff_eq.mpr c3
  clear c3
  have H' := Aside0.mk H
  clear H
  go_enter Try.func71, Try.ntmps71
  go_wp2_with (first | ((with_reducible refine gate_dst (N := 2) rfl ?_); refine box_event ?hg (N := 2) ?hd (cs := #[.int .i64 a0_0, .int .i64 a0_1, .slice A0_2 l0_2.length c0_2]) (t := 52) ?hr ?_; (case hd => rfl); (case hg => rfl); (case hr => first | (go_simp; done) | (go_simp; rfl)); intro gb290 hg w4 hbox hb; have n0_ := Aside0.mk (Kd.V_below (Kd.V_elderB (by (with_reducible repeat (first | apply Kd.V_alloc | apply Kd.V_drewN | apply Kd.V_drew)); exact HO0_2.out) gb290 (Nat.le_of_eq hg.symm)) hb); have n1_ := Aside0.mk (below_step (bw HB.out) hb); have n2_ := Aside0.mk (hbox); have n3_ := Aside0.mk ((by rw [hg]; exact (below_size (bw HB.out)) : w.heap.size ≤ gb290)); have n4_ := Aside0.mk ((by rw [hg]; exact (below_size (bw HB.out)) : w.heap.size ≤ gb290)); clear HO0_2; clear HB; have HO0_2 := n0_; have HB := n1_; have BK290 := n2_; have GW290 := n3_; have GE290 := n4_; clear n0_ n1_ n2_ n3_ n4_; clear hb hbox hg) | ((with_reducible refine gate_dst (N := 3) rfl ?_); refine box_event ?hg (N := 3) ?hd (cs := #[.int .i64 a1_0, .string a1_1, .slice A1_2 l1_2.length c1_2]) (t := 68) ?hr ?_; (case hd => rfl); (case hg => rfl); (case hr => first | (go_simp; done) | (go_simp; rfl)); intro gb291 hg w5 hbox hb; have n0_ := Aside0.mk (Kd.V_below (Kd.V_elderB (by (with_reducible repeat (first | apply Kd.V_alloc | apply Kd.V_drewN | apply Kd.V_drew)); exact HO0_2.out) gb291 (Nat.le_of_eq hg.symm)) hb); have n1_ := Aside0.mk (blk_below (g := gb290) (o := .cells #[.int .i64 a0_0, .int .i64 a0_1, .slice A0_2 l0_2.length c0_2] 52 (0, 0)) (bk BK290.out) hb); have n2_ := Aside0.mk (below_step (bw HB.out) hb); have n3_ := Aside0.mk (hbox); have n4_ := Aside0.mk ((by rw [hg]; exact (below_size (bw HB.out)) : w.heap.size ≤ gb291)); have n5_ := Aside0.mk ((by rw [hg]; exact (below_size (bw HB.out)) : w.heap.size ≤ gb291)); have n6_ := Aside0.mk ((by rw [hg]; exact Nat.ne_of_lt (blk_lt (g := gb290) (o := .cells #[.int .i64 a0_0, .int .i64 a0_1, .slice A0_2 l0_2.length c0_2] 52 (0, 0)) (bk BK290.out)) : gb290 ≠ gb291)); have n7_ := Aside0.mk ((by rw [hg]; exact Nat.ne_of_gt (blk_lt (g := gb290) (o := .cells #[.int .i64 a0_0, .int .i64 a0_1, .slice A0_2 l0_2.length c0_2] 52 (0, 0)) (bk BK290.out)) : gb291 ≠ gb290)); clear HO0_2; clear BK290; clear HB; have HO0_2 := n0_; have BK290 := n1_; have HB := n2_; have BK291 := n3_; have GW291 := n4_; have GE291 := n5_; have NB290_291 := n6_; have NB291_290 := n7_; clear n0_ n1_ n2_ n3_ n4_ n5_ n6_ n7_; clear hb hbox hg; have hnb6 := NB290_291.out; have hnc6 := NB291_290.out; have hcz7_0 : w5.cell? ⟨gb290, 0, none⟩ = some (.int .i64 a0_0) := (blk_cell BK290.out 0).trans rfl; have hcz7_1 : w5.cell? ⟨gb290, 1, none⟩ = some (.int .i64 a0_1) := (blk_cell BK290.out 1).trans rfl; have hcz7_2 : w5.cell? ⟨gb290, 2, none⟩ = some (.slice A0_2 l0_2.length c0_2) := (blk_cell BK290.out 2).trans rfl; have hfz7_0 := blk_frozen BK290.out 0; have hfz7_1 := blk_frozen BK290.out 1; have hfz7_2 := blk_frozen BK290.out 2; have hcz8_0 : w5.cell? ⟨gb291, 0, none⟩ = some (.int .i64 a1_0) := (blk_cell BK291.out 0).trans rfl; have hcz8_1 : w5.cell? ⟨gb291, 1, none⟩ = some (.string a1_1) := (blk_cell BK291.out 1).trans rfl; have hcz8_2 : w5.cell? ⟨gb291, 2, none⟩ = some (.slice A1_2 l1_2.length c1_2) := (blk_cell BK291.out 2).trans rfl; have hfz8_0 := blk_frozen BK291.out 0; have hfz8_1 := blk_frozen BK291.out 1; have hfz8_2 := blk_frozen BK291.out 2))
  (try simp only [Act.put, List.setIfInBounds_toArray, List.set_cons_zero, List.set_cons_succ])
  go_loopg [5, 13] k (fun kq v5 v13 w' => ∃ (x5_1 : List (S52)) (x13_1 : Int), v13 = .int .i64 x13_1 ∧ Aside0 (spec_l12Kids.l0 kq x5_1 (l1_2.length : Int) x13_1 a0_0 a0_1 l0_2 = some r) ∧ Aside0 (kq ≤ k) ∧ Aside0 (Kd.N k52 52 w' w.heap.size (fun k_ => (P0_2_ k_ ∨ w.heap.size ≤ k_) ∧ k_ ≠ gb290 ∧ k_ ≠ gb291) v5 x5_1) ∧ Aside0 (Kd.V k52 52 w' w.heap.size (fun k_ => (P0_2_ k_ ∨ w.heap.size ≤ k_) ∧ some k_ ≠ (v5 : Value).ownBlock ∧ k_ ≠ gb290 ∧ k_ ≠ gb291) (.slice A0_2 l0_2.length c0_2) l0_2) ∧ Aside0 (w'.heap[gb290]? = some (.cells #[.int .i64 a0_0, .int .i64 a0_1, (.slice A0_2 l0_2.length c0_2)] 52 (0, 0))) ∧ Aside0 (w'.heap[gb291]? = some (.cells #[.int .i64 a1_0, .string a1_1, (.slice A1_2 l1_2.length c1_2)] 68 (0, 0))) ∧ Aside0 (Below w.heap.size w w'))
  case atStart => exact ⟨(([] : List (S52))), (0), (by first | rfl | (simp; done) | (simp [*]; done)), H', ⟨Nat.le_refl _⟩, ⟨by first | exact Kd.R_nil _ _ _ _ _ | exact Kd.N_nil _ _ _ _ _ | exact Kd.V_nil _ _ _ _ _ | exact Kd.Q_nil _ _ _ _ _ | exact Kd.S_nil _ _ _ _ _⟩, ⟨by (with_reducible repeat (first | apply Kd.V_alloc | apply Kd.V_drewN | apply Kd.V_drew)); exact Kd.V_mono HO0_2.out (fun _ hk => ⟨hk.1.1, ⟨(by simp [Value.ownBlock]), ⟨hk.1.2, hk.2⟩⟩⟩)⟩, ⟨bk BK290.out⟩, ⟨bk BK291.out⟩, ⟨bw HB.out⟩⟩
  case round =>
   clear H'
   try clear c1
   try clear p2
   try clear c3
   try clear c3b0
   try clear c3b1
   try clear c6
   try clear c7
   try clear hcz7_0 hcz7_1 hcz7_2
   try clear hcz8_0 hcz8_1 hcz8_2
   try clear hfz7_0 hfz7_1 hfz7_2
   try clear hfz8_0 hfz8_1 hfz8_2
   obtain ⟨x5_1, x13_1, rfl, HA, HK1, HO_5, HO_291002, BK290, BK291, HB⟩ := hrel
   cases gk with
   | zero => exact absurd HA.out (by simp [spec_l12Kids.l0])
   | succ k1 =>
    have H := HA.out
    clear HA
    simp only [spec_l12Kids.l0] at H
    by_cases c9 : x13_1 < (l1_2.length : Int)
    ·
     rw [if_pos c9] at H
     have c9b0 : decide (x13_1 < (l1_2.length : Int)) = true := decide_eq_true c9
     clear c9
     by_cases c10 : 0 < (l0_2.length : Int)
     ·
      rw [if_pos c10] at H
      have c10b0 : decide (0 < (l0_2.length : Int)) = true := decide_eq_true c10
      have c10b1 : decide (0 < l0_2.length) = true := decide_eq_true (by omega)
      clear c10
      by_cases c11 : x5_1.length < 3518437208883
      ·
       rw [if_pos c11] at H
       have LMc11 := Aside0.mk c11
       clear c11
       obtain ⟨y293, hy293⟩ : ∃ y_ : List (S52), y_ = (x5_1 ++ [(⟨(rd_T52 l0_2 0).f0, (rd_T52 l0_2 0).f1, (rd_T52 l0_2 0).f2⟩ : S52)]) := ⟨_, rfl⟩
       replace H : (spec_l12Kids.l0 k1 y293 (l1_2.length : Int) (wrap64 (x13_1 + 1)) a0_0 a0_1 l0_2) = some r := by first | (rw [hy293]; with_reducible exact H) | (have H2_ := (Option.bind_some _ _).symm.trans H; rw [hy293]; with_reducible exact H2_) | (have H2_ := (Option.bind_some _ _).symm.trans H; with_reducible exact H2_) | with_reducible exact H | (rw [hy293]; exact H) | exact H
       have Ny293 := Aside0.mk hy293
       clear hy293
       have H' := Aside0.mk H
       clear H
       have hnb12 := NB290_291.out
       have hnc12 := NB291_290.out
       have hcz13_0 : wr.cell? ⟨gb290, 0, none⟩ = some (.int .i64 a0_0) := (blk_cell BK290.out 0).trans rfl
       have hcz13_1 : wr.cell? ⟨gb290, 1, none⟩ = some (.int .i64 a0_1) := (blk_cell BK290.out 1).trans rfl
       have hcz13_2 : wr.cell? ⟨gb290, 2, none⟩ = some (.slice A0_2 l0_2.length c0_2) := (blk_cell BK290.out 2).trans rfl
       have hfz13_0 := blk_frozen BK290.out 0
       have hfz13_1 := blk_frozen BK290.out 1
       have hfz13_2 := blk_frozen BK290.out 2
       have p292 : 0 ≤ (0 : Int) := (by omega)
       have q292 : 0 < (l0_2.length : Int) := of_decide_eq_true (by first | (with_reducible assumption) | assumption)
       obtain ⟨ad292, A292_2, c292_2, e292, hx292_0, hx292_1, hx292_2, hl292_2, hi292_2⟩ := at_T52 (Kd.V_reads' HO_291002.out).2.2 0 p292 q292
       cases e292
       obtain ⟨ce292, hce292, hMe292, hcc292⟩ := Kd.V_get HO_291002.out z52 0 p292 (by first | exact q292 | exact of_decide_eq_true (by first | (with_reducible assumption) | assumption) | (have e_ := (Kd.V_reads' HO_291002.out).1; omega))
       obtain ⟨ua292_2, uc292_2, rfl, ul292_2, ge292_2⟩ := k52_openF hMe292
       have hv292_2 := hcc292 2 _ rfl
       rw [add_field _ _ 2 (by omega)] at hv292_2
       replace hv292_2 := Option.some.inj (hv292_2.symm.trans hx292_2)
       injection hv292_2 with hva_ hvn_ hvc_
       rw [hva_] at ge292_2
       rw [hvc_] at ul292_2
       have HL292_2 := Aside0.mk (show Kd.V k52 52 _ w.heap.size _ _ ((rd_T52 l0_2 0).f2) from Kd.V_mk ul292_2 ge292_2)
       clear hva_ hvn_ hvc_ ge292_2 ul292_2
       clear hcc292 hce292
       have qi292 : (0 < l0_2.length) = True := eq_true (by omega)
       (try rw [show ((0 : Int)).toNat = 0 from rfl] at hx292_0)
       (try rw [show 0 * 3 = 0 from rfl] at hx292_0)
       (try rw [Addr.add_zero'] at hx292_0)
       (try rw [show ((0 : Int)).toNat = 0 from rfl] at hx292_1)
       (try rw [show 0 * 3 = 0 from rfl] at hx292_1)
       (try rw [Addr.add_zero'] at hx292_1)
       (try rw [show ((0 : Int)).toNat = 0 from rfl] at hx292_2)
       (try rw [show 0 * 3 = 0 from rfl] at hx292_2)
       (try rw [Addr.add_zero'] at hx292_2)
       have HR292_2 := Aside0.mk hi292_2
       have HC292_2 := Aside0.mk hl292_2
       clear hi292_2 hl292_2
       replace p292 := eq_true p292
       replace q292 := eq_true q292
       go_wp2_with (first | ((with_reducible refine gate_builtin (b := .append) (xs := #[.tmp 15, .tmp 20]) rfl ?_); at_builtin; refine Kd.N_append k52 (w0 := w) w.heap.size rfl (.tmp 15) (.tmp 20) 50 52 (.agg #[(.int .i64 0), (.int .i64 0), (.slice none 0 0)]) 40 rfl Try.underlying50 info52 rfl (by decide) (by omega) u5 x5_1 (⟨(rd_T52 l0_2 0).f0, (rd_T52 l0_2 0).f1, (rd_T52 l0_2 0).f2⟩ : S52) [.int .i64 ((rd_T52 l0_2 0).f0), .int .i64 ((rd_T52 l0_2 0).f1), .slice A292_2 ((rd_T52 l0_2 0).f2).length c292_2] (fun k_ => (P0_2_ k_ ∨ w.heap.size ≤ k_) ∧ k_ ≠ gb290 ∧ k_ ≠ gb291) (fun k_ => ((fun k_ => (P0_2_ k_ ∨ w.heap.size ≤ k_) ∧ k_ ≠ gb290 ∧ k_ ≠ gb291)) k_ ∧ some k_ ≠ (u5 : Value).ownBlock) rfl rfl ?aP (fun _ hk => hk) ?aF ?aO ?aB ?aS ?aL ?_; (case aP => exact (k52_mkF _ _ (⟨(rd_T52 l0_2 0).f0, (rd_T52 l0_2 0).f1, (rd_T52 l0_2 0).f2⟩ : S52) (Kd.V_reads' (Kd.V_mono (ok' := (fun k_ => ((fun k_ => (P0_2_ k_ ∨ w.heap.size ≤ k_) ∧ k_ ≠ gb290 ∧ k_ ≠ gb291)) k_ ∧ some k_ ≠ (u5 : Value).ownBlock)) (HL292_2.out) (fun k_ hk => ⟨⟨hk.1, ⟨hk.2.2.1, hk.2.2.2⟩⟩, hk.2.1⟩))).2.1 (Kd.V_F (Kd.V_mono (ok' := (fun k_ => ((fun k_ => (P0_2_ k_ ∨ w.heap.size ≤ k_) ∧ k_ ≠ gb290 ∧ k_ ≠ gb291)) k_ ∧ some k_ ≠ (u5 : Value).ownBlock)) (HL292_2.out) (fun k_ hk => ⟨⟨hk.1, ⟨hk.2.2.1, hk.2.2.2⟩⟩, hk.2.1⟩))))); (case aB => exact (bw HB.out)); (case aF => exact (fun k_ hk => ⟨(.inr (Nat.le_trans (below_size (bw HB.out)) hk)), Kd.freshB (g := gb290) (o := .cells #[.int .i64 a0_0, .int .i64 a0_1, .slice (some ad292) l0_2.length c0_2] 52 (0, 0)) (bk BK290.out) k_ hk, Kd.freshB (g := gb291) (o := .cells #[.int .i64 a1_0, .string a1_1, .slice A1_2 l1_2.length c1_2] 68 (0, 0)) (bk BK291.out) k_ hk⟩)); (case aO => exact (by (with_reducible repeat (first | apply Kd.N_alloc | apply Kd.N_drewN | apply Kd.N_drew)); exact HO_5.out)); (case aS => exact (below_size (bw HB.out))); (case aL => have := LMc11.out; omega); intro v294 w14 ho hb hg hat; rw [← Ny293.out] at ho; have n0_ := Aside0.mk (Kd.V_afterv (ok := (fun k_ => (P0_2_ k_ ∨ w.heap.size ≤ k_) ∧ k_ ≠ gb290 ∧ k_ ≠ gb291)) (by (with_reducible repeat (first | apply Kd.V_alloc | apply Kd.V_drewN | apply Kd.V_drew)); exact Kd.V_mono HO_291002.out (fun _ hk => ⟨⟨hk.1, ⟨hk.2.2.1, hk.2.2.2⟩⟩, hk.2.1⟩)) hg hat); have n1_ := Aside0.mk (blk_grown (g := gb290) (o := .cells #[.int .i64 a0_0, .int .i64 a0_1, .slice (some ad292) l0_2.length c0_2] 52 (0, 0)) (bk BK290.out) hg (Kd.N_away HO_5.out (fun _ hk => hk.2.1))); have n2_ := Aside0.mk (blk_grown (g := gb291) (o := .cells #[.int .i64 a1_0, .string a1_1, .slice A1_2 l1_2.length c1_2] 68 (0, 0)) (bk BK291.out) hg (Kd.N_ne HO_5.out BK291.out (by decide))); have n3_ := Aside0.mk (Kd.V_afterv (ok := (fun k_ => (P0_2_ k_ ∨ w.heap.size ≤ k_) ∧ k_ ≠ gb290 ∧ k_ ≠ gb291)) (by (with_reducible repeat (first | apply Kd.V_alloc | apply Kd.V_drewN | apply Kd.V_drew)); exact Kd.V_mono HL292_2.out (fun _ hk => ⟨⟨hk.1, ⟨hk.2.2.1, hk.2.2.2⟩⟩, hk.2.1⟩)) hg hat); have n4_ := Aside0.mk (hb); have n5_ := Aside0.mk (ho); clear HO_291002; clear BK290; clear BK291; clear HL292_2; clear HB; clear HO_5; have HO_291002 := n0_; have BK290 := n1_; have BK291 := n2_; have HL292_2 := n3_; have HB := n4_; have HO295 := n5_; clear n0_ n1_ n2_ n3_ n4_ n5_; clear ho hb hg hat))
       go_roundg k1
       case measure => have := HK1.out; omega
       case rel => exact ⟨(y293), (wrap64 (x13_1 + 1)), (by first | rfl | (simp; done) | (simp [*]; done)), H', ⟨by have := HK1.out; omega⟩, ⟨by (with_reducible repeat (first | apply Kd.N_alloc | apply Kd.N_drewN | apply Kd.N_drew)); exact HO295.out⟩, ⟨by (with_reducible repeat (first | apply Kd.V_alloc | apply Kd.V_drewN | apply Kd.V_drew)); exact Kd.V_mono HO_291002.out (fun _ hk => ⟨hk.1.1, ⟨hk.2, ⟨hk.1.2.1, hk.1.2.2⟩⟩⟩)⟩, ⟨bk BK290.out⟩, ⟨bk BK291.out⟩, ⟨bw HB.out⟩⟩
      ·
       rw [if_neg c11] at H
       exact absurd H (by simp)
     ·
      rw [if_neg c10] at H
      exact absurd H (by simp)
    ·
     rw [if_neg c9] at H
     have c9b0 : decide (x13_1 < (l1_2.length : Int)) = false := decide_eq_false c9
     clear c9
     obtain rfl := Option.some.inj H
     simp only [Option.some.injEq, Prod.mk.injEq] at H
     obtain ⟨rfl⟩ := H
     go_wp2
     go_ret
     exact ⟨_, by first | rfl | (simp [errW_none, errW_some] <;> rfl) | (simp [*, errW_none, errW_some] <;> rfl), Kd.N_V (by (with_reducible repeat (first | apply Kd.N_alloc | apply Kd.N_drewN | apply Kd.N_drew)); exact Kd.N_mono HO_5.out (fun _ hk => hk.1)), bw HB.out⟩
 ·
  rw [if_neg c3] at H
  have c3b0 : (a0_0 == 13) = false := beq_eq_false_iff_ne.mpr c3
  have c3b1 : (a0_0 != 13) = true := bne_iff_ne.mpr c3
  by_cases c15 : a0_0 = 14
  ·
   rw [if_pos c15] at H
   have c15b0 : (a0_0 == 14) = true := beq_iff_eq.mpr c15
   have c15b1 : (a0_0 != 14) = false := bne_eq_false_iff_eq.mpr c15
   clear c15
   obtain rfl := Option.some.inj H
   simp only [Option.some.injEq, Prod.mk.injEq] at H
   obtain ⟨rfl⟩ := H
   go_enter Try.func71, Try.ntmps71
   go_wp2_with (first | ((with_reducible refine gate_dst (N := 2) rfl ?_); refine box_event ?hg (N := 2) ?hd (cs := #[.int .i64 a0_0, .int .i64 a0_1, .slice A0_2 l0_2.length c0_2]) (t := 52) ?hr ?_; (case hd => rfl); (case hg => rfl); (case hr => first | (go_simp; done) | (go_simp; rfl)); intro gb290 hg w16 hbox hb; have n0_ := Aside0.mk (Kd.V_below (Kd.V_elderB (by (with_reducible repeat (first | apply Kd.V_alloc | apply Kd.V_drewN | apply Kd.V_drew)); exact HO0_2.out) gb290 (Nat.le_of_eq hg.symm)) hb); have n1_ := Aside0.mk (below_step (bw HB.out) hb); have n2_ := Aside0.mk (hbox); have n3_ := Aside0.mk ((by rw [hg]; exact (below_size (bw HB.out)) : w.heap.size ≤ gb290)); have n4_ := Aside0.mk ((by rw [hg]; exact (below_size (bw HB.out)) : w.heap.size ≤ gb290)); clear HO0_2; clear HB; have HO0_2 := n0_; have HB := n1_; have BK290 := n2_; have GW290 := n3_; have GE290 := n4_; clear n0_ n1_ n2_ n3_ n4_; clear hb hbox hg) | ((with_reducible refine gate_dst (N := 3) rfl ?_); refine box_event ?hg (N := 3) ?hd (cs := #[.int .i64 a1_0, .string a1_1, .slice A1_2 l1_2.length c1_2]) (t := 68) ?hr ?_; (case hd => rfl); (case hg => rfl); (case hr => first | (go_simp; done) | (go_simp; rfl)); intro gb291 hg w17 hbox hb; have n0_ := Aside0.mk (Kd.V_below (Kd.V_elderB (by (with_reducible repeat (first | apply Kd.V_alloc | apply Kd.V_drewN | apply Kd.V_drew)); exact HO0_2.out) gb291 (Nat.le_of_eq hg.symm)) hb); have n1_ := Aside0.mk (blk_below (g := gb290) (o := .cells #[.int .i64 a0_0, .int .i64 a0_1, .slice A0_2 l0_2.length c0_2] 52 (0, 0)) (bk BK290.out) hb); have n2_ := Aside0.mk (below_step (bw HB.out) hb); have n3_ := Aside0.mk (hbox); have n4_ := Aside0.mk ((by rw [hg]; exact (below_size (bw HB.out)) : w.heap.size ≤ gb291)); have n5_ := Aside0.mk ((by rw [hg]; exact (below_size (bw HB.out)) : w.heap.size ≤ gb291)); have n6_ := Aside0.mk ((by rw [hg]; exact Nat.ne_of_lt (blk_lt (g := gb290) (o := .cells #[.int .i64 a0_0, .int .i64 a0_1, .slice A0_2 l0_2.length c0_2] 52 (0, 0)) (bk BK290.out)) : gb290 ≠ gb291)); have n7_ := Aside0.mk ((by rw [hg]; exact Nat.ne_of_gt (blk_lt (g := gb290) (o := .cells #[.int .i64 a0_0, .int .i64 a0_1, .slice A0_2 l0_2.length c0_2] 52 (0, 0)) (bk BK290.out)) : gb291 ≠ gb290)); clear HO0_2; clear BK290; clear HB; have HO0_2 := n0_; have BK290 := n1_; have HB := n2_; have BK291 := n3_; have GW291 := n4_; have GE291 := n5_; have NB290_291 := n6_; have NB291_290 := n7_; clear n0_ n1_ n2_ n3_ n4_ n5_ n6_ n7_; clear hb hbox hg; have hnb18 := NB290_291.out; have hnc18 := NB291_290.out; have hcz19_0 : w17.cell? ⟨gb290, 0, none⟩ = some (.int .i64 a0_0) := (blk_cell BK290.out 0).trans rfl; have hcz19_1 : w17.cell? ⟨gb290, 1, none⟩ = some (.int .i64 a0_1) := (blk_cell BK290.out 1).trans rfl; have hcz19_2 : w17.cell? ⟨gb290, 2, none⟩ = some (.slice A0_2 l0_2.length c0_2) := (blk_cell BK290.out 2).trans rfl; have hfz19_0 := blk_frozen BK290.out 0; have hfz19_1 := blk_frozen BK290.out 1; have hfz19_2 := blk_frozen BK290.out 2))
   go_ret
   exact ⟨_, by first | rfl | (simp [errW_none, errW_some] <;> rfl) | (simp [*, errW_none, errW_some] <;> rfl), by (with_reducible repeat (first | apply Kd.V_alloc | apply Kd.V_drewN | apply Kd.V_drew)); exact Kd.V_mono HO0_2.out (fun _ hk => hk.1.1), bw HB.out⟩
  ·
   rw [if_neg c15] at H
   have c15b0 : (a0_0 == 14) = false := beq_eq_false_iff_ne.mpr c15
   have c15b1 : (a0_0 != 14) = true := bne_iff_ne.mpr c15
   have HC20 := Aside0.mk H
   clear H
   go_enter Try.func71, Try.ntmps71
   go_upto_if 28 with (first | ((with_reducible refine gate_dst (N := 2) rfl ?_); refine box_event ?hg (N := 2) ?hd (cs := #[.int .i64 a0_0, .int .i64 a0_1, .slice A0_2 l0_2.length c0_2]) (t := 52) ?hr ?_; (case hd => rfl); (case hg => rfl); (case hr => first | (go_simp; done) | (go_simp; rfl)); intro gb290 hg w21 hbox hb; have n0_ := Aside0.mk (Kd.V_below (Kd.V_elderB (by (with_reducible repeat (first | apply Kd.V_alloc | apply Kd.V_drewN | apply Kd.V_drew)); exact HO0_2.out) gb290 (Nat.le_of_eq hg.symm)) hb); have n1_ := Aside0.mk (below_step (bw HB.out) hb); have n2_ := Aside0.mk (hbox); have n3_ := Aside0.mk ((by rw [hg]; exact (below_size (bw HB.out)) : w.heap.size ≤ gb290)); have n4_ := Aside0.mk ((by rw [hg]; exact (below_size (bw HB.out)) : w.heap.size ≤ gb290)); clear HO0_2; clear HB; have HO0_2 := n0_; have HB := n1_; have BK290 := n2_; have GW290 := n3_; have GE290 := n4_; clear n0_ n1_ n2_ n3_ n4_; clear hb hbox hg) | ((with_reducible refine gate_dst (N := 3) rfl ?_); refine box_event ?hg (N := 3) ?hd (cs := #[.int .i64 a1_0, .string a1_1, .slice A1_2 l1_2.length c1_2]) (t := 68) ?hr ?_; (case hd => rfl); (case hg => rfl); (case hr => first | (go_simp; done) | (go_simp; rfl)); intro gb291 hg w22 hbox hb; have n0_ := Aside0.mk (Kd.V_below (Kd.V_elderB (by (with_reducible repeat (first | apply Kd.V_alloc | apply Kd.V_drewN | apply Kd.V_drew)); exact HO0_2.out) gb291 (Nat.le_of_eq hg.symm)) hb); have n1_ := Aside0.mk (blk_below (g := gb290) (o := .cells #[.int .i64 a0_0, .int .i64 a0_1, .slice A0_2 l0_2.length c0_2] 52 (0, 0)) (bk BK290.out) hb); have n2_ := Aside0.mk (below_step (bw HB.out) hb); have n3_ := Aside0.mk (hbox); have n4_ := Aside0.mk ((by rw [hg]; exact (below_size (bw HB.out)) : w.heap.size ≤ gb291)); have n5_ := Aside0.mk ((by rw [hg]; exact (below_size (bw HB.out)) : w.heap.size ≤ gb291)); have n6_ := Aside0.mk ((by rw [hg]; exact Nat.ne_of_lt (blk_lt (g := gb290) (o := .cells #[.int .i64 a0_0, .int .i64 a0_1, .slice A0_2 l0_2.length c0_2] 52 (0, 0)) (bk BK290.out)) : gb290 ≠ gb291)); have n7_ := Aside0.mk ((by rw [hg]; exact Nat.ne_of_gt (blk_lt (g := gb290) (o := .cells #[.int .i64 a0_0, .int .i64 a0_1, .slice A0_2 l0_2.length c0_2] 52 (0, 0)) (bk BK290.out)) : gb291 ≠ gb290)); clear HO0_2; clear BK290; clear HB; have HO0_2 := n0_; have BK290 := n1_; have HB := n2_; have BK291 := n3_; have GW291 := n4_; have GE291 := n5_; have NB290_291 := n6_; have NB291_290 := n7_; clear n0_ n1_ n2_ n3_ n4_ n5_ n6_ n7_; clear hb hbox hg; have hnb23 := NB290_291.out; have hnc23 := NB291_290.out; have hcz24_0 : w22.cell? ⟨gb290, 0, none⟩ = some (.int .i64 a0_0) := (blk_cell BK290.out 0).trans rfl; have hcz24_1 : w22.cell? ⟨gb290, 1, none⟩ = some (.int .i64 a0_1) := (blk_cell BK290.out 1).trans rfl; have hcz24_2 : w22.cell? ⟨gb290, 2, none⟩ = some (.slice A0_2 l0_2.length c0_2) := (blk_cell BK290.out 2).trans rfl; have hfz24_0 := blk_frozen BK290.out 0; have hfz24_1 := blk_frozen BK290.out 1; have hfz24_2 := blk_frozen BK290.out 2))
   (try simp only [Act.put, List.setIfInBounds_toArray, List.set_cons_zero, List.set_cons_succ])
   go_cut [28] (fun v28 wc => ∃ (kq : Nat) (x28_19 : Bool), v28 = .bool x28_19 ∧ Aside0 (spec_l12Kids.j1 kq a0_0 x28_19 a0_0 a0_1 l0_2 a1_0 a1_1 l1_2 = some r) ∧ Aside0 (kq ≤ k) ∧ Aside0 (Kd.V k52 52 wc w.heap.size (fun k_ => (P0_2_ k_ ∨ w.heap.size ≤ k_) ∧ k_ ≠ gb290 ∧ k_ ≠ gb291) (.slice A0_2 l0_2.length c0_2) l0_2) ∧ Aside0 (wc.heap[gb290]? = some (.cells #[.int .i64 a0_0, .int .i64 a0_1, (.slice A0_2 l0_2.length c0_2)] 52 (0, 0))) ∧ Aside0 (wc.heap[gb291]? = some (.cells #[.int .i64 a1_0, .string a1_1, (.slice A1_2 l1_2.length c1_2)] 68 (0, 0))) ∧ Aside0 (Below w.heap.size w wc))
   case first =>
    have H := HC20.out
    clear HC20
    by_cases c25 : a0_0 = 15
    ·
     rw [if_pos c25] at H
     have c25b0 : (a0_0 == 15) = true := beq_iff_eq.mpr c25
     have c25b1 : (a0_0 != 15) = false := bne_eq_false_iff_eq.mpr c25
     clear c25
     (first | rw [c25b0] | (simp only [i64_w, i32_w]; rw [c25b0]) | skip)
     have H' := Aside0.mk H
     clear H
     go_wp2
     go_meet
     case rel => exact ⟨_, ((a0_0 == 15)), (by first | rfl | (simp; done) | (simp [*]; done)), H', ⟨by first | omega | exact Nat.le_refl _⟩, ⟨by (with_reducible repeat (first | apply Kd.V_alloc | apply Kd.V_drewN | apply Kd.V_drew)); exact Kd.V_mono HO0_2.out (fun _ hk => ⟨hk.1.1, ⟨hk.1.2, hk.2⟩⟩)⟩, ⟨bk BK290.out⟩, ⟨bk BK291.out⟩, ⟨bw HB.out⟩⟩
    ·
     rw [if_neg c25] at H
     have c25b0 : (a0_0 == 15) = false := beq_eq_false_iff_ne.mpr c25
     have c25b1 : (a0_0 != 15) = true := bne_iff_ne.mpr c25
     (first | rw [c25b0] | (simp only [i64_w, i32_w]; rw [c25b0]) | skip)
     have H' := Aside0.mk H
     clear H
     go_wp2
     go_meet
     case rel => exact ⟨_, ((a0_0 == 18)), (by first | rfl | (simp; done) | (simp [*]; done)), H', ⟨by first | omega | exact Nat.le_refl _⟩, ⟨by (with_reducible repeat (first | apply Kd.V_alloc | apply Kd.V_drewN | apply Kd.V_drew)); exact Kd.V_mono HO0_2.out (fun _ hk => ⟨hk.1.1, ⟨hk.1.2, hk.2⟩⟩)⟩, ⟨bk BK290.out⟩, ⟨bk BK291.out⟩, ⟨bw HB.out⟩⟩
   case rest =>
    clear HC20
    try clear c1
    try clear c2
    try clear p2
    try clear q2
    try clear hx2
    try clear qi2
    try clear c3
    try clear c3b0
    try clear c3b1
    try clear c6
    try clear p6
    try clear c7
    try clear c9
    try clear c9b0
    try clear c10
    try clear c10b0
    try clear c10b1
    try clear c11
    try clear c12
    try clear c15
    try clear c15b0
    try clear c15b1
    try clear c18
    try clear c23
    try clear c25
    try clear c25b0
    try clear c25b1
    try clear hcz13_0 hcz13_1 hcz13_2
    try clear hcz19_0 hcz19_1 hcz19_2
    try clear hcz24_0 hcz24_1 hcz24_2
    try clear hcz7_0 hcz7_1 hcz7_2
    try clear hcz8_0 hcz8_1 hcz8_2
    try clear hfz13_0 hfz13_1 hfz13_2
    try clear hfz19_0 hfz19_1 hfz19_2
    try clear hfz24_0 hfz24_1 hfz24_2
    try clear hfz7_0 hfz7_1 hfz7_2
    try clear hfz8_0 hfz8_1 hfz8_2
    try clear hx292_0
    try clear hx292_1
    try clear hx292_2
    try clear p2
    try clear p292
    try clear q292
    obtain ⟨kq, x28_19, rfl, HA, HJ19, HO_291002, BK290, BK291, HB⟩ := hcut
    cases kq with
    | zero => exact absurd HA.out (by simp [spec_l12Kids.j1])
    | succ kj19 =>
     have H := HA.out
     clear HA
     simp only [spec_l12Kids.j1] at H
     by_cases c26 : x28_19 = true
     ·
      subst c26
      have H1 : (if 0 ≤ a1_0 then (if a1_0 ≤ (wrap64 (a1_0 + 1)) then (if (wrap64 (a1_0 + 1)) ≤ (l0_2.length : Int) then (some ((l0_2.take ((wrap64 (a1_0 + 1)) : Int).toNat).drop (a1_0 : Int).toNat)) else (none)) else (none)) else (none)) = some r := by rw [if_pos rfl] at H; exact H
      clear H
      have H := H1
      clear H1
      by_cases c27 : 0 ≤ a1_0
      ·
       rw [if_pos c27] at H
       have c27b0 := eq_true c27
       have c27b1 : decide (0 ≤ a1_0) = true := decide_eq_true c27
       clear c27
       by_cases c28 : a1_0 ≤ (wrap64 (a1_0 + 1))
       ·
        rw [if_pos c28] at H
        have c28b0 := eq_true c28
        have c28b1 : decide (a1_0 ≤ (wrap64 (a1_0 + 1))) = true := decide_eq_true c28
        by_cases c29 : (wrap64 (a1_0 + 1)) ≤ (l0_2.length : Int)
        ·
         rw [if_pos c29] at H
         have c29b0 := eq_true c29
         have c29b1 : decide ((wrap64 (a1_0 + 1)) ≤ (l0_2.length : Int)) = true := decide_eq_true c29
         obtain ⟨y296, hy296⟩ : ∃ y_ : List (S52), y_ = ((l0_2.take ((wrap64 (a1_0 + 1)) : Int).toNat).drop (a1_0 : Int).toNat) := ⟨_, rfl⟩
         replace H : (some y296) = some r := by first | (rw [hy296]; with_reducible exact H) | (have H2_ := (Option.bind_some _ _).symm.trans H; rw [hy296]; with_reducible exact H2_) | (have H2_ := (Option.bind_some _ _).symm.trans H; with_reducible exact H2_) | with_reducible exact H | (rw [hy296]; exact H) | exact H
         have Ny296 := Aside0.mk hy296
         clear hy296
         obtain rfl := Option.some.inj H
         simp only [Option.some.injEq, Prod.mk.injEq] at H
         obtain ⟨rfl⟩ := H
         have hnb30 := NB290_291.out
         have hnc30 := NB291_290.out
         have hcz31_0 : wc.cell? ⟨gb290, 0, none⟩ = some (.int .i64 a0_0) := (blk_cell BK290.out 0).trans rfl
         have hcz31_1 : wc.cell? ⟨gb290, 1, none⟩ = some (.int .i64 a0_1) := (blk_cell BK290.out 1).trans rfl
         have hcz31_2 : wc.cell? ⟨gb290, 2, none⟩ = some (.slice A0_2 l0_2.length c0_2) := (blk_cell BK290.out 2).trans rfl
         have hfz31_0 := blk_frozen BK290.out 0
         have hfz31_1 := blk_frozen BK290.out 1
         have hfz31_2 := blk_frozen BK290.out 2
         have hcz32_0 : wc.cell? ⟨gb291, 0, none⟩ = some (.int .i64 a1_0) := (blk_cell BK291.out 0).trans rfl
         have hcz32_1 : wc.cell? ⟨gb291, 1, none⟩ = some (.string a1_1) := (blk_cell BK291.out 1).trans rfl
         have hcz32_2 : wc.cell? ⟨gb291, 2, none⟩ = some (.slice A1_2 l1_2.length c1_2) := (blk_cell BK291.out 2).trans rfl
         have hfz32_0 := blk_frozen BK291.out 0
         have hfz32_1 := blk_frozen BK291.out 1
         have hfz32_2 := blk_frozen BK291.out 2
         have q33 : ((wrap64 (a1_0 + 1)) : Int) ≤ ((l0_2.length : Int) : Int) := of_decide_eq_true (by first | (with_reducible assumption) | assumption)
         obtain ⟨i033, hi033, _, hsz33, _⟩ := info_parts info52
         have hroom33 : l0_2.length ≤ c0_2 := (Kd.V_reads' HO_291002.out).2.1
         have hC33 : Kd.F k52 _ _ A0_2 l0_2.length l0_2 := (Kd.V_at (base := w.heap.size) HO_291002.out).2.2
         have ql33 : (a1_0 : Int) ≤ ((wrap64 (a1_0 + 1)) : Int) := of_decide_eq_true (by first | (with_reducible assumption) | assumption)
         have q033 : (0 : Int) ≤ (a1_0 : Int) := of_decide_eq_true (by first | (with_reducible assumption) | assumption)
         have hcut33 := cut_mid (P := Try.prog) 50 52 .i64 .i64 Try.underlying50 hi033 3 hsz33 A0_2 l0_2.length c0_2 a1_0 (wrap64 (a1_0 + 1)) q033 ql33 q33 hroom33
         have hr33 := Kd.F_mid (lo := (a1_0 : Int).toNat) (hi := ((wrap64 (a1_0 + 1)) : Int).toNat) (c := c0_2) hC33 (by omega) (by omega) hroom33
         obtain ⟨A33, hA33⟩ : ∃ A1, A1 = (if c0_2 = (a1_0 : Int).toNat then A0_2 else (A0_2 : Option Addr).map (·.add ((a1_0 : Int).toNat * 3))) := ⟨_, rfl⟩
         obtain ⟨c33, hc33⟩ : ∃ c1, c1 = c0_2 - (a1_0 : Int).toNat := ⟨_, rfl⟩
         have hy33 : y296.length = ((wrap64 (a1_0 + 1)) : Int).toNat - (a1_0 : Int).toNat := (by rw [Ny296.out, List.length_drop, List.length_take] <;> omega)
         rw [show ((l0_2).take ((wrap64 (a1_0 + 1)) : Int).toNat).drop (a1_0 : Int).toNat = y296 from Ny296.out.symm] at hr33
         replace hr33 : Kd.F k52 _ _ A33 y296.length y296 := (by rw [hA33]; exact hr33)
         rw [← hy33, ← hA33, ← hc33] at hcut33
         have HO300 := Aside0.mk (show Kd.V k52 52 _ w.heap.size _ (.slice A33 y296.length c33) y296 from Kd.V_mk (by rw [hy33, hc33]; exact Nat.sub_le_sub_right (Nat.le_trans (by omega) hroom33) _) hr33)
         have HC300 := Aside0.mk (show y296.length ≤ c33 from by rw [hy33, hc33]; exact Nat.sub_le_sub_right (Nat.le_trans (by omega) hroom33) _)
         clear hr33 hC33 hroom33 hi033 hsz33 hc33
         have KY33 := Aside0.mk hy33
         have KA33 := Aside0.mk hA33
         clear hy33 hA33
         replace q33 := eq_true q33
         go_wp2
         go_ret
         exact ⟨_, by first | rfl | (simp [errW_none, errW_some] <;> rfl) | (simp [*, errW_none, errW_some] <;> rfl), by (with_reducible repeat (first | apply Kd.V_alloc | apply Kd.V_drewN | apply Kd.V_drew)); exact Kd.V_mono HO300.out (fun _ hk => hk.1), bw HB.out⟩
        ·
         rw [if_neg c29] at H
         exact absurd H (by simp)
       ·
        rw [if_neg c28] at H
        exact absurd H (by simp)
      ·
       rw [if_neg c27] at H
       exact absurd H (by simp)
     ·
      replace c26 := Bool.eq_false_iff.mpr c26
      subst c26
      have H1 : (if a0_0 = 17 then (if 0 ≤ a1_0 then (if a1_0 ≤ (l0_2.length : Int) then (some (l0_2.take (a1_0 : Int).toNat)) else (none)) else (none)) else (some ([] : List (S52)))) = some r := by rw [if_neg (show ¬ (false = true) by decide)] at H; exact H
      clear H
      have H := H1
      clear H1
      by_cases c34 : a0_0 = 17
      ·
       rw [if_pos c34] at H
       have c34b0 : (a0_0 == 17) = true := beq_iff_eq.mpr c34
       have c34b1 : (a0_0 != 17) = false := bne_eq_false_iff_eq.mpr c34
       clear c34
       by_cases c35 : 0 ≤ a1_0
       ·
        rw [if_pos c35] at H
        have c35b0 := eq_true c35
        have c35b1 : decide (0 ≤ a1_0) = true := decide_eq_true c35
        clear c35
        by_cases c36 : a1_0 ≤ (l0_2.length : Int)
        ·
         rw [if_pos c36] at H
         have c36b0 := eq_true c36
         have c36b1 : decide (a1_0 ≤ (l0_2.length : Int)) = true := decide_eq_true c36
         clear c36
         obtain ⟨y301, hy301⟩ : ∃ y_ : List (S52), y_ = (l0_2.take (a1_0 : Int).toNat) := ⟨_, rfl⟩
         replace H : (some y301) = some r := by first | (rw [hy301]; with_reducible exact H) | (have H2_ := (Option.bind_some _ _).symm.trans H; rw [hy301]; with_reducible exact H2_) | (have H2_ := (Option.bind_some _ _).symm.trans H; with_reducible exact H2_) | with_reducible exact H | (rw [hy301]; exact H) | exact H
         have Ny301 := Aside0.mk hy301
         clear hy301
         obtain rfl := Option.some.inj H
         simp only [Option.some.injEq, Prod.mk.injEq] at H
         obtain ⟨rfl⟩ := H
         have hnb37 := NB290_291.out
         have hnc37 := NB291_290.out
         have hcz38_0 : wc.cell? ⟨gb290, 0, none⟩ = some (.int .i64 a0_0) := (blk_cell BK290.out 0).trans rfl
         have hcz38_1 : wc.cell? ⟨gb290, 1, none⟩ = some (.int .i64 a0_1) := (blk_cell BK290.out 1).trans rfl
         have hcz38_2 : wc.cell? ⟨gb290, 2, none⟩ = some (.slice A0_2 l0_2.length c0_2) := (blk_cell BK290.out 2).trans rfl
         have hfz38_0 := blk_frozen BK290.out 0
         have hfz38_1 := blk_frozen BK290.out 1
         have hfz38_2 := blk_frozen BK290.out 2
         have hcz39_0 : wc.cell? ⟨gb291, 0, none⟩ = some (.int .i64 a1_0) := (blk_cell BK291.out 0).trans rfl
         have hcz39_1 : wc.cell? ⟨gb291, 1, none⟩ = some (.string a1_1) := (blk_cell BK291.out 1).trans rfl
         have hcz39_2 : wc.cell? ⟨gb291, 2, none⟩ = some (.slice A1_2 l1_2.length c1_2) := (blk_cell BK291.out 2).trans rfl
         have hfz39_0 := blk_frozen BK291.out 0
         have hfz39_1 := blk_frozen BK291.out 1
         have hfz39_2 := blk_frozen BK291.out 2
         have q40 : (a1_0 : Int) ≤ ((l0_2.length : Int) : Int) := of_decide_eq_true (by first | (with_reducible assumption) | assumption)
         obtain ⟨i040, hi040, _, hsz40, _⟩ := info_parts info52
         have hroom40 : l0_2.length ≤ c0_2 := (Kd.V_reads' HO_291002.out).2.1
         have hC40 : Kd.F k52 _ _ A0_2 l0_2.length l0_2 := (Kd.V_at (base := w.heap.size) HO_291002.out).2.2
         have hcut40 := cut_to (P := Try.prog) 50 52 .i64 Try.underlying50 hi040 A0_2 l0_2.length c0_2 a1_0 (of_decide_eq_true (by first | (with_reducible assumption) | assumption)) q40 hroom40
         have hr40 := Kd.F_take (m := (a1_0 : Int).toNat) hC40 (by omega)
         have hy40 : y301.length = (a1_0 : Int).toNat := (by rw [Ny301.out, List.length_take]; omega)
         rw [← Ny301.out] at hr40
         rw [← hy40] at hcut40
         have HO305 := Aside0.mk (show Kd.V k52 52 _ w.heap.size _ (.slice A0_2 y301.length c0_2) y301 from Kd.V_mk (by omega) hr40)
         have HC305 := Aside0.mk (show y301.length ≤ c0_2 from by omega)
         clear hr40 hC40 hroom40 hi040 hsz40
         have KY40 := Aside0.mk hy40
         clear hy40
         replace q40 := eq_true q40
         go_wp2
         go_ret
         exact ⟨_, by first | rfl | (simp [errW_none, errW_some] <;> rfl) | (simp [*, errW_none, errW_some] <;> rfl), by (with_reducible repeat (first | apply Kd.V_alloc | apply Kd.V_drewN | apply Kd.V_drew)); exact Kd.V_mono HO305.out (fun _ hk => hk.1), bw HB.out⟩
        ·
         rw [if_neg c36] at H
         exact absurd H (by simp)
       ·
        rw [if_neg c35] at H
        exact absurd H (by simp)
      ·
       rw [if_neg c34] at H
       have c34b0 : (a0_0 == 17) = false := beq_eq_false_iff_ne.mpr c34
       have c34b1 : (a0_0 != 17) = true := bne_iff_ne.mpr c34
       obtain rfl := Option.some.inj H
       simp only [Option.some.injEq, Prod.mk.injEq] at H
       obtain ⟨rfl⟩ := H
       go_wp2
       go_ret
       exact ⟨_, by first | rfl | (simp [errW_none, errW_some] <;> rfl) | (simp [*, errW_none, errW_some] <;> rfl), Kd.N_V (base := 0) (by first | exact Kd.R_nil _ _ _ _ _ | exact Kd.N_nil _ _ _ _ _ | exact Kd.V_nil _ _ _ _ _ | exact Kd.Q_nil _ _ _ _ _ | exact Kd.S_nil _ _ _ _ _), bw HB.out⟩

end Go.Proofs.Ytlgegdgilkaldaa.Q

namespace Go.Proofs.Ytlgegdgilkaldaa.Q
open Go.RowKit Go.Proofs.YtlgegdgilkaldaaW.PrintWords Go.Proofs.YtlgegdgilkaldaaW.PrintLast Go.Proofs.YtlgegdgilkaldaaW.PrintMore
attribute [local go_sem] max2_int min2_int max_two min_two max_three min_three max_four min_four   -- for this text's walks alone
set_option linter.unusedVariables false
set_option linter.unusedSimpArgs false

/-! ### spec_l12Zero: function 49 -/
mutual
def spec_l12Zero.l0 : Nat → List (S52) → Int → Int → Int → ByteArray → List (S68) → Option (Int × ByteArray × (List (S68)))
 | 0, _, _, _, _, _, _ => none
 | k + 1, x9, x10, x11, x309000, x309001, x309002 => if x11 < x10 then (if 0 ≤ x11 then (if x11 < (x9.length : Int) then ((spec_l12Zero.f k ((rd_T52 x9 x11).f0) ((rd_T52 x9 x11).f1) ((rd_T52 x9 x11).f2)).bind fun bt314 => (if x309002.length < 2932031007402 then (spec_l12Zero.l0 k x9 x10 (wrap64 (x11 + 1)) x309000 x309001 (x309002 ++ [(⟨bt314.1, bt314.2.1, bt314.2.2⟩ : S68)])) else (none))) else (none)) else (none)) else (some (x309000, x309001, x309002))
def spec_l12Zero.f : Nat → Int → Int → List (S52) → Option (Int × ByteArray × (List (S68)))
 | 0, _, _, _ => none
 | k + 1, a0_0, a0_1, l0_2 => (spec_l12Kids.f k a0_0 a0_1 l0_2 0 (⟨#[]⟩ : ByteArray) ([] : List (S68))).bind fun t309 => (spec_l12Zero.l0 k t309 (t309.length : Int) 0 0 (⟨#[]⟩ : ByteArray) ([] : List (S68)))
end
theorem spec_l12Zero.mono_l : ∀ k, (∀ y0 y1 y2, LeO (spec_l12Zero.f k y0 y1 y2) (spec_l12Zero.f (k + 1) y0 y1 y2)) ∧ (∀ y0 y1 y2 y3 y4 y5, LeO (spec_l12Zero.l0 k y0 y1 y2 y3 y4 y5) (spec_l12Zero.l0 (k + 1) y0 y1 y2 y3 y4 y5))
 | 0 => ⟨fun _ _ _ r h => by simp [spec_l12Zero.f] at h, fun _ _ _ _ _ _ r h => by simp [spec_l12Zero.l0] at h⟩
 | k + 1 => by
  obtain ⟨ih0, ih1⟩ := spec_l12Zero.mono_l k
  refine ⟨?_, ?_⟩
  ·
   intro y0 y1 y2
   unfold spec_l12Zero.f
   repeat' first
   | (with_reducible exact ih0 _ _ _)
   | (with_reducible exact ih1 _ _ _ _ _ _)
   | (with_reducible exact spec_l12Kids.mono _ _ _ _ _ _ _)
   | (with_reducible exact LeO.refl _)
   | (with_reducible exact LeO.none _)
   | (with_reducible refine LeO.ite ?_ ?_)
   | (with_reducible refine LeO.bind ?_ (fun _ => ?_))
   | exact ih0 _ _ _
   | exact ih1 _ _ _ _ _ _
   | exact spec_l12Kids.mono _ _ _ _ _ _ _
   | exact LeO.none _
   | refine LeO.ite ?_ ?_
   | refine LeO.bind ?_ (fun _ => ?_)
  ·
   intro y0 y1 y2 y3 y4 y5
   unfold spec_l12Zero.l0
   repeat' first
   | (with_reducible exact ih0 _ _ _)
   | (with_reducible exact ih1 _ _ _ _ _ _)
   | (with_reducible exact spec_l12Kids.mono _ _ _ _ _ _ _)
   | (with_reducible exact LeO.refl _)
   | (with_reducible exact LeO.none _)
   | (with_reducible refine LeO.ite ?_ ?_)
   | (with_reducible refine LeO.bind ?_ (fun _ => ?_))
   | exact ih0 _ _ _
   | exact ih1 _ _ _ _ _ _
   | exact spec_l12Kids.mono _ _ _ _ _ _ _
   | exact LeO.none _
   | refine LeO.ite ?_ ?_
   | refine LeO.bind ?_ (fun _ => ?_)
theorem spec_l12Zero.mono : ∀ a0 a1 a2 k, LeO (spec_l12Zero.f k a0 a1 a2) (spec_l12Zero.f (k + 1) a0 a1 a2) := by
 intro a0 a1 a2 k
 obtain ⟨ih0, ih1⟩ := spec_l12Zero.mono_l k
 exact ih0 a0 a1 a2
def spec_l12Zero.T5 : Bool × List (List Nat × List Nat) := (true, [([], []), ([0], [0]), ([], []), ([2], [2]), ([3], [3]), ([1, 4, 3], [1, 4]), ([0, 1, 2, 3, 4, 5], []), ([6, 5, 5, 0, 1, 2, 3, 4, 5], [5, 6])])
def spec_l12Zero.B5 : List Nat := [0, 1, 0, 4, 12, 31, 63, 127]
theorem spec_l12Zero.tab5 : rtab .any (opsOf Try.f49 5) = spec_l12Zero.T5 := by kernel_rfl
theorem spec_l12Zero.bits5 : waitsOk spec_l12Zero.T5.2 spec_l12Zero.B5 = true := by kernel_rfl
set_option maxHeartbeats 8000000 in
set_option maxRecDepth 100000 in
theorem spec_l12Zero.calls (k : Nat) : ∀ (a0_0 : Int) (a0_1 : Int) (A0_2 : Option Addr) (c0_2 : Nat) (l0_2 : List (S52)) (r1 : Int) (r2 : ByteArray) (r3 : List (S68)) (w : World) (hr0_2 : Kd.C k52 w A0_2 l0_2.length l0_2) (hc0_2 : l0_2.length ≤ c0_2) (h : spec_l12Zero.f k a0_0 a0_1 l0_2 = some (r1, r2, r3)),
  Calls Try.prog 49 #[.agg #[.int .i64 a0_0, .int .i64 a0_1, .slice A0_2 l0_2.length c0_2]] w fun e w' => ∃ v2_ : Value, e = .returned (.agg #[.int .i64 r1, .string r2, v2_]) ∧ Kd.R k68 68 w' w.heap.size (fun _ => True) v2_ r3 ∧ Below w.heap.size w w' := by
 induction k using Nat.strongRecOn with
 | _ k ih =>
 intro a0_0 a0_1 A0_2 c0_2 l0_2 r1 r2 r3 w hr0_2 hc0_2 h
 cases k with
 | zero => exact absurd h (by simp [spec_l12Zero.f])
 | succ k =>
 simp only [spec_l12Zero.f] at h
 have hu52 := Try.underlying52
 have hu68 := Try.underlying68
 have HR0_2 := Aside0.mk hr0_2
 have HC0_2 := Aside0.mk hc0_2
 clear hr0_2 hc0_2
 have HB := Aside0.mk (Below.refl w.heap.size w)
 have H : ((spec_l12Kids.f k a0_0 a0_1 l0_2 0 (⟨#[]⟩ : ByteArray) ([] : List (S68))).bind fun t309 => (spec_l12Zero.l0 k t309 (t309.length : Int) 0 0 (⟨#[]⟩ : ByteArray) ([] : List (S68)))) = some (r1, r2, r3) := h
 clear h
 replace H := Option.bind_eq_some_iff.mp H
 obtain ⟨t309, A20, H⟩ := H
 replace H : (spec_l12Zero.l0 k t309 (t309.length : Int) 0 0 (⟨#[]⟩ : ByteArray) ([] : List (S68))) = some (r1, r2, r3) := H
 have A2 := Aside0.mk A20
 clear A20
 have H' := Aside0.mk H
 clear H
 go_enter Try.func49, Try.ntmps49
 go_wp2_with (first | ((with_reducible refine gate_dst (N := 1) rfl ?_); refine box_event ?hg (N := 1) ?hd (cs := #[.int .i64 a0_0, .int .i64 a0_1, .slice A0_2 l0_2.length c0_2]) (t := 52) ?hr ?_; (case hd => rfl); (case hg => rfl); (case hr => first | (go_simp; done) | (go_simp; rfl)); intro gb306 hg w3 hbox hb; have n0_ := Aside0.mk (below_step (bw HB.out) hb); have n1_ := Aside0.mk (hbox); have n2_ := Aside0.mk ((by rw [hg]; exact (below_size (bw HB.out)) : w.heap.size ≤ gb306)); have n3_ := Aside0.mk ((by rw [hg]; exact (below_size (bw HB.out)) : w.heap.size ≤ gb306)); clear HB; have HB := n0_; have BK306 := n1_; have GW306 := n2_; have GE306 := n3_; clear n0_ n1_ n2_ n3_; clear hb hbox hg) | ((with_reducible refine gate_dst (N := 2) rfl ?_); refine box_event ?hg (N := 2) ?hd (cs := #[.int .i64 0, .string (⟨#[]⟩ : ByteArray), .slice none 0 0]) (t := 68) ?hr ?_; (case hd => rfl); (case hg => rfl); (case hr => first | (go_simp; done) | (go_simp; rfl)); intro gb307 hg w4 hbox hb; have n0_ := Aside0.mk (blk_below (g := gb306) (o := .cells #[.int .i64 a0_0, .int .i64 a0_1, .slice A0_2 l0_2.length c0_2] 52 (0, 0)) (bk BK306.out) hb); have n1_ := Aside0.mk (below_step (bw HB.out) hb); have n2_ := Aside0.mk (hbox); have n3_ := Aside0.mk ((by rw [hg]; exact (below_size (bw HB.out)) : w.heap.size ≤ gb307)); have n4_ := Aside0.mk ((by rw [hg]; exact (below_size (bw HB.out)) : w.heap.size ≤ gb307)); have n5_ := Aside0.mk ((by rw [hg]; exact Nat.ne_of_lt (blk_lt (g := gb306) (o := .cells #[.int .i64 a0_0, .int .i64 a0_1, .slice A0_2 l0_2.length c0_2] 52 (0, 0)) (bk BK306.out)) : gb306 ≠ gb307)); have n6_ := Aside0.mk ((by rw [hg]; exact Nat.ne_of_gt (blk_lt (g := gb306) (o := .cells #[.int .i64 a0_0, .int .i64 a0_1, .slice A0_2 l0_2.length c0_2] 52 (0, 0)) (bk BK306.out)) : gb307 ≠ gb306)); clear BK306; clear HB; have BK306 := n0_; have HB := n1_; have BK307 := n2_; have GW307 := n3_; have GE307 := n4_; have NB306_307 := n5_; have NB307_306 := n6_; clear n0_ n1_ n2_ n3_ n4_ n5_ n6_; clear hb hbox hg) | ((with_reducible refine gate_dst (N := 3) rfl ?_); refine box_event ?hg (N := 3) ?hd (cs := #[.int .i64 0, .string (⟨#[]⟩ : ByteArray), .slice none 0 0]) (t := 68) ?hr ?_; (case hd => rfl); (case hg => rfl); (case hr => first | (go_simp; done) | (go_simp; rfl)); intro gb308 hg w5 hbox hb; have n0_ := Aside0.mk (blk_below (g := gb306) (o := .cells #[.int .i64 a0_0, .int .i64 a0_1, .slice A0_2 l0_2.length c0_2] 52 (0, 0)) (bk BK306.out) hb); have n1_ := Aside0.mk (blk_below (g := gb307) (o := .cells #[.int .i64 0, .string (⟨#[]⟩ : ByteArray), .slice none 0 0] 68 (0, 0)) (bk BK307.out) hb); have n2_ := Aside0.mk (below_step (bw HB.out) hb); have n3_ := Aside0.mk (hbox); have n4_ := Aside0.mk ((by rw [hg]; exact (below_size (bw HB.out)) : w.heap.size ≤ gb308)); have n5_ := Aside0.mk ((by rw [hg]; exact (below_size (bw HB.out)) : w.heap.size ≤ gb308)); have n6_ := Aside0.mk ((by rw [hg]; exact Nat.ne_of_lt (blk_lt (g := gb306) (o := .cells #[.int .i64 a0_0, .int .i64 a0_1, .slice A0_2 l0_2.length c0_2] 52 (0, 0)) (bk BK306.out)) : gb306 ≠ gb308)); have n7_ := Aside0.mk ((by rw [hg]; exact Nat.ne_of_gt (blk_lt (g := gb306) (o := .cells #[.int .i64 a0_0, .int .i64 a0_1, .slice A0_2 l0_2.length c0_2] 52 (0, 0)) (bk BK306.out)) : gb308 ≠ gb306)); have n8_ := Aside0.mk ((by rw [hg]; exact Nat.ne_of_lt (blk_lt (g := gb307) (o := .cells #[.int .i64 0, .string (⟨#[]⟩ : ByteArray), .slice none 0 0] 68 (0, 0)) (bk BK307.out)) : gb307 ≠ gb308)); have n9_ := Aside0.mk ((by rw [hg]; exact Nat.ne_of_gt (blk_lt (g := gb307) (o := .cells #[.int .i64 0, .string (⟨#[]⟩ : ByteArray), .slice none 0 0] 68 (0, 0)) (bk BK307.out)) : gb308 ≠ gb307)); clear BK306; clear BK307; clear HB; have BK306 := n0_; have BK307 := n1_; have HB := n2_; have BK308 := n3_; have GW308 := n4_; have GE308 := n5_; have NB306_308 := n6_; have NB308_306 := n7_; have NB307_308 := n8_; have NB308_307 := n9_; clear n0_ n1_ n2_ n3_ n4_ n5_ n6_ n7_ n8_ n9_; clear hb hbox hg; have hnb6 := NB308_306.out; have hnc6 := NB306_308.out; have hnb7 := NB308_307.out; have hnc7 := NB307_308.out; have hcz8_0 : w5.cell? ⟨gb308, 0, none⟩ = some (.int .i64 0) := (blk_cell BK308.out 0).trans rfl; have hcz8_1 : w5.cell? ⟨gb308, 1, none⟩ = some (.string (⟨#[]⟩ : ByteArray)) := (blk_cell BK308.out 1).trans rfl; have hcz8_2 : w5.cell? ⟨gb308, 2, none⟩ = some (.slice none 0 0) := (blk_cell BK308.out 2).trans rfl; have hfz8_0 := blk_frozen BK308.out 0; have hfz8_1 := blk_frozen BK308.out 1; have hfz8_2 := blk_frozen BK308.out 2) | ((with_reducible refine gate_store (t := 68) (p := 3) rfl ?_); refine store_event (t := 68) (p := 3) (v := ?vo_w9) (w1 := (((w5.setCell ⟨gb308, 0, none⟩ (.int .i64 0)).setCell ⟨gb308, 1, none⟩ (.string (⟨#[]⟩ : ByteArray))).setCell ⟨gb308, 2, none⟩ (.slice none 0 0))) ?hg ?ho ?hn ?hr ?_; (case ho => rfl); (case hg => rfl); (case hn => rfl); (case hr => first | (go_simp; done) | (go_simp; rfl)); intro w9 hw; have n0_ : Aside0 (w9.heap[gb306]? = some (.cells #[.int .i64 a0_0, .int .i64 a0_1, .slice A0_2 l0_2.length c0_2] 52 (0, 0))) := ⟨(by rw [hw]; exact (by (with_reducible repeat (first | refine blk_drewN ?_ _ | refine blk_drew ?_ | refine blk_alloc ?_ _)); refine blk_far ?_ NB306_308.out _; (with_reducible repeat (first | refine blk_drewN ?_ _ | refine blk_drew ?_ | refine blk_alloc ?_ _)); refine blk_far ?_ NB306_308.out _; (with_reducible repeat (first | refine blk_drewN ?_ _ | refine blk_drew ?_ | refine blk_alloc ?_ _)); refine blk_far ?_ NB306_308.out _; (with_reducible repeat (first | refine blk_drewN ?_ _ | refine blk_drew ?_ | refine blk_alloc ?_ _)); exact BK306.out))⟩; have n1_ : Aside0 (w9.heap[gb307]? = some (.cells #[.int .i64 0, .string (⟨#[]⟩ : ByteArray), .slice none 0 0] 68 (0, 0))) := ⟨(by rw [hw]; exact (by (with_reducible repeat (first | refine blk_drewN ?_ _ | refine blk_drew ?_ | refine blk_alloc ?_ _)); refine blk_far ?_ NB307_308.out _; (with_reducible repeat (first | refine blk_drewN ?_ _ | refine blk_drew ?_ | refine blk_alloc ?_ _)); refine blk_far ?_ NB307_308.out _; (with_reducible repeat (first | refine blk_drewN ?_ _ | refine blk_drew ?_ | refine blk_alloc ?_ _)); refine blk_far ?_ NB307_308.out _; (with_reducible repeat (first | refine blk_drewN ?_ _ | refine blk_drew ?_ | refine blk_alloc ?_ _)); exact BK307.out))⟩; have n2_ : Aside0 (w9.heap[gb308]? = some (.cells #[.int .i64 0, .string (⟨#[]⟩ : ByteArray), .slice none 0 0] 68 (0, 0))) := ⟨(by rw [hw]; exact (by (with_reducible repeat (first | refine blk_drewN ?_ _ | refine blk_drew ?_ | refine blk_alloc ?_ _)); refine blk_put (cs := #[.int .i64 0, .string (⟨#[]⟩ : ByteArray), .slice none 0 0]) ?_ 2 _ rfl; (with_reducible repeat (first | refine blk_drewN ?_ _ | refine blk_drew ?_ | refine blk_alloc ?_ _)); refine blk_put (cs := #[.int .i64 0, .string (⟨#[]⟩ : ByteArray), .slice none 0 0]) ?_ 1 _ rfl; (with_reducible repeat (first | refine blk_drewN ?_ _ | refine blk_drew ?_ | refine blk_alloc ?_ _)); refine blk_put (cs := #[.int .i64 0, .string (⟨#[]⟩ : ByteArray), .slice none 0 0]) ?_ 0 _ rfl; (with_reducible repeat (first | refine blk_drewN ?_ _ | refine blk_drew ?_ | refine blk_alloc ?_ _)); exact BK308.out))⟩; have n3_ : Aside0 (Below w.heap.size w w9) := ⟨(by rw [hw]; exact (bw HB.out))⟩; clear hw; clear BK306; clear BK307; clear BK308; clear HB; have BK306 := n0_; have BK307 := n1_; have BK308 := n2_; have HB := n3_; clear n0_ n1_ n2_ n3_; have hnb10 := NB306_307.out; have hnc10 := NB307_306.out; have hcz11_0 : w9.cell? ⟨gb306, 0, none⟩ = some (.int .i64 a0_0) := (blk_cell BK306.out 0).trans rfl; have hcz11_1 : w9.cell? ⟨gb306, 1, none⟩ = some (.int .i64 a0_1) := (blk_cell BK306.out 1).trans rfl; have hcz11_2 : w9.cell? ⟨gb306, 2, none⟩ = some (.slice A0_2 l0_2.length c0_2) := (blk_cell BK306.out 2).trans rfl; have hfz11_0 := blk_frozen BK306.out 0; have hfz11_1 := blk_frozen BK306.out 1; have hfz11_2 := blk_frozen BK306.out 2; have hcz12_0 : w9.cell? ⟨gb308, 0, none⟩ = some (.int .i64 0) := (blk_cell BK308.out 0).trans rfl; have hcz12_1 : w9.cell? ⟨gb308, 1, none⟩ = some (.string (⟨#[]⟩ : ByteArray)) := (blk_cell BK308.out 1).trans rfl; have hcz12_2 : w9.cell? ⟨gb308, 2, none⟩ = some (.slice none 0 0) := (blk_cell BK308.out 2).trans rfl; have hfz12_0 := blk_frozen BK308.out 0; have hfz12_1 := blk_frozen BK308.out 1; have hfz12_2 := blk_frozen BK308.out 2) | ((with_reducible refine gate_callee (f := 71) rfl ?_); refine goesL_ (some 9) rfl rfl Try.func71 (by kernel_rfl) rfl #[.agg #[.int .i64 a0_0, .int .i64 a0_1, .slice A0_2 l0_2.length c0_2], .agg #[.int .i64 0, .string (⟨#[]⟩ : ByteArray), .slice none 0 0]] rfl ar ?_; (refine (spec_l12Kids.calls k a0_0 a0_1 (fun k_ => k_ < w.heap.size) _ _ l0_2 0 (⟨#[]⟩ : ByteArray) _ _ ([] : List (S68)) t309 _ ?side1 ?side2 ?side3 A2.out).mono ?_); (case side1 => exact Kd.V_mk HC0_2.out (Kd.F_below (Kd.C_F k52_heap HR0_2.out) (bw HB.out))); (case side2 => exact Kd.C_nil _ _); (case side3 => exact Nat.le_refl _); rintro e w13 ⟨v310, rfl, ho0, hb⟩; refine ⟨_, rfl, ?_⟩; have n0_ := Aside0.mk (Kd.V_lower (Kd.V_mono (ok' := fun k_ => k_ ≠ gb306 ∧ k_ ≠ gb307 ∧ k_ ≠ gb308) ho0 (fun k_ hk_ => ⟨Or.elim hk_ (fun hs_ => fun e_ => Nat.not_le.2 hs_ (by rw [e_]; exact GW306.out)) (fun hn_ => (Kd.freshB (g := gb306) (o := .cells #[.int .i64 a0_0, .int .i64 a0_1, .slice A0_2 l0_2.length c0_2] 52 (0, 0)) (bk BK306.out) k_ hn_)), Or.elim hk_ (fun hs_ => fun e_ => Nat.not_le.2 hs_ (by rw [e_]; exact GW307.out)) (fun hn_ => (Kd.freshB (g := gb307) (o := .cells #[.int .i64 0, .string (⟨#[]⟩ : ByteArray), .slice none 0 0] 68 (0, 0)) (bk BK307.out) k_ hn_)), Or.elim hk_ (fun hs_ => fun e_ => Nat.not_le.2 hs_ (by rw [e_]; exact GW308.out)) (fun hn_ => (Kd.freshB (g := gb308) (o := .cells #[.int .i64 0, .string (⟨#[]⟩ : ByteArray), .slice none 0 0] 68 (0, 0)) (bk BK308.out) k_ hn_))⟩)) (below_size (bw HB.out))); have n1_ := Aside0.mk (blk_below (g := gb306) (o := .cells #[.int .i64 a0_0, .int .i64 a0_1, .slice A0_2 l0_2.length c0_2] 52 (0, 0)) (bk BK306.out) hb); have n2_ := Aside0.mk (blk_below (g := gb307) (o := .cells #[.int .i64 0, .string (⟨#[]⟩ : ByteArray), .slice none 0 0] 68 (0, 0)) (bk BK307.out) hb); have n3_ := Aside0.mk (blk_below (g := gb308) (o := .cells #[.int .i64 0, .string (⟨#[]⟩ : ByteArray), .slice none 0 0] 68 (0, 0)) (bk BK308.out) hb); have n4_ := Aside0.mk (below_step (bw HB.out) hb); clear BK306; clear BK307; clear BK308; clear HB; have HO311 := n0_; have BK306 := n1_; have BK307 := n2_; have BK308 := n3_; have HB := n4_; clear n0_ n1_ n2_ n3_ n4_; (try clear hb); (try clear hb2); (try clear hk); (try clear hi); (try clear ho0); obtain ⟨Ao14, co14, eo14⟩ := Kd.V_slice HO311.out; subst eo14))
 (try simp only [Act.put, List.setIfInBounds_toArray, List.set_cons_zero, List.set_cons_succ])
 go_loopg [11] k (fun kq v11 w' => ∃ (x11_1 : Int) (x309002_1 : List (S68)) (u309002 : Value), v11 = .int .i64 x11_1 ∧ Aside0 (spec_l12Zero.l0 kq t309 (t309.length : Int) x11_1 0 (⟨#[]⟩ : ByteArray) x309002_1 = some (r1, r2, r3)) ∧ Aside0 (kq ≤ k) ∧ Aside0 (Kd.V k52 52 w' w.heap.size (fun k_ => some k_ ≠ (u309002 : Value).ownBlock ∧ k_ ≠ gb306 ∧ k_ ≠ gb307 ∧ k_ ≠ gb308) (.slice Ao14 t309.length co14) t309) ∧ Aside0 (Kd.R k68 68 w' w.heap.size (fun k_ => k_ ≠ gb307 ∧ k_ ≠ gb308) u309002 x309002_1) ∧ Aside0 (w'.heap[gb306]? = some (.cells #[.int .i64 a0_0, .int .i64 a0_1, (.slice A0_2 l0_2.length c0_2)] 52 (0, 0))) ∧ Aside0 (w'.heap[gb307]? = some (.cells #[.int .i64 0, .string (⟨#[]⟩ : ByteArray), (.slice none 0 0)] 68 (0, 0))) ∧ Aside0 (w'.heap[gb308]? = some (.cells #[.int .i64 0, .string (⟨#[]⟩ : ByteArray), u309002] 68 (0, 0))) ∧ Aside0 (Below w.heap.size w w'))
 case atStart => exact ⟨(0), (([] : List (S68))), (.slice none 0 0), (by first | rfl | (simp; done) | (simp [*]; done)), H', ⟨Nat.le_refl _⟩, ⟨by (with_reducible repeat (first | apply Kd.V_alloc | apply Kd.V_drewN | apply Kd.V_drew)); exact Kd.V_mono HO311.out (fun _ hk => ⟨(by simp [Value.ownBlock]), ⟨hk.1, ⟨hk.2.1, hk.2.2⟩⟩⟩)⟩, ⟨by first | exact Kd.R_nil _ _ _ _ _ | exact Kd.N_nil _ _ _ _ _ | exact Kd.V_nil _ _ _ _ _ | exact Kd.Q_nil _ _ _ _ _ | exact Kd.S_nil _ _ _ _ _⟩, ⟨bk BK306.out⟩, ⟨bk BK307.out⟩, ⟨bk BK308.out⟩, ⟨bw HB.out⟩⟩
 case round =>
  clear H'
  try clear c1
  try clear p2
  try clear c4
  try clear c6
  try clear c7
  try clear c10
  try clear hcz11_0 hcz11_1 hcz11_2
  try clear hcz12_0 hcz12_1 hcz12_2
  try clear hcz8_0 hcz8_1 hcz8_2
  try clear hfz11_0 hfz11_1 hfz11_2
  try clear hfz12_0 hfz12_1 hfz12_2
  try clear hfz8_0 hfz8_1 hfz8_2
  obtain ⟨x11_1, x309002_1, u309002, rfl, HA, HK1, HO_9, HO_309002, BK306, BK307, BK308, HB⟩ := hrel
  cases gk with
  | zero => exact absurd HA.out (by simp [spec_l12Zero.l0])
  | succ k1 =>
   have H := HA.out
   clear HA
   simp only [spec_l12Zero.l0] at H
   by_cases c15 : x11_1 < (t309.length : Int)
   ·
    rw [if_pos c15] at H
    have c15b0 : decide (x11_1 < (t309.length : Int)) = true := decide_eq_true c15
    clear c15
    by_cases c16 : 0 ≤ x11_1
    ·
     rw [if_pos c16] at H
     have c16b0 : decide (0 ≤ x11_1) = true := decide_eq_true c16
     clear c16
     by_cases c17 : x11_1 < (t309.length : Int)
     ·
      rw [if_pos c17] at H
      have c17b0 : decide (x11_1 < (t309.length : Int)) = true := decide_eq_true c17
      clear c17
      replace H := Option.bind_eq_some_iff.mp H
      obtain ⟨⟨t314, t315, t316⟩, A180, H⟩ := H
      replace H : (if x309002_1.length < 2932031007402 then (spec_l12Zero.l0 k1 t309 (t309.length : Int) (wrap64 (x11_1 + 1)) 0 (⟨#[]⟩ : ByteArray) (x309002_1 ++ [(⟨t314, t315, t316⟩ : S68)])) else (none)) = some (r1, r2, r3) := H
      have A18 := Aside0.mk A180
      clear A180
      by_cases c19 : x309002_1.length < 2932031007402
      ·
       rw [if_pos c19] at H
       have LMc19 := Aside0.mk c19
       clear c19
       obtain ⟨y319, hy319⟩ : ∃ y_ : List (S68), y_ = (x309002_1 ++ [(⟨t314, t315, t316⟩ : S68)]) := ⟨_, rfl⟩
       replace H : (spec_l12Zero.l0 k1 t309 (t309.length : Int) (wrap64 (x11_1 + 1)) 0 (⟨#[]⟩ : ByteArray) y319) = some (r1, r2, r3) := by first | (rw [hy319]; with_reducible exact H) | (have H2_ := (Option.bind_some _ _).symm.trans H; rw [hy319]; with_reducible exact H2_) | (have H2_ := (Option.bind_some _ _).symm.trans H; with_reducible exact H2_) | with_reducible exact H | (rw [hy319]; exact H) | exact H
       have Ny319 := Aside0.mk hy319
       clear hy319
       have H' := Aside0.mk H
       clear H
       have p312 : 0 ≤ (x11_1 : Int) := of_decide_eq_true (by first | (with_reducible assumption) | assumption)
       have q312 : x11_1 < (t309.length : Int) := of_decide_eq_true (by first | (with_reducible assumption) | assumption)
       obtain ⟨ad312, A312_2, c312_2, e312, hx312_0, hx312_1, hx312_2, hl312_2, hi312_2⟩ := at_T52 (Kd.V_reads' HO_9.out).2.2 x11_1 p312 q312
       cases e312
       obtain ⟨ce312, hce312, hMe312, hcc312⟩ := Kd.V_get HO_9.out z52 x11_1 p312 (by first | exact q312 | exact of_decide_eq_true (by first | (with_reducible assumption) | assumption) | (have e_ := (Kd.V_reads' HO_9.out).1; omega))
       obtain ⟨ua312_2, uc312_2, rfl, ul312_2, ge312_2⟩ := k52_openF hMe312
       have hv312_2 := hcc312 2 _ rfl
       rw [add_field _ _ 2 (by omega)] at hv312_2
       replace hv312_2 := Option.some.inj (hv312_2.symm.trans hx312_2)
       injection hv312_2 with hva_ hvn_ hvc_
       rw [hva_] at ge312_2
       rw [hvc_] at ul312_2
       have HL312_2 := Aside0.mk (show Kd.V k52 52 _ w.heap.size _ _ ((rd_T52 t309 x11_1).f2) from Kd.V_mk ul312_2 ge312_2)
       clear hva_ hvn_ hvc_ ge312_2 ul312_2
       clear hcc312 hce312
       have HR312_2 := Aside0.mk hi312_2
       have HC312_2 := Aside0.mk hl312_2
       clear hi312_2 hl312_2
       replace p312 := eq_true p312
       replace q312 := eq_true q312
       try go_wp2_with (first | ((with_reducible refine gate_dst (N := 5) rfl ?_); refine box_event ?hg (N := 5) ?hd (cs := #[.int .i64 0, .int .i64 0, .slice none 0 0]) (t := 52) ?hr ?_; (case hd => rfl); (case hg => rfl); (case hr => first | (go_simp; done) | (go_simp; rfl)); intro gb313 hg w20 hbox hb; have n0_ := Aside0.mk (Kd.V_below (Kd.V_elderB (by (with_reducible repeat (first | apply Kd.V_alloc | apply Kd.V_drewN | apply Kd.V_drew)); exact HO_9.out) gb313 (Nat.le_of_eq hg.symm)) hb); have n1_ := Aside0.mk (Kd.R_below (by (with_reducible repeat (first | apply Kd.R_alloc | apply Kd.R_drewN | apply Kd.R_drew)); exact HO_309002.out) hb); have n2_ := Aside0.mk (Kd.V_below (Kd.V_elderB (by (with_reducible repeat (first | apply Kd.V_alloc | apply Kd.V_drewN | apply Kd.V_drew)); exact HL312_2.out) gb313 (Nat.le_of_eq hg.symm)) hb); have n3_ := Aside0.mk (blk_below (g := gb306) (o := .cells #[.int .i64 a0_0, .int .i64 a0_1, .slice A0_2 l0_2.length c0_2] 52 (0, 0)) (bk BK306.out) hb); have n4_ := Aside0.mk (blk_below (g := gb307) (o := .cells #[.int .i64 0, .string (⟨#[]⟩ : ByteArray), .slice none 0 0] 68 (0, 0)) (bk BK307.out) hb); have n5_ := Aside0.mk (blk_below (g := gb308) (o := .cells #[.int .i64 0, .string (⟨#[]⟩ : ByteArray), u309002] 68 (0, 0)) (bk BK308.out) hb); have n6_ := Aside0.mk (Kd.C_below (by repeat (first | (with_reducible exact HR312_2.out) | (with_reducible refine Kd.C_alloc ?_ _) | (with_reducible refine Kd.C_drewN ?_ _) | (with_reducible refine Kd.C_drew ?_) | exact HR312_2.out)) hb); have n7_ := Aside0.mk (below_step (bw HB.out) hb); have n8_ := Aside0.mk (hbox); have n9_ := Aside0.mk ((by rw [hg]; exact (below_size (bw HB.out)) : w.heap.size ≤ gb313)); have n10_ := Aside0.mk ((by rw [hg]; exact (below_size (bw HB.out)) : w.heap.size ≤ gb313)); have n11_ := Aside0.mk ((by rw [hg]; exact Nat.ne_of_lt (blk_lt (g := gb306) (o := .cells #[.int .i64 a0_0, .int .i64 a0_1, .slice A0_2 l0_2.length c0_2] 52 (0, 0)) (bk BK306.out)) : gb306 ≠ gb313)); have n12_ := Aside0.mk ((by rw [hg]; exact Nat.ne_of_gt (blk_lt (g := gb306) (o := .cells #[.int .i64 a0_0, .int .i64 a0_1, .slice A0_2 l0_2.length c0_2] 52 (0, 0)) (bk BK306.out)) : gb313 ≠ gb306)); have n13_ := Aside0.mk ((by rw [hg]; exact Nat.ne_of_lt (blk_lt (g := gb307) (o := .cells #[.int .i64 0, .string (⟨#[]⟩ : ByteArray), .slice none 0 0] 68 (0, 0)) (bk BK307.out)) : gb307 ≠ gb313)); have n14_ := Aside0.mk ((by rw [hg]; exact Nat.ne_of_gt (blk_lt (g := gb307) (o := .cells #[.int .i64 0, .string (⟨#[]⟩ : ByteArray), .slice none 0 0] 68 (0, 0)) (bk BK307.out)) : gb313 ≠ gb307)); have n15_ := Aside0.mk ((by rw [hg]; exact Nat.ne_of_lt (blk_lt (g := gb308) (o := .cells #[.int .i64 0, .string (⟨#[]⟩ : ByteArray), u309002] 68 (0, 0)) (bk BK308.out)) : gb308 ≠ gb313)); have n16_ := Aside0.mk ((by rw [hg]; exact Nat.ne_of_gt (blk_lt (g := gb308) (o := .cells #[.int .i64 0, .string (⟨#[]⟩ : ByteArray), u309002] 68 (0, 0)) (bk BK308.out)) : gb313 ≠ gb308)); clear HO_9; clear HO_309002; clear HL312_2; clear BK306; clear BK307; clear BK308; clear HR312_2; clear HB; have HO_9 := n0_; have HO_309002 := n1_; have HL312_2 := n2_; have BK306 := n3_; have BK307 := n4_; have BK308 := n5_; have HR312_2 := n6_; have HB := n7_; have BK313 := n8_; have GW313 := n9_; have GE313 := n10_; have NB306_313 := n11_; have NB313_306 := n12_; have NB307_313 := n13_; have NB313_307 := n14_; have NB308_313 := n15_; have NB313_308 := n16_; clear n0_ n1_ n2_ n3_ n4_ n5_ n6_ n7_ n8_ n9_ n10_ n11_ n12_ n13_ n14_ n15_ n16_; clear hb hbox hg; have hnb21 := NB313_306.out; have hnc21 := NB306_313.out; have hnb22 := NB313_307.out; have hnc22 := NB307_313.out; have hnb23 := NB313_308.out; have hnc23 := NB308_313.out; have hcz24_0 : w20.cell? ⟨gb313, 0, none⟩ = some (.int .i64 0) := (blk_cell BK313.out 0).trans rfl; have hcz24_1 : w20.cell? ⟨gb313, 1, none⟩ = some (.int .i64 0) := (blk_cell BK313.out 1).trans rfl; have hcz24_2 : w20.cell? ⟨gb313, 2, none⟩ = some (.slice none 0 0) := (blk_cell BK313.out 2).trans rfl; have hfz24_0 := blk_frozen BK313.out 0; have hfz24_1 := blk_frozen BK313.out 1; have hfz24_2 := blk_frozen BK313.out 2))
       have n0_ : Aside0 (Kd.V k52 52 (((w20.setCell ⟨gb313, 0, none⟩ (.int .i64 ((rd_T52 t309 x11_1).f0))).setCell ⟨gb313, 1, none⟩ (.int .i64 ((rd_T52 t309 x11_1).f1))).setCell ⟨gb313, 2, none⟩ (.slice A312_2 ((rd_T52 t309 x11_1).f2).length c312_2)) w.heap.size (fun k_ => some k_ ≠ (u309002 : Value).ownBlock ∧ k_ ≠ gb306 ∧ k_ ≠ gb307 ∧ k_ ≠ gb308 ∧ k_ ≠ gb313) (.slice (some ad312) t309.length co14) t309) := ⟨by (with_reducible repeat (first | apply Kd.V_alloc | apply Kd.V_drewN | apply Kd.V_drew)); exact Kd.V_mono (Kd.V_far (p := ⟨gb313, 2, none⟩) (Kd.V_far (p := ⟨gb313, 1, none⟩) (Kd.V_far (p := ⟨gb313, 0, none⟩) (Kd.V_mono HO_9.out (fun k_ hk => (⟨hk, hk.2⟩ : _ ∧ k_ ≠ gb313))) (fun _ hk => hk.2) (.int .i64 ((rd_T52 t309 x11_1).f0))) (fun _ hk => hk.2) (.int .i64 ((rd_T52 t309 x11_1).f1))) (fun _ hk => hk.2) (.slice A312_2 ((rd_T52 t309 x11_1).f2).length c312_2)) (fun _ hk => ⟨hk.1.1.1, ⟨hk.1.1.2.1, ⟨hk.1.1.2.2.1, ⟨hk.1.1.2.2.2, hk.1.2⟩⟩⟩⟩)⟩
       have n1_ : Aside0 (Kd.R k68 68 (((w20.setCell ⟨gb313, 0, none⟩ (.int .i64 ((rd_T52 t309 x11_1).f0))).setCell ⟨gb313, 1, none⟩ (.int .i64 ((rd_T52 t309 x11_1).f1))).setCell ⟨gb313, 2, none⟩ (.slice A312_2 ((rd_T52 t309 x11_1).f2).length c312_2)) w.heap.size (fun k_ => k_ ≠ gb307 ∧ k_ ≠ gb308) u309002 x309002_1) := ⟨by (with_reducible repeat (first | apply Kd.R_alloc | apply Kd.R_drewN | apply Kd.R_drew)); exact Kd.R_mono (Kd.R_far (p := ⟨gb313, 2, none⟩) (Kd.R_far (p := ⟨gb313, 1, none⟩) (Kd.R_far (p := ⟨gb313, 0, none⟩) (Kd.R_types HO_309002.out BK313.out (by decide)) (fun _ hk => hk.2) (.int .i64 ((rd_T52 t309 x11_1).f0))) (fun _ hk => hk.2) (.int .i64 ((rd_T52 t309 x11_1).f1))) (fun _ hk => hk.2) (.slice A312_2 ((rd_T52 t309 x11_1).f2).length c312_2)) (fun _ hk => ⟨hk.1.1, hk.1.2⟩)⟩
       have n2_ : Aside0 (Kd.V k52 52 (((w20.setCell ⟨gb313, 0, none⟩ (.int .i64 ((rd_T52 t309 x11_1).f0))).setCell ⟨gb313, 1, none⟩ (.int .i64 ((rd_T52 t309 x11_1).f1))).setCell ⟨gb313, 2, none⟩ (.slice A312_2 ((rd_T52 t309 x11_1).f2).length c312_2)) w.heap.size (fun k_ => some k_ ≠ (u309002 : Value).ownBlock ∧ k_ ≠ gb306 ∧ k_ ≠ gb307 ∧ k_ ≠ gb308 ∧ k_ ≠ gb313) (.slice A312_2 ((rd_T52 t309 x11_1).f2).length c312_2) ((rd_T52 t309 x11_1).f2)) := ⟨by (with_reducible repeat (first | apply Kd.V_alloc | apply Kd.V_drewN | apply Kd.V_drew)); exact Kd.V_mono (Kd.V_far (p := ⟨gb313, 2, none⟩) (Kd.V_far (p := ⟨gb313, 1, none⟩) (Kd.V_far (p := ⟨gb313, 0, none⟩) (Kd.V_mono HL312_2.out (fun k_ hk => (⟨hk, hk.2⟩ : _ ∧ k_ ≠ gb313))) (fun _ hk => hk.2) (.int .i64 ((rd_T52 t309 x11_1).f0))) (fun _ hk => hk.2) (.int .i64 ((rd_T52 t309 x11_1).f1))) (fun _ hk => hk.2) (.slice A312_2 ((rd_T52 t309 x11_1).f2).length c312_2)) (fun _ hk => ⟨hk.1.1.1, ⟨hk.1.1.2.1, ⟨hk.1.1.2.2.1, ⟨hk.1.1.2.2.2, hk.1.2⟩⟩⟩⟩)⟩
       have n3_ : Aside0 ((((w20.setCell ⟨gb313, 0, none⟩ (.int .i64 ((rd_T52 t309 x11_1).f0))).setCell ⟨gb313, 1, none⟩ (.int .i64 ((rd_T52 t309 x11_1).f1))).setCell ⟨gb313, 2, none⟩ (.slice A312_2 ((rd_T52 t309 x11_1).f2).length c312_2)).heap[gb306]? = some (.cells #[.int .i64 a0_0, .int .i64 a0_1, .slice A0_2 l0_2.length c0_2] 52 (0, 0))) := ⟨by (with_reducible repeat (first | refine blk_drewN ?_ _ | refine blk_drew ?_ | refine blk_alloc ?_ _)); refine blk_far ?_ NB306_313.out _; (with_reducible repeat (first | refine blk_drewN ?_ _ | refine blk_drew ?_ | refine blk_alloc ?_ _)); refine blk_far ?_ NB306_313.out _; (with_reducible repeat (first | refine blk_drewN ?_ _ | refine blk_drew ?_ | refine blk_alloc ?_ _)); refine blk_far ?_ NB306_313.out _; (with_reducible repeat (first | refine blk_drewN ?_ _ | refine blk_drew ?_ | refine blk_alloc ?_ _)); exact BK306.out⟩
       have n4_ : Aside0 ((((w20.setCell ⟨gb313, 0, none⟩ (.int .i64 ((rd_T52 t309 x11_1).f0))).setCell ⟨gb313, 1, none⟩ (.int .i64 ((rd_T52 t309 x11_1).f1))).setCell ⟨gb313, 2, none⟩ (.slice A312_2 ((rd_T52 t309 x11_1).f2).length c312_2)).heap[gb307]? = some (.cells #[.int .i64 0, .string (⟨#[]⟩ : ByteArray), .slice none 0 0] 68 (0, 0))) := ⟨by (with_reducible repeat (first | refine blk_drewN ?_ _ | refine blk_drew ?_ | refine blk_alloc ?_ _)); refine blk_far ?_ NB307_313.out _; (with_reducible repeat (first | refine blk_drewN ?_ _ | refine blk_drew ?_ | refine blk_alloc ?_ _)); refine blk_far ?_ NB307_313.out _; (with_reducible repeat (first | refine blk_drewN ?_ _ | refine blk_drew ?_ | refine blk_alloc ?_ _)); refine blk_far ?_ NB307_313.out _; (with_reducible repeat (first | refine blk_drewN ?_ _ | refine blk_drew ?_ | refine blk_alloc ?_ _)); exact BK307.out⟩
       have n5_ : Aside0 ((((w20.setCell ⟨gb313, 0, none⟩ (.int .i64 ((rd_T52 t309 x11_1).f0))).setCell ⟨gb313, 1, none⟩ (.int .i64 ((rd_T52 t309 x11_1).f1))).setCell ⟨gb313, 2, none⟩ (.slice A312_2 ((rd_T52 t309 x11_1).f2).length c312_2)).heap[gb308]? = some (.cells #[.int .i64 0, .string (⟨#[]⟩ : ByteArray), u309002] 68 (0, 0))) := ⟨by (with_reducible repeat (first | refine blk_drewN ?_ _ | refine blk_drew ?_ | refine blk_alloc ?_ _)); refine blk_far ?_ NB308_313.out _; (with_reducible repeat (first | refine blk_drewN ?_ _ | refine blk_drew ?_ | refine blk_alloc ?_ _)); refine blk_far ?_ NB308_313.out _; (with_reducible repeat (first | refine blk_drewN ?_ _ | refine blk_drew ?_ | refine blk_alloc ?_ _)); refine blk_far ?_ NB308_313.out _; (with_reducible repeat (first | refine blk_drewN ?_ _ | refine blk_drew ?_ | refine blk_alloc ?_ _)); exact BK308.out⟩
       have n6_ : Aside0 ((((w20.setCell ⟨gb313, 0, none⟩ (.int .i64 ((rd_T52 t309 x11_1).f0))).setCell ⟨gb313, 1, none⟩ (.int .i64 ((rd_T52 t309 x11_1).f1))).setCell ⟨gb313, 2, none⟩ (.slice A312_2 ((rd_T52 t309 x11_1).f2).length c312_2)).heap[gb313]? = some (.cells #[.int .i64 ((rd_T52 t309 x11_1).f0), .int .i64 ((rd_T52 t309 x11_1).f1), .slice A312_2 ((rd_T52 t309 x11_1).f2).length c312_2] 52 (0, 0))) := ⟨by (with_reducible repeat (first | refine blk_drewN ?_ _ | refine blk_drew ?_ | refine blk_alloc ?_ _)); refine blk_put (cs := #[.int .i64 ((rd_T52 t309 x11_1).f0), .int .i64 ((rd_T52 t309 x11_1).f1), .slice none 0 0]) ?_ 2 _ rfl; (with_reducible repeat (first | refine blk_drewN ?_ _ | refine blk_drew ?_ | refine blk_alloc ?_ _)); refine blk_put (cs := #[.int .i64 ((rd_T52 t309 x11_1).f0), .int .i64 0, .slice none 0 0]) ?_ 1 _ rfl; (with_reducible repeat (first | refine blk_drewN ?_ _ | refine blk_drew ?_ | refine blk_alloc ?_ _)); refine blk_put (cs := #[.int .i64 0, .int .i64 0, .slice none 0 0]) ?_ 0 _ rfl; (with_reducible repeat (first | refine blk_drewN ?_ _ | refine blk_drew ?_ | refine blk_alloc ?_ _)); exact BK313.out⟩
       have n7_ : Aside0 (Below w.heap.size w (((w20.setCell ⟨gb313, 0, none⟩ (.int .i64 ((rd_T52 t309 x11_1).f0))).setCell ⟨gb313, 1, none⟩ (.int .i64 ((rd_T52 t309 x11_1).f1))).setCell ⟨gb313, 2, none⟩ (.slice A312_2 ((rd_T52 t309 x11_1).f2).length c312_2))) := ⟨bw HB.out⟩
       (try clear HO_9)
       (try clear HO_309002)
       (try clear HL312_2)
       (try clear BK306)
       (try clear BK307)
       (try clear BK308)
       (try clear BK313)
       (try clear HB)
       generalize (((w20.setCell ⟨gb313, 0, none⟩ (.int .i64 ((rd_T52 t309 x11_1).f0))).setCell ⟨gb313, 1, none⟩ (.int .i64 ((rd_T52 t309 x11_1).f1))).setCell ⟨gb313, 2, none⟩ (.slice A312_2 ((rd_T52 t309 x11_1).f2).length c312_2)) = w25 at n0_ n1_ n2_ n3_ n4_ n5_ n6_ n7_ ⊢
       have HO_9 := n0_
       have HO_309002 := n1_
       have HL312_2 := n2_
       have BK306 := n3_
       have BK307 := n4_
       have BK308 := n5_
       have BK313 := n6_
       have HB := n7_
       clear n0_ n1_ n2_ n3_ n4_ n5_ n6_ n7_
       have n0_ := Aside0.mk (Kd.V_drew HO_9.out)
       have n1_ := Aside0.mk (Kd.R_drew HO_309002.out)
       have n2_ := Aside0.mk (Kd.V_drew HL312_2.out)
       have n3_ := Aside0.mk (blk_drew BK306.out)
       have n4_ := Aside0.mk (blk_drew BK307.out)
       have n5_ := Aside0.mk (blk_drew BK308.out)
       have n6_ := Aside0.mk (blk_drew BK313.out)
       have n7_ := Aside0.mk (below_drew1 HB.out)
       clear HO_9
       clear HO_309002
       clear HL312_2
       clear BK306
       clear BK307
       clear BK308
       clear BK313
       clear HB
       have HO_9 := n0_
       have HO_309002 := n1_
       have HL312_2 := n2_
       have BK306 := n3_
       have BK307 := n4_
       have BK308 := n5_
       have BK313 := n6_
       have HB := n7_
       clear n0_ n1_ n2_ n3_ n4_ n5_ n6_ n7_
       refine start_ (n := 8) (S := fun w' => w'.cell? ⟨gb308, 0, none⟩ = some (.int .i64 0) ∧ w'.cell? ⟨gb308, 1, none⟩ = some (.string (⟨#[]⟩ : ByteArray)) ∧ w'.cell? ⟨gb308, 2, none⟩ = some (u309002) ∧ w'.cell? ⟨gb313, 0, none⟩ = some (.int .i64 ((rd_T52 t309 x11_1).f0)) ∧ w'.cell? ⟨gb313, 1, none⟩ = some (.int .i64 ((rd_T52 t309 x11_1).f1)) ∧ w'.cell? ⟨gb313, 2, none⟩ = some (.slice A312_2 ((rd_T52 t309 x11_1).f2).length c312_2)) (ds := [7]) #[false, false, false, false, false, false, false, false] (by kernel_rfl) rfl rfl ⟨(blk_cell BK308.out 0).trans rfl, (blk_cell BK308.out 1).trans rfl, (blk_cell BK308.out 2).trans rfl, (blk_cell BK313.out 0).trans rfl, (blk_cell BK313.out 1).trans rfl, (blk_cell BK313.out 2).trans rfl⟩ (fun hHeld => ?_); refine with_tabW spec_l12Zero.tab5 spec_l12Zero.bits5 (fun HT_ HW_ => ?_)
       generalize w25.drew = w26 at HO_9 HO_309002 HL312_2 BK306 BK307 BK308 BK313 HB hHeld ⊢
       refine pure_ (i := 0) (N := some 15) (v := ?_) (a' := ?_) #[true, false, false, false, false, false, false, false] rfl rfl (any_of HT_.out (by kernel_rfl)) (fun _ _ _ h => h) (Or.inl ⟨by rfl, ?_⟩) ?_ ?_
       rotate_left
       ·
        intro w'
        go_simp
        with_reducible rfl
       rotate_left
       ·
        simp only [Act.put, List.setIfInBounds_toArray, List.set_cons_zero, List.set_cons_succ, i64_w, i32_w]
        rfl
       refine take_ (i := 1) (N := some 16) (v := ?_) (a' := ?_) #[true, true, false, false, false, false, false, false] rfl rfl (take_ofW HT_.out HW_.out (by kernel_rfl)) (fun _ _ _ h => h) (Or.inl ⟨by rfl, ?_⟩) hHeld ?_ ?_
       rotate_left
       ·
        rintro w' ⟨s0, s1, s2, s3, s4, s5⟩
        go_simp
        with_reducible rfl
       rotate_left
       ·
        simp only [Act.put, List.setIfInBounds_toArray, List.set_cons_zero, List.set_cons_succ, i64_w, i32_w]
        rfl
       refine take_ (i := 2) (N := some 17) (v := ?_) (a' := ?_) #[true, true, true, false, false, false, false, false] rfl rfl (take_ofW HT_.out HW_.out (by kernel_rfl)) (fun _ _ _ h => h) (Or.inl ⟨by rfl, ?_⟩) hHeld ?_ ?_
       rotate_left
       ·
        rintro w' ⟨s0, s1, s2, s3, s4, s5⟩
        go_simp
        with_reducible rfl
       rotate_left
       ·
        simp only [Act.put, List.setIfInBounds_toArray, List.set_cons_zero, List.set_cons_succ, i64_w, i32_w]
        rfl
       refine one_ (i := 3) (N := some 18) #[true, true, true, true, false, false, false, false] rfl rfl (one_of HT_.out (by kernel_rfl)) (by decide) (fun K hK => ?_)
       refine goes_ Try.func49 (by kernel_rfl) rfl #[.agg #[.int .i64 ((rd_T52 t309 x11_1).f0), .int .i64 ((rd_T52 t309 x11_1).f1), .slice A312_2 ((rd_T52 t309 x11_1).f2).length c312_2]] (by rfl) rfl rfl ar ?_
       with_reducible refine (ih k1 (by have := HK1.out; omega) ((rd_T52 t309 x11_1).f0) ((rd_T52 t309 x11_1).f1) _ _ ((rd_T52 t309 x11_1).f2) t314 t315 t316 _ ?side1 ?side2 A18.out).mono ?_
       (case side1 => repeat (first | exact ((Kd.V_reads' (by (with_reducible repeat (first | apply Kd.V_alloc | apply Kd.V_drewN | apply Kd.V_drew)); exact HL312_2.out)).2.2) | (with_reducible refine Kd.C_alloc ?_ _) | (with_reducible refine Kd.C_drewN ?_ _) | (with_reducible refine Kd.C_drew ?_)))
       (case side2 => exact HC312_2.out)
       rintro e w27 ⟨v317, rfl, ho0, hb⟩
       refine ⟨_, rfl, ?_⟩
       have n0_ := Aside0.mk (Kd.V_elder' (by (with_reducible repeat (first | apply Kd.V_alloc | apply Kd.V_drewN | apply Kd.V_drew)); exact HO_9.out) (Kd.R_base ho0) hb)
       have n1_ := Aside0.mk (Kd.R_elder' (by (with_reducible repeat (first | apply Kd.R_alloc | apply Kd.R_drewN | apply Kd.R_drew)); exact HO_309002.out) (Kd.R_base ho0) hb)
       have n2_ := Aside0.mk (Kd.V_elder' (by (with_reducible repeat (first | apply Kd.V_alloc | apply Kd.V_drewN | apply Kd.V_drew)); exact HL312_2.out) (Kd.R_base ho0) hb)
       have n3_ := Aside0.mk (Kd.R_lower (Kd.R_newB (Kd.R_newB (Kd.R_new' ho0 (Kd.R_lt (by (with_reducible repeat (first | apply Kd.R_alloc | apply Kd.R_drewN | apply Kd.R_drew)); exact HO_309002.out))) (g := gb307) (o := .cells #[.int .i64 0, .string (⟨#[]⟩ : ByteArray), .slice none 0 0] 68 (0, 0)) (bk BK307.out)) (g := gb308) (o := .cells #[.int .i64 0, .string (⟨#[]⟩ : ByteArray), u309002] 68 (0, 0)) (bk BK308.out)) (below_size (bw HB.out)))
       have n4_ := Aside0.mk (blk_below (g := gb306) (o := .cells #[.int .i64 a0_0, .int .i64 a0_1, .slice A0_2 l0_2.length c0_2] 52 (0, 0)) (bk BK306.out) hb)
       have n5_ := Aside0.mk (blk_below (g := gb307) (o := .cells #[.int .i64 0, .string (⟨#[]⟩ : ByteArray), .slice none 0 0] 68 (0, 0)) (bk BK307.out) hb)
       have n6_ := Aside0.mk (blk_below (g := gb308) (o := .cells #[.int .i64 0, .string (⟨#[]⟩ : ByteArray), u309002] 68 (0, 0)) (bk BK308.out) hb)
       have n7_ := Aside0.mk (blk_below (g := gb313) (o := .cells #[.int .i64 ((rd_T52 t309 x11_1).f0), .int .i64 ((rd_T52 t309 x11_1).f1), .slice A312_2 ((rd_T52 t309 x11_1).f2).length c312_2] 52 (0, 0)) (bk BK313.out) hb)
       have n8_ := Aside0.mk (below_step (bw HB.out) hb)
       clear HO_9
       clear HO_309002
       clear HL312_2
       clear BK306
       clear BK307
       clear BK308
       clear BK313
       clear HB
       have HO_9 := n0_
       have HO_309002 := n1_
       have HL312_2 := n2_
       have HO318 := n3_
       have BK306 := n4_
       have BK307 := n5_
       have BK308 := n6_
       have BK313 := n7_
       have HB := n8_
       clear n0_ n1_ n2_ n3_ n4_ n5_ n6_ n7_ n8_
       (try clear hb)
       (try clear hb2)
       (try clear hk)
       (try clear hi)
       (try clear ho0)
       obtain ⟨Ao29, co29, eo29⟩ := Kd.R_slice HO318.out
       (first | subst eo29 | (injection eo29 with f1_ f2_ f3_; have f4_ := f1_.symm; have f5_ := f3_.symm; clear f1_ f2_ f3_; subst f4_; subst f5_))
       refine hK.out _ _ ⟨(blk_cell BK308.out 0).trans rfl, (blk_cell BK308.out 1).trans rfl, (blk_cell BK308.out 2).trans rfl, (blk_cell BK313.out 0).trans rfl, (blk_cell BK313.out 1).trans rfl, (blk_cell BK313.out 2).trans rfl⟩ (fun hHeld => ?_)
       clear hK K
       refine norm_ (a' := ?_) ?_ ?_
       rotate_left
       ·
        show Act.put _ (some 18) _ = _
        simp only [Act.put, List.setIfInBounds_toArray, List.set_cons_zero, List.set_cons_succ, i64_w, i32_w]
        rfl
       refine one_ (i := 4) (N := some 19) #[true, true, true, true, true, false, false, false] rfl rfl (one_of HT_.out (by kernel_rfl)) (by decide) (fun K hK => ?_)
       refine value_ (w1 := ?_) (v := ?_) (by rfl) rfl ?_ ?_
       rotate_left 2
       ·
        go_simp
        constructor
        ·
         rfl
        ·
         rfl
       refine hK.out _ _ ⟨(blk_cell (blk_alloc BK308.out _) 0).trans rfl, (blk_cell (blk_alloc BK308.out _) 1).trans rfl, (blk_cell (blk_alloc BK308.out _) 2).trans rfl, (blk_cell (blk_alloc BK313.out _) 0).trans rfl, (blk_cell (blk_alloc BK313.out _) 1).trans rfl, (blk_cell (blk_alloc BK313.out _) 2).trans rfl⟩ (fun hHeld => ?_)
       clear hK K
       refine norm_ (a' := ?_) ?_ ?_
       rotate_left
       ·
        show Act.put _ (some 19) _ = _
        simp only [Act.put, List.setIfInBounds_toArray, List.set_cons_zero, List.set_cons_succ, i64_w, i32_w]
        rfl
       refine one_ (i := 5) (N := some 20) #[true, true, true, true, true, true, false, false] rfl rfl (one_of HT_.out (by kernel_rfl)) (by decide) (fun K hK => ?_)
       refine Kd.R_append_step k68 (w0 := w) w.heap.size (by rfl) (.tmp 16) (.tmp 19) 66 68 (.agg #[(.int .i64 0), (.string ⟨#[]⟩), (.slice none 0 0)]) 48 rfl Try.underlying66 info68 rfl (by decide) (by omega) u309002 x309002_1 (⟨t314, t315, t316⟩ : S68) [.int .i64 t314, .string t315, .slice Ao29 t316.length co29] (fun k_ => k_ ≠ gb307 ∧ k_ ≠ gb308) (fun k_ => ((fun k_ => k_ ≠ gb307 ∧ k_ ≠ gb308)) k_ ∧ some k_ ≠ (u309002 : Value).ownBlock) rfl rfl ?aP (fun _ hk => hk) ?aF ?aO ?aB ?aS ?aL ?_
       (case aP => exact k68_mkM _ _ _ (⟨t314, t315, t316⟩ : S68) (Kd.R_mono (HO318.out) (fun k_ hk => ⟨⟨hk.1.2, hk.2⟩, hk.1.1.2⟩)))
       (case aB => exact (bw HB.out))
       (case aF => exact (fun k_ hk => ⟨Kd.freshB (g := gb307) (o := .cells #[.int .i64 0, .string (⟨#[]⟩ : ByteArray), .slice none 0 0] 68 (0, 0)) (bk BK307.out) k_ hk, Kd.freshB (g := gb308) (o := .cells #[.int .i64 0, .string (⟨#[]⟩ : ByteArray), u309002] 68 (0, 0)) (bk BK308.out) k_ hk⟩))
       (case aO => exact (by (with_reducible repeat (first | apply Kd.R_alloc | apply Kd.R_drewN | apply Kd.R_drew)); exact Kd.R_mono HO_309002.out (fun _ hk => ⟨hk.1.1, hk.1.2⟩)))
       (case aS => exact (below_size (bw HB.out)))
       (case aL => have := LMc19.out; omega)
       intro v320 w28 ho hb hg hat
       rw [← Ny319.out] at ho
       have n0_ := Aside0.mk (Kd.V_afterv (ok := (fun k_ => some k_ ≠ (.slice Ao29 t316.length co29 : Value).ownBlock ∧ k_ ≠ gb306 ∧ k_ ≠ gb307 ∧ k_ ≠ gb308 ∧ k_ ≠ gb313)) (by (with_reducible repeat (first | apply Kd.V_alloc | apply Kd.V_drewN | apply Kd.V_drew)); exact Kd.V_mono HO_9.out (fun _ hk => ⟨⟨hk.2, ⟨hk.1.2.1, ⟨hk.1.2.2.1, ⟨hk.1.2.2.2.1, hk.1.2.2.2.2⟩⟩⟩⟩, hk.1.1⟩)) hg hat)
       have n1_ := Aside0.mk (blk_grown (g := gb306) (o := .cells #[.int .i64 a0_0, .int .i64 a0_1, .slice A0_2 l0_2.length c0_2] 52 (0, 0)) (bk BK306.out) hg (Kd.R_ne HO_309002.out BK306.out (by decide)))
       have n2_ := Aside0.mk (blk_grown (g := gb307) (o := .cells #[.int .i64 0, .string (⟨#[]⟩ : ByteArray), .slice none 0 0] 68 (0, 0)) (bk BK307.out) hg (Kd.R_away HO_309002.out (fun _ hk => hk.1.1)))
       have n3_ := Aside0.mk (blk_grown (g := gb308) (o := .cells #[.int .i64 0, .string (⟨#[]⟩ : ByteArray), u309002] 68 (0, 0)) (bk BK308.out) hg (Kd.R_away HO_309002.out (fun _ hk => hk.1.2)))
       have n4_ := Aside0.mk (Kd.V_afterv (ok := (fun k_ => some k_ ≠ (.slice Ao29 t316.length co29 : Value).ownBlock ∧ k_ ≠ gb306 ∧ k_ ≠ gb307 ∧ k_ ≠ gb308 ∧ k_ ≠ gb313)) (by (with_reducible repeat (first | apply Kd.V_alloc | apply Kd.V_drewN | apply Kd.V_drew)); exact Kd.V_mono HL312_2.out (fun _ hk => ⟨⟨hk.2, ⟨hk.1.2.1, ⟨hk.1.2.2.1, ⟨hk.1.2.2.2.1, hk.1.2.2.2.2⟩⟩⟩⟩, hk.1.1⟩)) hg hat)
       have n5_ := Aside0.mk (blk_grown (g := gb313) (o := .cells #[.int .i64 ((rd_T52 t309 x11_1).f0), .int .i64 ((rd_T52 t309 x11_1).f1), .slice A312_2 ((rd_T52 t309 x11_1).f2).length c312_2] 52 (0, 0)) (bk BK313.out) hg (Kd.R_ne HO_309002.out BK313.out (by decide)))
       have n6_ := Aside0.mk (hb)
       have n7_ := Aside0.mk (ho)
       clear HO_9
       clear BK306
       clear BK307
       clear BK308
       clear HL312_2
       clear BK313
       clear HB
       clear HO_309002
       clear HO318
       have HO_9 := n0_
       have BK306 := n1_
       have BK307 := n2_
       have BK308 := n3_
       have HL312_2 := n4_
       have BK313 := n5_
       have HB := n6_
       have HO321 := n7_
       clear n0_ n1_ n2_ n3_ n4_ n5_ n6_ n7_
       clear ho hb hg hat
       obtain ⟨Ao30, co30, eo30⟩ := Kd.R_slice HO321.out
       (first | subst eo30 | (injection eo30 with f1_ f2_ f3_; have f4_ := f1_.symm; have f5_ := f3_.symm; clear f1_ f2_ f3_; subst f4_; subst f5_))
       refine hK.out _ _ ⟨(blk_cell BK308.out 0).trans rfl, (blk_cell BK308.out 1).trans rfl, (blk_cell BK308.out 2).trans rfl, (blk_cell BK313.out 0).trans rfl, (blk_cell BK313.out 1).trans rfl, (blk_cell BK313.out 2).trans rfl⟩ (fun hHeld => ?_)
       clear hK K
       refine norm_ (a' := ?_) ?_ ?_
       rotate_left
       ·
        show Act.put _ (some 20) _ = _
        simp only [Act.put, List.setIfInBounds_toArray, List.set_cons_zero, List.set_cons_succ, i64_w, i32_w]
        rfl
       refine pure_ (i := 6) (N := some 21) (v := ?_) (a' := ?_) #[true, true, true, true, true, true, true, false] rfl rfl (any_of HT_.out (by kernel_rfl)) (fun _ _ _ h => h) (Or.inl ⟨by rfl, ?_⟩) ?_ ?_
       rotate_left
       ·
        intro w'
        go_simp
        with_reducible rfl
       rotate_left
       ·
        simp only [Act.put, List.setIfInBounds_toArray, List.set_cons_zero, List.set_cons_succ, i64_w, i32_w]
        rfl
       refine last_ (i := 7) (N := none) #[true, true, true, true, true, true, true, true] rfl rfl (one_of HT_.out (by kernel_rfl)) (by decide) (fun K hK => ?_)
       have hs31 : w28.cell? ⟨gb308, 2, none⟩ = some (u309002) := (blk_cell BK308.out 2).trans rfl
       have hfs31 := blk_frozen BK308.out 2
       have hns31_0 := NB306_308.out
       have hns31_1 := NB307_308.out
       have hns31_3 := NB313_308.out
       have hms31_0 := NB308_306.out
       have hms31_1 := NB308_307.out
       have hms31_3 := NB308_313.out
       refine skip_ (w1 := ?_) (by rfl) rfl ?_ ?_
       rotate_left
       ·
        go_simp
        rfl
       refine hK.out _ _ ?_
       clear hK K
       refine done_ (done_of HT_.out (by kernel_rfl)) ?_
       try go_wp2
       go_roundg k1
       case measure => have := HK1.out; omega
       case rel => exact ⟨(wrap64 (x11_1 + 1)), (y319), (.slice Ao30 y319.length co30), (by first | rfl | (simp; done) | (simp [*]; done)), H', ⟨by have := HK1.out; omega⟩, ⟨by (with_reducible repeat (first | apply Kd.V_alloc | apply Kd.V_drewN | apply Kd.V_drew)); exact Kd.V_mono (Kd.V_far (p := ⟨gb308, 2, none⟩) (Kd.V_mono HO_9.out (fun k_ hk => (⟨hk, hk.1.2.2.2.1⟩ : _ ∧ k_ ≠ gb308))) (fun _ hk => hk.2) (.slice Ao30 y319.length co30)) (fun _ hk => ⟨hk.1.2, ⟨hk.1.1.2.1, ⟨hk.1.1.2.2.1, hk.1.1.2.2.2.1⟩⟩⟩)⟩, ⟨by (with_reducible repeat (first | apply Kd.R_alloc | apply Kd.R_drewN | apply Kd.R_drew)); exact Kd.R_mono (Kd.R_far (p := ⟨gb308, 2, none⟩) (Kd.R_mono HO321.out (fun k_ hk => (⟨hk, hk.2⟩ : _ ∧ k_ ≠ gb308))) (fun _ hk => hk.2) (.slice Ao30 y319.length co30)) (fun _ hk => ⟨hk.1.1, hk.1.2⟩)⟩, ⟨by (with_reducible repeat (first | refine blk_drewN ?_ _ | refine blk_drew ?_ | refine blk_alloc ?_ _)); refine blk_far ?_ NB306_308.out _; (with_reducible repeat (first | refine blk_drewN ?_ _ | refine blk_drew ?_ | refine blk_alloc ?_ _)); exact BK306.out⟩, ⟨by (with_reducible repeat (first | refine blk_drewN ?_ _ | refine blk_drew ?_ | refine blk_alloc ?_ _)); refine blk_far ?_ NB307_308.out _; (with_reducible repeat (first | refine blk_drewN ?_ _ | refine blk_drew ?_ | refine blk_alloc ?_ _)); exact BK307.out⟩, ⟨by (with_reducible repeat (first | refine blk_drewN ?_ _ | refine blk_drew ?_ | refine blk_alloc ?_ _)); refine blk_put (cs := #[.int .i64 0, .string (⟨#[]⟩ : ByteArray), u309002]) ?_ 2 _ rfl; (with_reducible repeat (first | refine blk_drewN ?_ _ | refine blk_drew ?_ | refine blk_alloc ?_ _)); exact BK308.out⟩, ⟨bw HB.out⟩⟩
      ·
       rw [if_neg c19] at H
       exact absurd H (by simp)
     ·
      rw [if_neg c17] at H
      exact absurd H (by simp)
    ·
     rw [if_neg c16] at H
     exact absurd H (by simp)
   ·
    rw [if_neg c15] at H
    have c15b0 : decide (x11_1 < (t309.length : Int)) = false := decide_eq_false c15
    clear c15
    simp only [Option.some.injEq, Prod.mk.injEq] at H
    obtain ⟨rfl, rfl, rfl⟩ := H
    have hnb32 := NB308_306.out
    have hnc32 := NB306_308.out
    have hnb33 := NB308_307.out
    have hnc33 := NB307_308.out
    have hcz34_0 : wr.cell? ⟨gb308, 0, none⟩ = some (.int .i64 0) := (blk_cell BK308.out 0).trans rfl
    have hcz34_1 : wr.cell? ⟨gb308, 1, none⟩ = some (.string (⟨#[]⟩ : ByteArray)) := (blk_cell BK308.out 1).trans rfl
    have hcz34_2 : wr.cell? ⟨gb308, 2, none⟩ = some (u309002) := (blk_cell BK308.out 2).trans rfl
    have hfz34_0 := blk_frozen BK308.out 0
    have hfz34_1 := blk_frozen BK308.out 1
    have hfz34_2 := blk_frozen BK308.out 2
    have hnb35 := NB307_306.out
    have hnc35 := NB306_307.out
    have hcz36_0 : wr.cell? ⟨gb307, 0, none⟩ = some (.int .i64 0) := (blk_cell BK307.out 0).trans rfl
    have hcz36_1 : wr.cell? ⟨gb307, 1, none⟩ = some (.string (⟨#[]⟩ : ByteArray)) := (blk_cell BK307.out 1).trans rfl
    have hcz36_2 : wr.cell? ⟨gb307, 2, none⟩ = some (.slice none 0 0) := (blk_cell BK307.out 2).trans rfl
    have hfz36_0 := blk_frozen BK307.out 0
    have hfz36_1 := blk_frozen BK307.out 1
    have hfz36_2 := blk_frozen BK307.out 2
    obtain ⟨Ao37, co37, eo37⟩ := Kd.R_slice HO_309002.out
    subst eo37
    go_wp2
    refine bodyPost_ret (results_cell_row rfl _ _ gb307 68 #[.int .i64 0, .string (⟨#[]⟩ : ByteArray), .slice Ao37 x309002_1.length co37] (0, 0) _ rfl (by (with_reducible repeat (first | refine blk_drewN ?_ _ | refine blk_drew ?_ | refine blk_alloc ?_ _)); refine blk_put (cs := #[.int .i64 0, .string (⟨#[]⟩ : ByteArray), .slice none 0 0]) ?_ 2 _ rfl; (with_reducible repeat (first | refine blk_drewN ?_ _ | refine blk_drew ?_ | refine blk_alloc ?_ _)); refine blk_put (cs := #[.int .i64 0, .string (⟨#[]⟩ : ByteArray), .slice none 0 0]) ?_ 1 _ rfl; (with_reducible repeat (first | refine blk_drewN ?_ _ | refine blk_drew ?_ | refine blk_alloc ?_ _)); refine blk_put (cs := #[.int .i64 0, .string (⟨#[]⟩ : ByteArray), .slice none 0 0]) ?_ 0 _ rfl; (with_reducible repeat (first | refine blk_drewN ?_ _ | refine blk_drew ?_ | refine blk_alloc ?_ _)); exact BK307.out) Try.underlying68 rfl (by kernel_rfl)) rfl ?_
    exact ⟨_, by first | rfl | (simp [errW_none, errW_some] <;> rfl) | (simp [*, errW_none, errW_some] <;> rfl), by (with_reducible repeat (first | apply Kd.R_alloc | apply Kd.R_drewN | apply Kd.R_drew)); exact Kd.R_mono (Kd.R_far (p := ⟨gb307, 2, none⟩) (Kd.R_far (p := ⟨gb307, 1, none⟩) (Kd.R_far (p := ⟨gb307, 0, none⟩) (Kd.R_mono HO_309002.out (fun k_ hk => (⟨hk, hk.1⟩ : _ ∧ k_ ≠ gb307))) (fun _ hk => hk.2) (.int .i64 0)) (fun _ hk => hk.2) (.string (⟨#[]⟩ : ByteArray))) (fun _ hk => hk.2) (.slice Ao37 x309002_1.length co37)) (fun _ hk => trivial), bw HB.out⟩

end Go.Proofs.Ytlgegdgilkaldaa.Q

namespace Go.Proofs.Ytlgegdgilkaldaa.Q
open Go.RowKit Go.Proofs.YtlgegdgilkaldaaW.PrintWords Go.Proofs.YtlgegdgilkaldaaW.PrintLast Go.Proofs.YtlgegdgilkaldaaW.PrintMore
attribute [local go_sem] max2_int min2_int max_two min_two max_three min_three max_four min_four   -- for this text's walks alone
set_option linter.unusedVariables false
set_option linter.unusedSimpArgs false

/-! ### spec_ZeroOf: function 22 -/
def spec_ZeroOf.f (k : Nat) (l0 : List (S46)) : Option ((List (S75)) × Bool) := (spec_GoodType.f k l0).bind fun t322 => (if t322 = true then ((spec_l11Tree.f k l0 0).bind fun bt323 => ((spec_l12Zero.f k bt323.1 bt323.2.1 bt323.2.2).bind fun bt328 => ((spec_l12Flat.f ([] : List (S75)) bt328.1 bt328.2.1 bt328.2.2 (-1)).bind fun t333 => (some (t333, true))))) else (some (([] : List (S75)), false)))
theorem spec_ZeroOf.mono : ∀ a0 k, LeO (spec_ZeroOf.f k a0) (spec_ZeroOf.f (k + 1) a0) := by
 intro a0 k
 unfold spec_ZeroOf.f
 repeat' first
   | (with_reducible exact spec_GoodType.mono _ _)
   | (with_reducible exact spec_l11Tree.mono _ _ _)
   | (with_reducible exact spec_l12Zero.mono _ _ _ _)
   | (with_reducible exact LeO.refl _)
   | (with_reducible exact LeO.none _)
   | (with_reducible refine LeO.ite ?_ ?_)
   | (with_reducible refine LeO.bind ?_ (fun _ => ?_))
   | exact spec_GoodType.mono _ _
   | exact spec_l11Tree.mono _ _ _
   | exact spec_l12Zero.mono _ _ _ _
   | exact LeO.none _
   | refine LeO.ite ?_ ?_
   | refine LeO.bind ?_ (fun _ => ?_)
set_option maxHeartbeats 8000000 in
set_option maxRecDepth 100000 in
theorem spec_ZeroOf.calls (k : Nat) (A0 : Option Addr) (c0 : Nat) (l0 : List (S46)) (r1 : List (S75)) (r2 : Bool) (w : World) (hr0 : Kd.C k46 w A0 l0.length l0) (hc0 : l0.length ≤ c0) (h : spec_ZeroOf.f k l0 = some (r1, r2)) :
  Calls Try.prog 22 #[.slice A0 l0.length c0] w fun e w' => ∃ v0_ : Value, e = .returned (.tuple #[v0_, .bool r2]) ∧ Kd.R k75 75 w' w.heap.size (fun _ => True) v0_ r1 ∧ Below w.heap.size w w' := by
 have HR0 := Aside0.mk hr0
 have HC0 := Aside0.mk hc0
 clear hr0 hc0
 have HB := Aside0.mk (Below.refl w.heap.size w)
 have H : ((spec_GoodType.f k l0).bind fun t322 => (if t322 = true then ((spec_l11Tree.f k l0 0).bind fun bt323 => ((spec_l12Zero.f k bt323.1 bt323.2.1 bt323.2.2).bind fun bt328 => ((spec_l12Flat.f ([] : List (S75)) bt328.1 bt328.2.1 bt328.2.2 (-1)).bind fun t333 => (some (t333, true))))) else (some (([] : List (S75)), false)))) = some (r1, r2) := h
 clear h
 replace H := Option.bind_eq_some_iff.mp H
 obtain ⟨t322, A20, H⟩ := H
 replace H : (if t322 = true then ((spec_l11Tree.f k l0 0).bind fun bt323 => ((spec_l12Zero.f k bt323.1 bt323.2.1 bt323.2.2).bind fun bt328 => ((spec_l12Flat.f ([] : List (S75)) bt328.1 bt328.2.1 bt328.2.2 (-1)).bind fun t333 => (some (t333, true))))) else (some (([] : List (S75)), false))) = some (r1, r2) := H
 have A2 := Aside0.mk A20
 clear A20
 by_cases c3 : t322 = true
 ·
  subst c3
  have H1 : ((spec_l11Tree.f k l0 0).bind fun bt323 => ((spec_l12Zero.f k bt323.1 bt323.2.1 bt323.2.2).bind fun bt328 => ((spec_l12Flat.f ([] : List (S75)) bt328.1 bt328.2.1 bt328.2.2 (-1)).bind fun t333 => (some (t333, true))))) = some (r1, r2) := by rw [if_pos rfl] at H; exact H
  clear H
  have H := H1
  clear H1
  replace H := Option.bind_eq_some_iff.mp H
  obtain ⟨⟨t323, t324, t325⟩, A40, H⟩ := H
  replace H : ((spec_l12Zero.f k t323 t324 t325).bind fun bt328 => ((spec_l12Flat.f ([] : List (S75)) bt328.1 bt328.2.1 bt328.2.2 (-1)).bind fun t333 => (some (t333, true)))) = some (r1, r2) := H
  have A4 := Aside0.mk A40
  clear A40
  replace H := Option.bind_eq_some_iff.mp H
  obtain ⟨⟨t328, t329, t330⟩, A50, H⟩ := H
  replace H : ((spec_l12Flat.f ([] : List (S75)) t328 t329 t330 (-1)).bind fun t333 => (some (t333, true))) = some (r1, r2) := H
  have A5 := Aside0.mk A50
  clear A50
  replace H := Option.bind_eq_some_iff.mp H
  obtain ⟨t333, A60, H⟩ := H
  replace H : (some (t333, true)) = some (r1, r2) := H
  have A6 := Aside0.mk A60
  clear A60
  simp only [Option.some.injEq, Prod.mk.injEq] at H
  obtain ⟨rfl, rfl⟩ := H
  go_enter Try.func22, Try.ntmps22
  go_wp2_with (first | ((with_reducible refine gate_callee (f := 37) rfl ?_); refine goesL_ (some 5) rfl rfl Try.func37 (by kernel_rfl) rfl #[.slice A0 l0.length c0] rfl ar ?_; (with_reducible refine (spec_GoodType.calls k _ _ l0 true _ ?side1 ?side2 A2.out).mono ?_); (case side1 => repeat (first | exact HR0.out | (with_reducible refine Kd.C_alloc ?_ _) | (with_reducible refine Kd.C_drewN ?_ _) | (with_reducible refine Kd.C_drew ?_))); (case side2 => exact HC0.out); rintro e w7 ⟨rfl, hb⟩; refine ⟨_, rfl, ?_⟩; have n0_ := Aside0.mk (below_step (bw HB.out) hb); clear HB; have HB := n0_; clear n0_; (try clear hb)) | ((with_reducible refine gate_callee (f := 39) rfl ?_); refine goesL_ (some 8) rfl rfl Try.func39 (by kernel_rfl) rfl #[.slice A0 l0.length c0, .int .i64 0] rfl ar ?_; (with_reducible refine (spec_l11Tree.calls k _ _ l0 0 t323 t324 t325 _ ?side1 ?side2 A4.out).mono ?_); (case side1 => repeat (first | exact (Kd.C_below HR0.out HB.out) | (with_reducible refine Kd.C_alloc ?_ _) | (with_reducible refine Kd.C_drewN ?_ _) | (with_reducible refine Kd.C_drew ?_))); (case side2 => exact HC0.out); rintro e w8 ⟨v326, rfl, ho0, hb⟩; refine ⟨_, rfl, ?_⟩; have n0_ := Aside0.mk (Kd.R_lower ho0 (below_size (bw HB.out))); have n1_ := Aside0.mk (below_step (bw HB.out) hb); clear HB; have HO327 := n0_; have HB := n1_; clear n0_ n1_; (try clear hb); (try clear hb2); (try clear hk); (try clear hi); (try clear ho0); obtain ⟨Ao9, co9, eo9⟩ := Kd.R_slice HO327.out; subst eo9) | ((with_reducible refine gate_callee (f := 49) rfl ?_); refine goesL_ (some 9) rfl rfl Try.func49 (by kernel_rfl) rfl #[.agg #[.int .i64 t323, .int .i64 t324, .slice Ao9 t325.length co9]] rfl ar ?_; (with_reducible refine (spec_l12Zero.calls k t323 t324 _ _ t325 t328 t329 t330 _ ?side1 ?side2 A5.out).mono ?_); (case side1 => repeat (first | exact (Kd.R_reads' HO327.out).2.2 | (with_reducible refine Kd.C_alloc ?_ _) | (with_reducible refine Kd.C_drewN ?_ _) | (with_reducible refine Kd.C_drew ?_))); (case side2 => exact (Kd.R_reads' HO327.out).2.1); rintro e w10 ⟨v331, rfl, ho0, hb⟩; refine ⟨_, rfl, ?_⟩; have n0_ := Aside0.mk (Kd.R_below (by (with_reducible repeat (first | apply Kd.R_alloc | apply Kd.R_drewN | apply Kd.R_drew)); exact HO327.out) hb); have n1_ := Aside0.mk (Kd.R_lower ho0 (below_size (bw HB.out))); have n2_ := Aside0.mk (below_step (bw HB.out) hb); clear HO327; clear HB; have HO327 := n0_; have HO332 := n1_; have HB := n2_; clear n0_ n1_ n2_; (try clear hb); (try clear hb2); (try clear hk); (try clear hi); (try clear ho0); obtain ⟨Ao11, co11, eo11⟩ := Kd.R_slice HO332.out; subst eo11) | ((with_reducible refine gate_callee (f := 48) rfl ?_); refine goesL_ (some 10) rfl rfl Try.func48 (by kernel_rfl) rfl #[.slice none 0 0, .agg #[.int .i64 t328, .string t329, .slice Ao11 t330.length co11], .int .i64 (-1)] rfl ar ?_; (refine (spec_l12Flat.calls _ _ ([] : List (S75)) t328 t329 _ _ t330 (-1) t333 _ ?side1 ?side2 ?side3 ?side4 A6.out).mono ?_); (case side1 => exact Kd.C_nil _ _); (case side2 => exact Nat.le_refl _); (case side3 => repeat (first | exact (Kd.R_reads' HO332.out).2.2 | (with_reducible refine Kd.C_alloc ?_ _) | (with_reducible refine Kd.C_drewN ?_ _) | (with_reducible refine Kd.C_drew ?_))); (case side4 => exact (Kd.R_reads' HO332.out).2.1); rintro e w12 ⟨v334, rfl, ho0, hb⟩; refine ⟨_, rfl, ?_⟩; have n0_ := Aside0.mk (Kd.R_below (by (with_reducible repeat (first | apply Kd.R_alloc | apply Kd.R_drewN | apply Kd.R_drew)); exact HO327.out) hb); have n1_ := Aside0.mk (Kd.R_below (by (with_reducible repeat (first | apply Kd.R_alloc | apply Kd.R_drewN | apply Kd.R_drew)); exact HO332.out) hb); have n2_ := Aside0.mk (Kd.R_lower ho0 (below_size (bw HB.out))); have n3_ := Aside0.mk (below_step (bw HB.out) hb); clear HO327; clear HO332; clear HB; have HO327 := n0_; have HO332 := n1_; have HO335 := n2_; have HB := n3_; clear n0_ n1_ n2_ n3_; (try clear hb); (try clear hb2); (try clear hk); (try clear hi); (try clear ho0)))
  go_ret2
  exact ⟨_, by first | rfl | (simp [errW_none, errW_some] <;> rfl) | (simp [*, errW_none, errW_some] <;> rfl), by (with_reducible repeat (first | apply Kd.R_alloc | apply Kd.R_drewN | apply Kd.R_drew)); exact HO335.out, bw HB.out⟩
 ·
  replace c3 := Bool.eq_false_iff.mpr c3
  subst c3
  have H1 : (some (([] : List (S75)), false)) = some (r1, r2) := by rw [if_neg (show ¬ (false = true) by decide)] at H; exact H
  clear H
  have H := H1
  clear H1
  simp only [Option.some.injEq, Prod.mk.injEq] at H
  obtain ⟨rfl, rfl⟩ := H
  go_enter Try.func22, Try.ntmps22
  go_wp2_with (first | ((with_reducible refine gate_callee (f := 37) rfl ?_); refine goesL_ (some 5) rfl rfl Try.func37 (by kernel_rfl) rfl #[.slice A0 l0.length c0] rfl ar ?_; (with_reducible refine (spec_GoodType.calls k _ _ l0 false _ ?side1 ?side2 A2.out).mono ?_); (case side1 => repeat (first | exact HR0.out | (with_reducible refine Kd.C_alloc ?_ _) | (with_reducible refine Kd.C_drewN ?_ _) | (with_reducible refine Kd.C_drew ?_))); (case side2 => exact HC0.out); rintro e w13 ⟨rfl, hb⟩; refine ⟨_, rfl, ?_⟩; have n0_ := Aside0.mk (below_step (bw HB.out) hb); clear HB; have HB := n0_; clear n0_; (try clear hb)))
  go_ret2
  exact ⟨_, by first | rfl | (simp [errW_none, errW_some] <;> rfl) | (simp [*, errW_none, errW_some] <;> rfl), by first | exact Kd.R_nil _ _ _ _ _ | exact Kd.N_nil _ _ _ _ _ | exact Kd.V_nil _ _ _ _ _ | exact Kd.Q_nil _ _ _ _ _ | exact Kd.S_nil _ _ _ _ _, bw HB.out⟩

end Go.Proofs.Ytlgegdgilkaldaa.Q

namespace Go.Proofs.Ytlgegdgilkaldaa.Q
open Go.RowKit Go.Proofs.YtlgegdgilkaldaaW.PrintWords Go.Proofs.YtlgegdgilkaldaaW.PrintLast Go.Proofs.YtlgegdgilkaldaaW.PrintMore
attribute [local go_sem] max2_int min2_int max_two min_two max_three min_three max_four min_four   -- for this text's walks alone
set_option linter.unusedVariables false
set_option linter.unusedSimpArgs false


/-! ### impl_shape_zero: function 50 (walked by hand) -/

/-! The zero of a tree of types, as a tree of data. -/
theorem info70 : (Try.prog.info? 70).map (fun i => (i.zero, i.size, i.bytes)) = some (some (.pointer none), 1, 8) := by kernel_rfl
def zeroT : Nat → S52 → S68
 | 0, _ => ⟨0, ⟨#[]⟩, []⟩
 | n + 1, t => ⟨0, ⟨#[]⟩, if t.f0 = 14 then t.f2.map (zeroT n) else if (t.f0 == 15 || t.f0 == 18) = true then (t.f2.take 1).map (zeroT n) else []⟩
/-- A kind that has a first part has parts. -/
def hasB : Nat → S52 → Bool
 | 0, _ => true
 | n + 1, t => (!(t.f0 == 15 || t.f0 == 18) || decide (0 < t.f2.length)) && t.f2.all (hasB n)
def zeroT.T7 : Bool × List (List Nat × List Nat) := (true, [([], []), ([], []), ([1], [1]), ([2], [2]), ([3], [3]), ([], []), ([5], [5]), ([6], [6]), ([4, 7, 6], [4, 7]), ([0, 0, 1, 2, 3, 4, 5, 6, 7, 8], [0]), ([9, 0, 1, 2, 3, 4, 5, 6, 7, 8], [9]), ([10, 8, 8, 0, 1, 2, 3, 4, 5, 6, 7, 8], [8, 10])])
def zeroT.B7 : List Nat := [0, 0, 2, 6, 14, 0, 32, 96, 254, 511, 1023, 2047]
theorem zeroT.tab7 : rtab .any (opsOf Try.f50 7) = zeroT.T7 := by kernel_rfl
theorem zeroT.bits7 : waitsOk zeroT.T7.2 zeroT.B7 = true := by kernel_rfl

set_option maxHeartbeats 8000000 in
set_option maxRecDepth 100000 in
theorem zero_any (n : Nat) : n ≤ 12 → ∀ (t : S52) (b o : Nat) (w : World), TreeAt w n b o t → hasB n t = true →
  Calls Try.prog 50 #[.pointer (some ⟨b, o, none⟩)] w fun e w' => ∃ g : Nat, e = .returned (.pointer (some ⟨g, 0, none⟩)) ∧ kD.M w' w.heap.size (fun _ => True) (zeroT n t) [.pointer (some ⟨g, 0, none⟩)] ∧ Below w.heap.size w w' := by
 induction n with
 | zero => intro hn t b o w h; exact h.elim
 | succ n ih =>
  intro hn t b o w h hh
  have hu98 := Try.underlying98
  have hu81 := Try.underlying81
  obtain ⟨h0, h1, hl, A, c, h2, hc, hk⟩ := h
  rw [hasB, Bool.and_eq_true] at hh
  have HH := Aside0.mk hh
  clear hh
  by_cases hr : t.f0 = 14
  ·
   have k1 : (t.f0 == 14) = true := beq_iff_eq.2 hr
   have E : zeroT (n + 1) t = ⟨0, ⟨#[]⟩, t.f2.map (zeroT n)⟩ := by rw [zeroT, if_pos hr]
   rw [E]; clear E hr
   go_enter Try.func50, Try.ntmps50
   go_wp2_with (first | ((with_reducible refine gate_dst (N := 7) rfl ?_); refine box_event ?hg (N := 7) ?hd (cs := #[.int .i64 0, .string ⟨#[]⟩, .slice none 0 0]) (t := 98) ?hr ?_; (case hd => rfl); (case hg => rfl); (case hr => first | (go_simp; done) | (go_simp; rfl)); intro g0 hg w0 hbox hb; have BK := Aside0.mk hbox; have HB := Aside0.mk hb; have GE := Aside0.mk (show w.heap.size ≤ g0 from Nat.le_of_eq hg.symm); have y0 := (hb.cell (World.block_lt_of_cell? w _ h0)).trans h0; have y2 := (hb.cell (World.block_lt_of_cell? w _ h2)).trans h2; clear hbox hb hg))
   go_loopg [19] t.f2.length (fun kq v19 w' => ∃ (j : Nat) (vk : Value), j + kq = t.f2.length ∧ v19 = .int .i64 j ∧ Aside0 (w'.heap[g0]? = some (.cells #[.int .i64 0, .string ⟨#[]⟩, vk] 98 (0, 0))) ∧ Aside0 (kD.R 70 w' w.heap.size (fun k => k ≠ g0) vk ((t.f2.take j).map (zeroT n))) ∧ Aside0 (Below w.heap.size w w'))
   case atStart => exact ⟨0, _, by omega, rfl, ⟨BK.out⟩, ⟨Kd.R_nil _ _ _ _ _⟩, ⟨HB.out⟩⟩
   case round =>
    clear y0 y2 BK HB
    obtain ⟨j, vk, hj, rfl, BK, HO, HB⟩ := hrel
    by_cases hlt : j < t.f2.length
    ·
     obtain ⟨ad, pb, po, hA, hp, hT⟩ := hk j t.f2[j] (List.getElem?_eq_getElem hlt)
     subst hA
     have gp := (HB.out.cell (World.block_lt_of_cell? w _ hp)).trans hp
     have HT := Aside0.mk (treeAt_below HB.out hT)
     have HHX := Aside0.mk (List.all_eq_true.1 HH.out.2 _ (List.getElem_mem hlt))
     clear hp hT hk h0 h1 h2
     try go_wp2
     have n0_ := Aside0.mk (Kd.R_drew HO.out); have n1_ := Aside0.mk (blk_drew BK.out); have n2_ := Aside0.mk (below_drew1 HB.out); have n3_ := Aside0.mk (treeAt_below (below_drew1 (Below.refl _ _)) HT.out); clear HO BK HB HT; have HO := n0_; have BK := n1_; have HB := n2_; have HT := n3_; clear n0_ n1_ n2_ n3_
     refine start_ (n := 12) (S := fun w' => w'.cell? ⟨g0, 2, none⟩ = some vk) (ds := [11]) #[false, false, false, false, false, false, false, false, false, false, false, false] (by kernel_rfl) rfl rfl ((blk_cell BK.out 2).trans rfl) (fun hHeld => ?_); refine with_tabW zeroT.tab7 zeroT.bits7 (fun HT_ HW_ => ?_)
     generalize wr.drew = wd at HO BK HB HT hHeld ⊢
     refine pure_ (i := 0) (N := some 23) (v := ?_) (a' := ?_) #[true, false, false, false, false, false, false, false, false, false, false, false] rfl rfl (any_of HT_.out (by kernel_rfl)) (fun _ _ _ h => h) (Or.inl ⟨by rfl, ?_⟩) ?_ ?_
     rotate_left
     ·
      intro w'
      go_simp
      with_reducible rfl
     rotate_left
     ·
      simp only [Act.put, List.setIfInBounds_toArray, List.set_cons_zero, List.set_cons_succ, i64_w, i32_w]
      rfl
     refine pure_ (i := 1) (N := some 24) (v := ?_) (a' := ?_) #[true, true, false, false, false, false, false, false, false, false, false, false] rfl rfl (any_of HT_.out (by kernel_rfl)) (fun _ _ _ h => h) (Or.inl ⟨by rfl, ?_⟩) ?_ ?_
     rotate_left
     ·
      intro w'
      go_simp
      with_reducible rfl
     rotate_left
     ·
      simp only [Act.put, List.setIfInBounds_toArray, List.set_cons_zero, List.set_cons_succ, i64_w, i32_w]
      rfl
     refine pure_ (i := 2) (N := some 25) (v := ?_) (a' := ?_) #[true, true, true, false, false, false, false, false, false, false, false, false] rfl rfl (any_of HT_.out (by kernel_rfl)) (fun _ _ _ h => h) (Or.inl ⟨by rfl, ?_⟩) ?_ ?_
     rotate_left
     ·
      intro w'
      go_simp
      with_reducible rfl
     rotate_left
     ·
      simp only [Act.put, List.setIfInBounds_toArray, List.set_cons_zero, List.set_cons_succ, i64_w, i32_w]
      rfl
     refine pure_ (i := 3) (N := some 26) (v := ?_) (a' := ?_) #[true, true, true, true, false, false, false, false, false, false, false, false] rfl rfl (any_of HT_.out (by kernel_rfl)) (fun _ _ _ h => h) (Or.inl ⟨by rfl, ?_⟩) ?_ ?_
     rotate_left
     ·
      intro w'
      go_simp
      with_reducible rfl
     rotate_left
     ·
      simp only [Act.put, List.setIfInBounds_toArray, List.set_cons_zero, List.set_cons_succ, i64_w, i32_w]
      rfl
     refine pure_ (i := 5) (N := some 28) (v := ?_) (a' := ?_) #[true, true, true, true, false, true, false, false, false, false, false, false] rfl rfl (any_of HT_.out (by kernel_rfl)) (fun _ _ _ h => h) (Or.inl ⟨by rfl, ?_⟩) ?_ ?_
     rotate_left
     ·
      intro w'
      go_simp
      with_reducible rfl
     rotate_left
     ·
      simp only [Act.put, List.setIfInBounds_toArray, List.set_cons_zero, List.set_cons_succ, i64_w, i32_w]
      rfl
     refine take_ (i := 4) (N := some 27) (v := ?_) (a' := ?_) #[true, true, true, true, true, true, false, false, false, false, false, false] rfl rfl (take_ofW HT_.out HW_.out (by kernel_rfl)) (fun _ _ _ h => h) (Or.inl ⟨by rfl, ?_⟩) hHeld ?_ ?_
     rotate_left
     ·
      intro w' s0
      go_simp
      with_reducible rfl
     rotate_left
     ·
      simp only [Act.put, List.setIfInBounds_toArray, List.set_cons_zero, List.set_cons_succ, i64_w, i32_w]
      rfl
     refine one_ (i := 6) (N := some 29) #[true, true, true, true, true, true, true, false, false, false, false, false] rfl rfl (one_of HT_.out (by kernel_rfl)) (by decide) (fun K hK => ?_)
     refine goes_ Try.func50 (by kernel_rfl) rfl #[.pointer (some ⟨pb, po, none⟩)] (by rfl) rfl rfl (by (try simp only [List.map_toArray, List.map_cons, List.map_nil]); first | done | rfl) ?_
     refine (ih (by omega) t.f2[j] pb po _ HT.out HHX.out).mono ?_
     rintro e w1 ⟨g, rfl, hM, hb⟩
     refine ⟨_, rfl, ?_⟩
     have n0_ := Aside0.mk (Kd.R_below HO.out hb)
     have n1_ := Aside0.mk ((hb.block g0 (blk_lt BK.out)).trans BK.out)
     have n2_ := Aside0.mk (HB.out.trans (hb.mono HB.out.size))
     have n3_ := Aside0.mk (show kD.M w1 w.heap.size (fun k => k ≠ g0 ∧ some k ≠ vk.ownBlock) (zeroT n t.f2[j]) [.pointer (some ⟨g, 0, none⟩)] from kD.M_lower HB.out.size (kD.M_mono (fun k hk => ⟨fun e => by have := blk_lt BK.out; have := hk.2.1; omega, fun e => by have := Kd.R_lt HO.out k e.symm; have := hk.2.1; omega⟩) (kD.M_bound hM)))
     clear HO BK HB hM hb hHeld; have HO := n0_; have BK := n1_; have HB := n2_; have HM := n3_; clear n0_ n1_ n2_ n3_
     refine hK.out _ _ ((blk_cell BK.out 2).trans rfl) (fun hHeld => ?_)
     clear hK K
     refine norm_ (a' := ?_) ?_ ?_
     rotate_left
     ·
      show Act.put _ (some 29) _ = _
      simp only [Act.put, List.setIfInBounds_toArray, List.set_cons_zero, List.set_cons_succ, i64_w, i32_w]
      rfl
     refine one_ (i := 7) (N := some 30) #[true, true, true, true, true, true, true, true, false, false, false, false] rfl rfl (one_of HT_.out (by kernel_rfl)) (by decide) (fun K hK => ?_)
     refine value_ (w1 := ?_) (v := ?_) (by rfl) rfl ?_ ?_
     rotate_left 2
     ·
      go_simp
      constructor
      ·
       rfl
      ·
       rfl
     refine hK.out _ _ ((blk_cell (blk_alloc BK.out _) 2).trans rfl) (fun hHeld => ?_)
     clear hK K
     refine norm_ (a' := ?_) ?_ ?_
     rotate_left
     ·
      show Act.put _ (some 30) _ = _
      simp only [Act.put, List.setIfInBounds_toArray, List.set_cons_zero, List.set_cons_succ, i64_w, i32_w]
      rfl
     refine one_ (i := 8) (N := some 31) #[true, true, true, true, true, true, true, true, true, false, false, false] rfl rfl (one_of HT_.out (by kernel_rfl)) (by decide) (fun K hK => ?_)
     refine Kd.R_append_step kD (w0 := w) w.heap.size (by rfl) (.tmp 27) (.tmp 30) 96 70 (.pointer none) 8 rfl Try.underlying96 info70 rfl (show 0 < 1 from Nat.one_pos) (by omega) vk ((t.f2.take j).map (zeroT n)) (zeroT n t.f2[j]) [.pointer (some ⟨g, 0, none⟩)] (fun k => k ≠ g0) (fun k => k ≠ g0 ∧ some k ≠ vk.ownBlock) rfl rfl ?aP (fun _ hk => hk) ?aF ?aO ?aB ?aS ?aL ?_
     (case aP => exact HM.out)
     (case aB => exact HB.out)
     (case aF => exact (fun k_ hk e => by have := blk_lt BK.out; omega))
     (case aO => exact HO.out)
     (case aS => exact HB.out.size)
     (case aL => rw [List.length_map, List.length_take]; omega)
     intro v2 w2 ho hb hg hat
     have n0_ := Aside0.mk (blk_grown BK.out hg (Kd.R_away HO.out (fun _ hk => hk)))
     have n1_ := Aside0.mk hb
     have n2_ := Aside0.mk (show kD.R 70 w2 w.heap.size (fun k => k ≠ g0) v2 ((t.f2.take (j + 1)).map (zeroT n)) from by rw [List.take_succ_eq_append_getElem hlt, List.map_append]; exact ho)
     clear HO BK HB HM ho hb hg hat hHeld; have HO := n2_; have BK := n0_; have HB := n1_; clear n0_ n1_ n2_
     obtain ⟨Ao, co, eo⟩ := Kd.R_slice HO.out
     rw [List.length_map, List.length_take, Nat.min_eq_left (by omega)] at eo
     subst eo
     refine hK.out _ _ ((blk_cell BK.out 2).trans rfl) (fun hHeld => ?_)
     clear hK K
     refine norm_ (a' := ?_) ?_ ?_
     rotate_left
     ·
      show Act.put _ (some 31) _ = _
      simp only [Act.put, List.setIfInBounds_toArray, List.set_cons_zero, List.set_cons_succ, i64_w, i32_w]
      rfl
     refine pure_ (i := 9) (N := some 32) (v := ?_) (a' := ?_) #[true, true, true, true, true, true, true, true, true, true, false, false] rfl rfl (any_of HT_.out (by kernel_rfl)) (fun _ _ _ h => h) (Or.inl ⟨by rfl, ?_⟩) ?_ ?_
     rotate_left
     ·
      intro w'
      go_simp
      with_reducible rfl
     rotate_left
     ·
      simp only [Act.put, List.setIfInBounds_toArray, List.set_cons_zero, List.set_cons_succ, i64_w, i32_w]
      rfl
     refine pure_ (i := 10) (N := some 33) (v := ?_) (a' := ?_) #[true, true, true, true, true, true, true, true, true, true, true, false] rfl rfl (any_of HT_.out (by kernel_rfl)) (fun _ _ _ h => h) (Or.inl ⟨by rfl, ?_⟩) ?_ ?_
     rotate_left
     ·
      intro w'
      go_simp
      with_reducible rfl
     rotate_left
     ·
      simp only [Act.put, List.setIfInBounds_toArray, List.set_cons_zero, List.set_cons_succ, i64_w, i32_w]
      rfl
     refine last_ (i := 11) (N := none) #[true, true, true, true, true, true, true, true, true, true, true, true] rfl rfl (one_of HT_.out (by kernel_rfl)) (by decide) (fun K hK => ?_)
     have hs0 : w2.cell? ⟨g0, 2, none⟩ = some vk := (blk_cell BK.out 2).trans rfl
     have hf0 := blk_frozen BK.out 2
     refine skip_ (w1 := ?_) (by rfl) rfl ?_ ?_
     rotate_left
     ·
      go_simp
      rfl
     refine hK.out _ _ ?_
     clear hK K
     refine done_ (done_of HT_.out (by kernel_rfl)) ?_
     try go_wp2
     go_roundg (t.f2.length - (j + 1))
     case measure => omega
     case rel => exact ⟨j + 1, _, by omega, by go_num, ⟨blk_put (cs := #[.int .i64 0, .string ⟨#[]⟩, vk]) BK.out 2 _ rfl⟩, ⟨Kd.R_far HO.out (fun _ hk => hk) _⟩, ⟨below_set HB.out GE.out⟩⟩
    ·
     obtain rfl : j = t.f2.length := by omega
     rw [List.take_length] at HO
     clear hk h0 h1 h2
     go_wp2
     go_ret
     exact ⟨g0, rfl, kD_mkM (x := ⟨0, ⟨#[]⟩, t.f2.map (zeroT n)⟩) GE.out trivial BK.out (Kd.R_mono HO.out (fun _ _ => trivial)), HB.out⟩
  have k1 : (t.f0 == 14) = false := beq_eq_false_iff_ne.2 hr
  by_cases hv : (t.f0 == 15 || t.f0 == 18) = true
  ·
   have hpos : 0 < t.f2.length := by have := HH.out.1; rw [hv] at this; simpa using this
   obtain ⟨x, xs, hxs⟩ : ∃ x xs, t.f2 = x :: xs := by
    cases e : t.f2 with
    | nil => rw [e] at hpos; exact absurd hpos (by simp)
    | cons x xs => exact ⟨x, xs, rfl⟩
   have E : zeroT (n + 1) t = ⟨0, ⟨#[]⟩, [zeroT n x]⟩ := by rw [zeroT, if_neg hr, if_pos hv, hxs]; rfl
   rw [E]; clear E
   obtain ⟨ad, pb, po, hA, hp, hT⟩ := hk 0 x (by rw [hxs]; rfl)
   subst hA
   have HT0 := Aside0.mk hT
   have HHX := Aside0.mk (List.all_eq_true.1 HH.out.2 x (by rw [hxs]; exact List.mem_cons_self))
   have hpb : decide (0 < t.f2.length) = true := decide_eq_true hpos
   have hpb2 : decide ((0 : Int) < (t.f2.length : Int)) = true := decide_eq_true (by omega)
   have hpt : (0 < t.f2.length) = True := eq_true hpos
   clear hT hk hxs
   by_cases c15 : t.f0 = 15
   ·
    have k2 : (t.f0 == 15) = true := beq_iff_eq.2 c15
    clear c15 hv hr
    go_enter Try.func50, Try.ntmps50
    go_wp2_with (first | ((with_reducible refine gate_dst (N := 7) rfl ?_); refine box_event ?hg (N := 7) ?hd (cs := #[.int .i64 0, .string ⟨#[]⟩, .slice none 0 0]) (t := 98) ?hr ?_; (case hd => rfl); (case hg => rfl); (case hr => first | (go_simp; done) | (go_simp; rfl)); intro g0 hg w0 hbox hb; have BK := Aside0.mk hbox; have HB := Aside0.mk hb; have GE := Aside0.mk (show w.heap.size ≤ g0 from Nat.le_of_eq hg.symm); have y0 := (hb.cell (World.block_lt_of_cell? w _ h0)).trans h0; have y2 := (hb.cell (World.block_lt_of_cell? w _ h2)).trans h2; have yp : w0.cell? ad = some (.pointer (some ⟨pb, po, none⟩)) := (hb.cell (World.block_lt_of_cell? w _ hp)).trans hp; have HT := Aside0.mk (treeAt_below hb HT0.out); clear hbox hb hg) | (go_at_call 50; refine (ih (by omega) x pb po _ HT.out HHX.out).mono ?_; rintro e w1 ⟨g, rfl, hM, hb⟩; have n1_ := Aside0.mk ((hb.block g0 (blk_lt BK.out)).trans BK.out); have n2_ := Aside0.mk (HB.out.trans (hb.mono HB.out.size)); have n3_ := Aside0.mk (show kD.M w1 w.heap.size (fun k => k ≠ g0) (zeroT n x) [.pointer (some ⟨g, 0, none⟩)] from kD.M_lower HB.out.size (kD.M_mono (fun k hk e => by have := blk_lt BK.out; have := hk.2.1; omega) (kD.M_bound hM))); clear BK HB HT hM hb y0 y2 yp; have BK := n1_; have HB := n2_; have HM := n3_; clear n1_ n2_ n3_) | ((with_reducible refine gate_dst (N := 46) rfl ?_); refine Kd.R_lit kD (w0 := w) w.heap.size 70 ?hg (N := 46) ?hd (xs := [zeroT n x]) (inner := [.pointer (some ⟨g, 0, none⟩)]) (ok := fun k => k ≠ g0) (okp := fun k => k ≠ g0) ?hr ?hp (fun _ hk => hk) (fun e => by have := blk_lt BK.out; omega) HB.out HB.out.size (by simp) ?_; (case hd => rfl); (case hg => rfl); (case hr => first | (go_simp; done) | (go_simp; rfl)); (case hp => exact (Reps.one HM.out (Reps.none _ _))); intro v2 w2 ho hb hg_ hnew_; have n1_ := Aside0.mk (blk_grown BK.out hg_ (by simp)); have n2_ := Aside0.mk hb; clear BK HB HM hb hg_ hnew_; have BK := n1_; have HB := n2_; have HO := Aside0.mk ho; clear n1_ n2_ ho; obtain ⟨Ao, co, eo⟩ := Kd.R_slice HO.out; subst eo; have z2 : w2.cell? ⟨g0, 2, none⟩ = some (.slice none 0 0) := (blk_cell BK.out 2).trans rfl; have f2 := blk_frozen BK.out 2) | ((with_reducible refine gate_store (t := 96) (p := 48) rfl ?_); refine store_event (t := 96) (p := 48) (v := ?vo_a) (w1 := (w2.setCell ⟨g0, 2, none⟩ (.slice Ao 1 co))) ?hg ?ho ?hn ?hr ?_; (case ho => rfl); (case hg => rfl); (case hn => rfl); (case hr => first | (go_simp; done) | (go_simp; rfl)); intro w3 hw; have n1_ : Aside0 (w3.heap[g0]? = some (.cells #[.int .i64 0, .string ⟨#[]⟩, .slice Ao 1 co] 98 (0, 0))) := ⟨by rw [hw]; exact blk_put (cs := #[.int .i64 0, .string ⟨#[]⟩, .slice none 0 0]) BK.out 2 _ rfl⟩; have n2_ : Aside0 (kD.R 70 w3 w.heap.size (fun k => k ≠ g0) (.slice Ao 1 co) [zeroT n x]) := ⟨by rw [hw]; exact Kd.R_far HO.out (fun _ hk => hk) _⟩; have n3_ : Aside0 (Below w.heap.size w w3) := ⟨by rw [hw]; exact below_set HB.out GE.out⟩; clear BK HO HB hw z2 f2; have BK := n1_; have HO := n2_; have HB := n3_; clear n1_ n2_ n3_))
    go_ret
    exact ⟨g0, rfl, kD_mkM (x := ⟨0, ⟨#[]⟩, [zeroT n x]⟩) GE.out trivial BK.out (Kd.R_mono HO.out (fun _ _ => trivial)), HB.out⟩
   ·
    have k2 : (t.f0 == 15) = false := beq_eq_false_iff_ne.2 c15
    have k3 : (t.f0 == 18) = true := by rw [k2, Bool.false_or] at hv; exact hv
    clear c15 hv hr
    go_enter Try.func50, Try.ntmps50
    go_wp2_with (first | ((with_reducible refine gate_dst (N := 7) rfl ?_); refine box_event ?hg (N := 7) ?hd (cs := #[.int .i64 0, .string ⟨#[]⟩, .slice none 0 0]) (t := 98) ?hr ?_; (case hd => rfl); (case hg => rfl); (case hr => first | (go_simp; done) | (go_simp; rfl)); intro g0 hg w0 hbox hb; have BK := Aside0.mk hbox; have HB := Aside0.mk hb; have GE := Aside0.mk (show w.heap.size ≤ g0 from Nat.le_of_eq hg.symm); have y0 := (hb.cell (World.block_lt_of_cell? w _ h0)).trans h0; have y2 := (hb.cell (World.block_lt_of_cell? w _ h2)).trans h2; have yp : w0.cell? ad = some (.pointer (some ⟨pb, po, none⟩)) := (hb.cell (World.block_lt_of_cell? w _ hp)).trans hp; have HT := Aside0.mk (treeAt_below hb HT0.out); clear hbox hb hg) | (go_at_call 50; refine (ih (by omega) x pb po _ HT.out HHX.out).mono ?_; rintro e w1 ⟨g, rfl, hM, hb⟩; have n1_ := Aside0.mk ((hb.block g0 (blk_lt BK.out)).trans BK.out); have n2_ := Aside0.mk (HB.out.trans (hb.mono HB.out.size)); have n3_ := Aside0.mk (show kD.M w1 w.heap.size (fun k => k ≠ g0) (zeroT n x) [.pointer (some ⟨g, 0, none⟩)] from kD.M_lower HB.out.size (kD.M_mono (fun k hk e => by have := blk_lt BK.out; have := hk.2.1; omega) (kD.M_bound hM))); clear BK HB HT hM hb y0 y2 yp; have BK := n1_; have HB := n2_; have HM := n3_; clear n1_ n2_ n3_) | ((with_reducible refine gate_dst (N := 46) rfl ?_); refine Kd.R_lit kD (w0 := w) w.heap.size 70 ?hg (N := 46) ?hd (xs := [zeroT n x]) (inner := [.pointer (some ⟨g, 0, none⟩)]) (ok := fun k => k ≠ g0) (okp := fun k => k ≠ g0) ?hr ?hp (fun _ hk => hk) (fun e => by have := blk_lt BK.out; omega) HB.out HB.out.size (by simp) ?_; (case hd => rfl); (case hg => rfl); (case hr => first | (go_simp; done) | (go_simp; rfl)); (case hp => exact (Reps.one HM.out (Reps.none _ _))); intro v2 w2 ho hb hg_ hnew_; have n1_ := Aside0.mk (blk_grown BK.out hg_ (by simp)); have n2_ := Aside0.mk hb; clear BK HB HM hb hg_ hnew_; have BK := n1_; have HB := n2_; have HO := Aside0.mk ho; clear n1_ n2_ ho; obtain ⟨Ao, co, eo⟩ := Kd.R_slice HO.out; subst eo; have z2 : w2.cell? ⟨g0, 2, none⟩ = some (.slice none 0 0) := (blk_cell BK.out 2).trans rfl; have f2 := blk_frozen BK.out 2) | ((with_reducible refine gate_store (t := 96) (p := 48) rfl ?_); refine store_event (t := 96) (p := 48) (v := ?vo_a) (w1 := (w2.setCell ⟨g0, 2, none⟩ (.slice Ao 1 co))) ?hg ?ho ?hn ?hr ?_; (case ho => rfl); (case hg => rfl); (case hn => rfl); (case hr => first | (go_simp; done) | (go_simp; rfl)); intro w3 hw; have n1_ : Aside0 (w3.heap[g0]? = some (.cells #[.int .i64 0, .string ⟨#[]⟩, .slice Ao 1 co] 98 (0, 0))) := ⟨by rw [hw]; exact blk_put (cs := #[.int .i64 0, .string ⟨#[]⟩, .slice none 0 0]) BK.out 2 _ rfl⟩; have n2_ : Aside0 (kD.R 70 w3 w.heap.size (fun k => k ≠ g0) (.slice Ao 1 co) [zeroT n x]) := ⟨by rw [hw]; exact Kd.R_far HO.out (fun _ hk => hk) _⟩; have n3_ : Aside0 (Below w.heap.size w w3) := ⟨by rw [hw]; exact below_set HB.out GE.out⟩; clear BK HO HB hw z2 f2; have BK := n1_; have HO := n2_; have HB := n3_; clear n1_ n2_ n3_))
    go_ret
    exact ⟨g0, rfl, kD_mkM (x := ⟨0, ⟨#[]⟩, [zeroT n x]⟩) GE.out trivial BK.out (Kd.R_mono HO.out (fun _ _ => trivial)), HB.out⟩
  ·
   have k2 : (t.f0 == 15) = false := by cases e1 : (t.f0 == 15) <;> simp_all
   have k3 : (t.f0 == 18) = false := by cases e1 : (t.f0 == 18) <;> simp_all
   have E : zeroT (n + 1) t = ⟨0, ⟨#[]⟩, []⟩ := by rw [zeroT, if_neg hr, if_neg hv]
   rw [E]; clear E hr hv hk
   go_enter Try.func50, Try.ntmps50
   go_wp2_with (first | ((with_reducible refine gate_dst (N := 7) rfl ?_); refine box_event ?hg (N := 7) ?hd (cs := #[.int .i64 0, .string ⟨#[]⟩, .slice none 0 0]) (t := 98) ?hr ?_; (case hd => rfl); (case hg => rfl); (case hr => first | (go_simp; done) | (go_simp; rfl)); intro g0 hg w0 hbox hb; have BK := Aside0.mk hbox; have HB := Aside0.mk hb; have GE := Aside0.mk (show w.heap.size ≤ g0 from Nat.le_of_eq hg.symm); have y0 := (hb.cell (World.block_lt_of_cell? w _ h0)).trans h0; have y2 := (hb.cell (World.block_lt_of_cell? w _ h2)).trans h2; clear hbox hb hg))
   go_ret
   exact ⟨g0, rfl, kD_mkM (x := ⟨0, ⟨#[]⟩, []⟩) GE.out trivial BK.out (Kd.R_nil _ _ _ _ _), HB.out⟩


end Go.Proofs.Ytlgegdgilkaldaa.Q

namespace Go.Proofs.Ytlgegdgilkaldaa.Q
open Go.RowKit Go.Proofs.YtlgegdgilkaldaaW.PrintWords Go.Proofs.YtlgegdgilkaldaaW.PrintLast Go.Proofs.YtlgegdgilkaldaaW.PrintMore
attribute [local go_sem] max2_int min2_int max_two min_two max_three min_three max_four min_four   -- for this text's walks alone
set_option linter.unusedVariables false
set_option linter.unusedSimpArgs false


/-! ### impl_ZeroOf: function 23 (walked by hand) -/
theorem few_zeroT {w : World} : ∀ {n b o : Nat} {t : S52}, TreeAt w n b o t → fewV (n + 1) (zeroT n t) = true
 | 0, _, _, _, h => h.elim
 | n + 1, b, o, t, ⟨h0, h1, hl, A, c, h2, hc, hk⟩ => by
  have hx : ∀ x ∈ t.f2, fewV (n + 1) (zeroT n x) = true := fun x hx => by
   obtain ⟨i, hi⟩ := List.mem_iff_getElem?.1 hx
   obtain ⟨ad, pb, po, hA, hp, hT⟩ := hk i x hi
   exact few_zeroT hT
  rw [fewV, Bool.and_eq_true]
  unfold zeroT
  refine ⟨decide_eq_true ?_, List.all_eq_true.2 ?_⟩
  ·
   show (if t.f0 = 14 then t.f2.map (zeroT n) else if (t.f0 == 15 || t.f0 == 18) = true then (t.f2.take 1).map (zeroT n) else []).length ≤ 8
   split
   ·
    rw [List.length_map]; exact hl
   ·
    split
    ·
     rw [List.length_map, List.length_take]; omega
    ·
     simp
  ·
   intro y hy
   have hy : y ∈ (if t.f0 = 14 then t.f2.map (zeroT n) else if (t.f0 == 15 || t.f0 == 18) = true then (t.f2.take 1).map (zeroT n) else []) := hy
   split at hy
   ·
    obtain ⟨x, hx2, rfl⟩ := List.mem_map.1 hy
    exact hx x hx2
   ·
    split at hy
    ·
     obtain ⟨x, hx2, rfl⟩ := List.mem_map.1 hy
     exact hx x (List.mem_of_mem_take hx2)
    ·
     cases hy
def impl_ZeroOf.f (k : Nat) (l0 : List S46) : Option (List S75 × Bool) := (shapeF k l0).bind fun r => match r with | none => some ([], false) | some t => if hasB 9 t = true then some (dnodesN 10 [] (zeroT 9 t) (-1), true) else none
theorem impl_ZeroOf.mono : ∀ a0 k, LeO (impl_ZeroOf.f k a0) (impl_ZeroOf.f (k + 1) a0) := fun l k => LeO.bind (shapeF.mono l k) (fun _ => LeO.refl _)
set_option maxHeartbeats 4000000 in
set_option maxRecDepth 100000 in
theorem impl_ZeroOf.calls (k : Nat) (A0 : Option Addr) (c0 : Nat) (l0 : List (S46)) (r1 : List (S75)) (r2 : Bool) (w : World) (hr0 : Kd.C k46 w A0 l0.length l0) (hc0 : l0.length ≤ c0) (h : impl_ZeroOf.f k l0 = some (r1, r2)) :
  Calls Try.prog 23 #[.slice A0 l0.length c0] w fun e w' => ∃ v0_ : Value, e = .returned (.tuple #[v0_, .bool r2]) ∧ Kd.R k75 75 w' w.heap.size (fun _ => True) v0_ r1 ∧ Below w.heap.size w w' := by
 obtain ⟨r, hs, h⟩ := Option.bind_eq_some_iff.1 h
 cases r with
 | none =>
  obtain ⟨rfl, rfl⟩ := Prod.mk.inj (Option.some.inj h)
  clear h
  go_enter Try.func23, Try.ntmps23
  go_wp2_with (first | (go_at_call 41; refine (shape_no k A0 c0 l0 _ hr0 hc0 hs).mono ?_; rintro e w' ⟨rfl, hb⟩; have HB := Aside0.mk hb; clear hb))
  go_ret2
  exact ⟨_, rfl, Kd.R_nil _ _ _ _ _, HB.out⟩
 | some t =>
  by_cases hm : hasB 9 t = true
  ·
   have h' : some (dnodesN 10 [] (zeroT 9 t) (-1), true) = some (r1, r2) := by rw [← h]; exact (if_pos hm).symm
   obtain ⟨rfl, rfl⟩ := Prod.mk.inj (Option.some.inj h')
   clear h h'
   go_enter Try.func23, Try.ntmps23
   go_wp2_with (first
    | (go_at_call 41; refine (shape_yes k A0 c0 l0 t _ hr0 hc0 hs).mono ?_; rintro e w' ⟨g, rfl, ht, hb⟩; have HT := Aside0.mk ht; have HB := Aside0.mk hb; clear ht hb)
    | (go_at_call 50; refine (zero_any 9 (by decide) t g 0 _ HT.out hm).mono ?_; rintro e w' ⟨g2, rfl, hM, hb⟩; have HF := Aside0.mk (few_zeroT HT.out); have n0_ := Aside0.mk (HB.out.trans (hb.mono HB.out.size)); have HM := Aside0.mk (kD.K_of_M hM); clear HB HT hM hb; have HB := n0_; clear n0_)
    | (go_at_call 51; refine (dnodes_any 10 (by decide) (zeroT 9 t) g2 (-1) [] _ _ _ HF.out HM.out (Below.refl _ _) (Kd.R_nil _ _ _ _ _) (by decide)).mono ?_; rintro e w' ⟨v0, rfl, ho, hb⟩; have n0_ := Aside0.mk (HB.out.trans (hb.mono HB.out.size)); have n1_ := Aside0.mk (Kd.R_lower ho HB.out.size); clear HB HM HF hb ho; have HB := n0_; have HO := n1_; clear n0_ n1_; obtain ⟨Ao, co, eo⟩ := Kd.R_slice HO.out; subst eo))
   go_ret2
   exact ⟨_, rfl, HO.out, HB.out⟩
  ·
   have h' : (none : Option (List S75 × Bool)) = some (r1, r2) := by rw [← h]; exact (if_neg hm).symm
   cases h'


end Go.Proofs.Ytlgegdgilkaldaa.Q

namespace Go.Proofs.Ytlgegdgilkaldaa.Q
open Go.RowKit Go.Proofs.YtlgegdgilkaldaaW.PrintWords Go.Proofs.YtlgegdgilkaldaaW.PrintLast Go.Proofs.YtlgegdgilkaldaaW.PrintMore
attribute [local go_sem] max2_int min2_int max_two min_two max_three min_three max_four min_four   -- for this text's walks alone
set_option linter.unusedVariables false
set_option linter.unusedSimpArgs false

/-! ### laws_eqValue: function 52 -/
def laws_eqValue.f (a0_0 : Int) (a0_1 : ByteArray) (a0_2 : Int) (a1_0 : Int) (a1_1 : ByteArray) (a1_2 : Int) : Option (Bool) := if a0_0 = a1_0 then (if a0_1.toList = a1_1.toList then (if a0_2 = a1_2 then (some true) else (some false)) else (some false)) else (some false)
set_option maxHeartbeats 8000000 in
set_option maxRecDepth 100000 in
theorem laws_eqValue.calls (a0_0 : Int) (a0_1 : ByteArray) (a0_2 : Int) (a1_0 : Int) (a1_1 : ByteArray) (a1_2 : Int) (r : Bool) (w : World) (h : laws_eqValue.f a0_0 a0_1 a0_2 a1_0 a1_1 a1_2 = some r) :
  Calls Try.prog 52 #[.agg #[.int .i64 a0_0, .string a0_1, .int .i64 a0_2], .agg #[.int .i64 a1_0, .string a1_1, .int .i64 a1_2]] w fun e w' => e = .returned (.bool r) ∧ Below w.heap.size w w' := by
 have hu75 := Try.underlying75
 have HB := Aside0.mk (Below.refl w.heap.size w)
 have H : (if a0_0 = a1_0 then (if a0_1.toList = a1_1.toList then (if a0_2 = a1_2 then (some true) else (some false)) else (some false)) else (some false)) = some r := h
 clear h
 by_cases c3 : a0_0 = a1_0
 ·
  rw [if_pos c3] at H
  have c3b0 : (a0_0 == a1_0) = true := beq_iff_eq.mpr c3
  have c3b1 : (a0_0 != a1_0) = false := bne_eq_false_iff_eq.mpr c3
  clear c3
  by_cases c4 : a0_1.toList = a1_1.toList
  ·
   rw [if_pos c4] at H
   have c4b0 : (a0_1.toList == a1_1.toList) = true := beq_iff_eq.mpr c4
   have c4b1 : (a0_1.toList != a1_1.toList) = false := bne_eq_false_iff_eq.mpr c4
   clear c4
   by_cases c5 : a0_2 = a1_2
   ·
    rw [if_pos c5] at H
    have c5b0 : (a0_2 == a1_2) = true := beq_iff_eq.mpr c5
    have c5b1 : (a0_2 != a1_2) = false := bne_eq_false_iff_eq.mpr c5
    clear c5
    obtain rfl := Option.some.inj H
    simp only [Option.some.injEq, Prod.mk.injEq] at H
    obtain ⟨rfl⟩ := H
    go_enter Try.func52, Try.ntmps52
    go_wp2_with (first | ((with_reducible refine gate_dst (N := 2) rfl ?_); refine box_event ?hg (N := 2) ?hd (cs := #[.int .i64 a0_0, .string a0_1, .int .i64 a0_2]) (t := 75) ?hr ?_; (case hd => rfl); (case hg => rfl); (case hr => first | (go_simp; done) | (go_simp; rfl)); intro gb336 hg w6 hbox hb; have n0_ := Aside0.mk (below_step (bw HB.out) hb); have n1_ := Aside0.mk (hbox); have n2_ := Aside0.mk ((by rw [hg]; exact (below_size (bw HB.out)) : w.heap.size ≤ gb336)); have n3_ := Aside0.mk ((by rw [hg]; exact (below_size (bw HB.out)) : w.heap.size ≤ gb336)); clear HB; have HB := n0_; have BK336 := n1_; have GW336 := n2_; have GE336 := n3_; clear n0_ n1_ n2_ n3_; clear hb hbox hg) | ((with_reducible refine gate_dst (N := 3) rfl ?_); refine box_event ?hg (N := 3) ?hd (cs := #[.int .i64 a1_0, .string a1_1, .int .i64 a1_2]) (t := 75) ?hr ?_; (case hd => rfl); (case hg => rfl); (case hr => first | (go_simp; done) | (go_simp; rfl)); intro gb337 hg w7 hbox hb; have n0_ := Aside0.mk (blk_below (g := gb336) (o := .cells #[.int .i64 a0_0, .string a0_1, .int .i64 a0_2] 75 (0, 0)) (bk BK336.out) hb); have n1_ := Aside0.mk (below_step (bw HB.out) hb); have n2_ := Aside0.mk (hbox); have n3_ := Aside0.mk ((by rw [hg]; exact (below_size (bw HB.out)) : w.heap.size ≤ gb337)); have n4_ := Aside0.mk ((by rw [hg]; exact (below_size (bw HB.out)) : w.heap.size ≤ gb337)); have n5_ := Aside0.mk ((by rw [hg]; exact Nat.ne_of_lt (blk_lt (g := gb336) (o := .cells #[.int .i64 a0_0, .string a0_1, .int .i64 a0_2] 75 (0, 0)) (bk BK336.out)) : gb336 ≠ gb337)); have n6_ := Aside0.mk ((by rw [hg]; exact Nat.ne_of_gt (blk_lt (g := gb336) (o := .cells #[.int .i64 a0_0, .string a0_1, .int .i64 a0_2] 75 (0, 0)) (bk BK336.out)) : gb337 ≠ gb336)); clear BK336; clear HB; have BK336 := n0_; have HB := n1_; have BK337 := n2_; have GW337 := n3_; have GE337 := n4_; have NB336_337 := n5_; have NB337_336 := n6_; clear n0_ n1_ n2_ n3_ n4_ n5_ n6_; clear hb hbox hg; have hnb8 := NB336_337.out; have hnc8 := NB337_336.out; have hcz9_0 : w7.cell? ⟨gb336, 0, none⟩ = some (.int .i64 a0_0) := (blk_cell BK336.out 0).trans rfl; have hcz9_1 : w7.cell? ⟨gb336, 1, none⟩ = some (.string a0_1) := (blk_cell BK336.out 1).trans rfl; have hcz9_2 : w7.cell? ⟨gb336, 2, none⟩ = some (.int .i64 a0_2) := (blk_cell BK336.out 2).trans rfl; have hfz9_0 := blk_frozen BK336.out 0; have hfz9_1 := blk_frozen BK336.out 1; have hfz9_2 := blk_frozen BK336.out 2; have hcz10_0 : w7.cell? ⟨gb337, 0, none⟩ = some (.int .i64 a1_0) := (blk_cell BK337.out 0).trans rfl; have hcz10_1 : w7.cell? ⟨gb337, 1, none⟩ = some (.string a1_1) := (blk_cell BK337.out 1).trans rfl; have hcz10_2 : w7.cell? ⟨gb337, 2, none⟩ = some (.int .i64 a1_2) := (blk_cell BK337.out 2).trans rfl; have hfz10_0 := blk_frozen BK337.out 0; have hfz10_1 := blk_frozen BK337.out 1; have hfz10_2 := blk_frozen BK337.out 2))
    go_ret
    exact ⟨by first | rfl | (simp [errW_none, errW_some] <;> rfl) | (simp [*, errW_none, errW_some] <;> rfl), bw HB.out⟩
   ·
    rw [if_neg c5] at H
    have c5b0 : (a0_2 == a1_2) = false := beq_eq_false_iff_ne.mpr c5
    have c5b1 : (a0_2 != a1_2) = true := bne_iff_ne.mpr c5
    obtain rfl := Option.some.inj H
    simp only [Option.some.injEq, Prod.mk.injEq] at H
    obtain ⟨rfl⟩ := H
    go_enter Try.func52, Try.ntmps52
    go_wp2_with (first | ((with_reducible refine gate_dst (N := 2) rfl ?_); refine box_event ?hg (N := 2) ?hd (cs := #[.int .i64 a0_0, .string a0_1, .int .i64 a0_2]) (t := 75) ?hr ?_; (case hd => rfl); (case hg => rfl); (case hr => first | (go_simp; done) | (go_simp; rfl)); intro gb336 hg w11 hbox hb; have n0_ := Aside0.mk (below_step (bw HB.out) hb); have n1_ := Aside0.mk (hbox); have n2_ := Aside0.mk ((by rw [hg]; exact (below_size (bw HB.out)) : w.heap.size ≤ gb336)); have n3_ := Aside0.mk ((by rw [hg]; exact (below_size (bw HB.out)) : w.heap.size ≤ gb336)); clear HB; have HB := n0_; have BK336 := n1_; have GW336 := n2_; have GE336 := n3_; clear n0_ n1_ n2_ n3_; clear hb hbox hg) | ((with_reducible refine gate_dst (N := 3) rfl ?_); refine box_event ?hg (N := 3) ?hd (cs := #[.int .i64 a1_0, .string a1_1, .int .i64 a1_2]) (t := 75) ?hr ?_; (case hd => rfl); (case hg => rfl); (case hr => first | (go_simp; done) | (go_simp; rfl)); intro gb337 hg w12 hbox hb; have n0_ := Aside0.mk (blk_below (g := gb336) (o := .cells #[.int .i64 a0_0, .string a0_1, .int .i64 a0_2] 75 (0, 0)) (bk BK336.out) hb); have n1_ := Aside0.mk (below_step (bw HB.out) hb); have n2_ := Aside0.mk (hbox); have n3_ := Aside0.mk ((by rw [hg]; exact (below_size (bw HB.out)) : w.heap.size ≤ gb337)); have n4_ := Aside0.mk ((by rw [hg]; exact (below_size (bw HB.out)) : w.heap.size ≤ gb337)); have n5_ := Aside0.mk ((by rw [hg]; exact Nat.ne_of_lt (blk_lt (g := gb336) (o := .cells #[.int .i64 a0_0, .string a0_1, .int .i64 a0_2] 75 (0, 0)) (bk BK336.out)) : gb336 ≠ gb337)); have n6_ := Aside0.mk ((by rw [hg]; exact Nat.ne_of_gt (blk_lt (g := gb336) (o := .cells #[.int .i64 a0_0, .string a0_1, .int .i64 a0_2] 75 (0, 0)) (bk BK336.out)) : gb337 ≠ gb336)); clear BK336; clear HB; have BK336 := n0_; have HB := n1_; have BK337 := n2_; have GW337 := n3_; have GE337 := n4_; have NB336_337 := n5_; have NB337_336 := n6_; clear n0_ n1_ n2_ n3_ n4_ n5_ n6_; clear hb hbox hg; have hnb13 := NB336_337.out; have hnc13 := NB337_336.out; have hcz14_0 : w12.cell? ⟨gb336, 0, none⟩ = some (.int .i64 a0_0) := (blk_cell BK336.out 0).trans rfl; have hcz14_1 : w12.cell? ⟨gb336, 1, none⟩ = some (.string a0_1) := (blk_cell BK336.out 1).trans rfl; have hcz14_2 : w12.cell? ⟨gb336, 2, none⟩ = some (.int .i64 a0_2) := (blk_cell BK336.out 2).trans rfl; have hfz14_0 := blk_frozen BK336.out 0; have hfz14_1 := blk_frozen BK336.out 1; have hfz14_2 := blk_frozen BK336.out 2; have hcz15_0 : w12.cell? ⟨gb337, 0, none⟩ = some (.int .i64 a1_0) := (blk_cell BK337.out 0).trans rfl; have hcz15_1 : w12.cell? ⟨gb337, 1, none⟩ = some (.string a1_1) := (blk_cell BK337.out 1).trans rfl; have hcz15_2 : w12.cell? ⟨gb337, 2, none⟩ = some (.int .i64 a1_2) := (blk_cell BK337.out 2).trans rfl; have hfz15_0 := blk_frozen BK337.out 0; have hfz15_1 := blk_frozen BK337.out 1; have hfz15_2 := blk_frozen BK337.out 2))
    go_ret
    exact ⟨by first | rfl | (simp [errW_none, errW_some] <;> rfl) | (simp [*, errW_none, errW_some] <;> rfl), bw HB.out⟩
  ·
   rw [if_neg c4] at H
   have c4b0 : (a0_1.toList == a1_1.toList) = false := beq_eq_false_iff_ne.mpr c4
   have c4b1 : (a0_1.toList != a1_1.toList) = true := bne_iff_ne.mpr c4
   obtain rfl := Option.some.inj H
   simp only [Option.some.injEq, Prod.mk.injEq] at H
   obtain ⟨rfl⟩ := H
   go_enter Try.func52, Try.ntmps52
   go_wp2_with (first | ((with_reducible refine gate_dst (N := 2) rfl ?_); refine box_event ?hg (N := 2) ?hd (cs := #[.int .i64 a0_0, .string a0_1, .int .i64 a0_2]) (t := 75) ?hr ?_; (case hd => rfl); (case hg => rfl); (case hr => first | (go_simp; done) | (go_simp; rfl)); intro gb336 hg w16 hbox hb; have n0_ := Aside0.mk (below_step (bw HB.out) hb); have n1_ := Aside0.mk (hbox); have n2_ := Aside0.mk ((by rw [hg]; exact (below_size (bw HB.out)) : w.heap.size ≤ gb336)); have n3_ := Aside0.mk ((by rw [hg]; exact (below_size (bw HB.out)) : w.heap.size ≤ gb336)); clear HB; have HB := n0_; have BK336 := n1_; have GW336 := n2_; have GE336 := n3_; clear n0_ n1_ n2_ n3_; clear hb hbox hg) | ((with_reducible refine gate_dst (N := 3) rfl ?_); refine box_event ?hg (N := 3) ?hd (cs := #[.int .i64 a1_0, .string a1_1, .int .i64 a1_2]) (t := 75) ?hr ?_; (case hd => rfl); (case hg => rfl); (case hr => first | (go_simp; done) | (go_simp; rfl)); intro gb337 hg w17 hbox hb; have n0_ := Aside0.mk (blk_below (g := gb336) (o := .cells #[.int .i64 a0_0, .string a0_1, .int .i64 a0_2] 75 (0, 0)) (bk BK336.out) hb); have n1_ := Aside0.mk (below_step (bw HB.out) hb); have n2_ := Aside0.mk (hbox); have n3_ := Aside0.mk ((by rw [hg]; exact (below_size (bw HB.out)) : w.heap.size ≤ gb337)); have n4_ := Aside0.mk ((by rw [hg]; exact (below_size (bw HB.out)) : w.heap.size ≤ gb337)); have n5_ := Aside0.mk ((by rw [hg]; exact Nat.ne_of_lt (blk_lt (g := gb336) (o := .cells #[.int .i64 a0_0, .string a0_1, .int .i64 a0_2] 75 (0, 0)) (bk BK336.out)) : gb336 ≠ gb337)); have n6_ := Aside0.mk ((by rw [hg]; exact Nat.ne_of_gt (blk_lt (g := gb336) (o := .cells #[.int .i64 a0_0, .string a0_1, .int .i64 a0_2] 75 (0, 0)) (bk BK336.out)) : gb337 ≠ gb336)); clear BK336; clear HB; have BK336 := n0_; have HB := n1_; have BK337 := n2_; have GW337 := n3_; have GE337 := n4_; have NB336_337 := n5_; have NB337_336 := n6_; clear n0_ n1_ n2_ n3_ n4_ n5_ n6_; clear hb hbox hg; have hnb18 := NB336_337.out; have hnc18 := NB337_336.out; have hcz19_0 : w17.cell? ⟨gb336, 0, none⟩ = some (.int .i64 a0_0) := (blk_cell BK336.out 0).trans rfl; have hcz19_1 : w17.cell? ⟨gb336, 1, none⟩ = some (.string a0_1) := (blk_cell BK336.out 1).trans rfl; have hcz19_2 : w17.cell? ⟨gb336, 2, none⟩ = some (.int .i64 a0_2) := (blk_cell BK336.out 2).trans rfl; have hfz19_0 := blk_frozen BK336.out 0; have hfz19_1 := blk_frozen BK336.out 1; have hfz19_2 := blk_frozen BK336.out 2; have hcz20_0 : w17.cell? ⟨gb337, 0, none⟩ = some (.int .i64 a1_0) := (blk_cell BK337.out 0).trans rfl; have hcz20_1 : w17.cell? ⟨gb337, 1, none⟩ = some (.string a1_1) := (blk_cell BK337.out 1).trans rfl; have hcz20_2 : w17.cell? ⟨gb337, 2, none⟩ = some (.int .i64 a1_2) := (blk_cell BK337.out 2).trans rfl; have hfz20_0 := blk_frozen BK337.out 0; have hfz20_1 := blk_frozen BK337.out 1; have hfz20_2 := blk_frozen BK337.out 2))
   go_ret
   exact ⟨by first | rfl | (simp [errW_none, errW_some] <;> rfl) | (simp [*, errW_none, errW_some] <;> rfl), bw HB.out⟩
 ·
  rw [if_neg c3] at H
  have c3b0 : (a0_0 == a1_0) = false := beq_eq_false_iff_ne.mpr c3
  have c3b1 : (a0_0 != a1_0) = true := bne_iff_ne.mpr c3
  obtain rfl := Option.some.inj H
  simp only [Option.some.injEq, Prod.mk.injEq] at H
  obtain ⟨rfl⟩ := H
  go_enter Try.func52, Try.ntmps52
  go_wp2_with (first | ((with_reducible refine gate_dst (N := 2) rfl ?_); refine box_event ?hg (N := 2) ?hd (cs := #[.int .i64 a0_0, .string a0_1, .int .i64 a0_2]) (t := 75) ?hr ?_; (case hd => rfl); (case hg => rfl); (case hr => first | (go_simp; done) | (go_simp; rfl)); intro gb336 hg w21 hbox hb; have n0_ := Aside0.mk (below_step (bw HB.out) hb); have n1_ := Aside0.mk (hbox); have n2_ := Aside0.mk ((by rw [hg]; exact (below_size (bw HB.out)) : w.heap.size ≤ gb336)); have n3_ := Aside0.mk ((by rw [hg]; exact (below_size (bw HB.out)) : w.heap.size ≤ gb336)); clear HB; have HB := n0_; have BK336 := n1_; have GW336 := n2_; have GE336 := n3_; clear n0_ n1_ n2_ n3_; clear hb hbox hg) | ((with_reducible refine gate_dst (N := 3) rfl ?_); refine box_event ?hg (N := 3) ?hd (cs := #[.int .i64 a1_0, .string a1_1, .int .i64 a1_2]) (t := 75) ?hr ?_; (case hd => rfl); (case hg => rfl); (case hr => first | (go_simp; done) | (go_simp; rfl)); intro gb337 hg w22 hbox hb; have n0_ := Aside0.mk (blk_below (g := gb336) (o := .cells #[.int .i64 a0_0, .string a0_1, .int .i64 a0_2] 75 (0, 0)) (bk BK336.out) hb); have n1_ := Aside0.mk (below_step (bw HB.out) hb); have n2_ := Aside0.mk (hbox); have n3_ := Aside0.mk ((by rw [hg]; exact (below_size (bw HB.out)) : w.heap.size ≤ gb337)); have n4_ := Aside0.mk ((by rw [hg]; exact (below_size (bw HB.out)) : w.heap.size ≤ gb337)); have n5_ := Aside0.mk ((by rw [hg]; exact Nat.ne_of_lt (blk_lt (g := gb336) (o := .cells #[.int .i64 a0_0, .string a0_1, .int .i64 a0_2] 75 (0, 0)) (bk BK336.out)) : gb336 ≠ gb337)); have n6_ := Aside0.mk ((by rw [hg]; exact Nat.ne_of_gt (blk_lt (g := gb336) (o := .cells #[.int .i64 a0_0, .string a0_1, .int .i64 a0_2] 75 (0, 0)) (bk BK336.out)) : gb337 ≠ gb336)); clear BK336; clear HB; have BK336 := n0_; have HB := n1_; have BK337 := n2_; have GW337 := n3_; have GE337 := n4_; have NB336_337 := n5_; have NB337_336 := n6_; clear n0_ n1_ n2_ n3_ n4_ n5_ n6_; clear hb hbox hg; have hnb23 := NB336_337.out; have hnc23 := NB337_336.out; have hcz24_0 : w22.cell? ⟨gb336, 0, none⟩ = some (.int .i64 a0_0) := (blk_cell BK336.out 0).trans rfl; have hcz24_1 : w22.cell? ⟨gb336, 1, none⟩ = some (.string a0_1) := (blk_cell BK336.out 1).trans rfl; have hcz24_2 : w22.cell? ⟨gb336, 2, none⟩ = some (.int .i64 a0_2) := (blk_cell BK336.out 2).trans rfl; have hfz24_0 := blk_frozen BK336.out 0; have hfz24_1 := blk_frozen BK336.out 1; have hfz24_2 := blk_frozen BK336.out 2; have hcz25_0 : w22.cell? ⟨gb337, 0, none⟩ = some (.int .i64 a1_0) := (blk_cell BK337.out 0).trans rfl; have hcz25_1 : w22.cell? ⟨gb337, 1, none⟩ = some (.string a1_1) := (blk_cell BK337.out 1).trans rfl; have hcz25_2 : w22.cell? ⟨gb337, 2, none⟩ = some (.int .i64 a1_2) := (blk_cell BK337.out 2).trans rfl; have hfz25_0 := blk_frozen BK337.out 0; have hfz25_1 := blk_frozen BK337.out 1; have hfz25_2 := blk_frozen BK337.out 2))
  go_ret
  exact ⟨by first | rfl | (simp [errW_none, errW_some] <;> rfl) | (simp [*, errW_none, errW_some] <;> rfl), bw HB.out⟩

end Go.Proofs.Ytlgegdgilkaldaa.Q

namespace Go.Proofs.Ytlgegdgilkaldaa.Q
open Go.RowKit Go.Proofs.YtlgegdgilkaldaaW.PrintWords Go.Proofs.YtlgegdgilkaldaaW.PrintLast Go.Proofs.YtlgegdgilkaldaaW.PrintMore
attribute [local go_sem] max2_int min2_int max_two min_two max_three min_three max_four min_four   -- for this text's walks alone
set_option linter.unusedVariables false
set_option linter.unusedSimpArgs false

/-! ### laws_eqValueS: function 24 -/
def laws_eqValueS.l0 : Nat → List (S75) → List (S75) → Int → Option (Bool)
 | 0, _, _, _ => none
 | k + 1, x0, x1, x5 => if x5 < (x0.length : Int) then (if 0 ≤ x5 then (if x5 < (x1.length : Int) then ((laws_eqValue.f ((rd_T75 x0 x5).f0) ((rd_T75 x0 x5).f1) ((rd_T75 x0 x5).f2) ((rd_T75 x1 x5).f0) ((rd_T75 x1 x5).f1) ((rd_T75 x1 x5).f2)).bind fun t340 => (if t340 = true then (laws_eqValueS.l0 k x0 x1 (wrap64 (x5 + 1))) else (some false))) else (none)) else (none)) else (some true)
def laws_eqValueS.f (k : Nat) (l0 : List (S75)) (l1 : List (S75)) : Option (Bool) := if (l0.length : Int) = (l1.length : Int) then (laws_eqValueS.l0 k l0 l1 0) else (some false)
theorem laws_eqValueS.mono_l : ∀ k, (∀ y0 y1 y2, LeO (laws_eqValueS.l0 k y0 y1 y2) (laws_eqValueS.l0 (k + 1) y0 y1 y2))
 | 0 => fun _ _ _ r h => by simp [laws_eqValueS.l0] at h
 | k + 1 => by
  have ih0 := laws_eqValueS.mono_l k
  ·
   intro y0 y1 y2
   unfold laws_eqValueS.l0
   repeat' first
   | (with_reducible exact ih0 _ _ _)
   | (with_reducible exact LeO.refl _)
   | (with_reducible exact LeO.none _)
   | (with_reducible refine LeO.ite ?_ ?_)
   | (with_reducible refine LeO.bind ?_ (fun _ => ?_))
   | exact ih0 _ _ _
   | exact LeO.none _
   | refine LeO.ite ?_ ?_
   | refine LeO.bind ?_ (fun _ => ?_)
theorem laws_eqValueS.mono : ∀ a0 a1 k, LeO (laws_eqValueS.f k a0 a1) (laws_eqValueS.f (k + 1) a0 a1) := by
 intro a0 a1 k
 have ih0 := laws_eqValueS.mono_l k
 unfold laws_eqValueS.f
 repeat' first
   | (with_reducible exact ih0 _ _ _)
   | (with_reducible exact LeO.refl _)
   | (with_reducible exact LeO.none _)
   | (with_reducible refine LeO.ite ?_ ?_)
   | (with_reducible refine LeO.bind ?_ (fun _ => ?_))
   | exact ih0 _ _ _
   | exact LeO.none _
   | refine LeO.ite ?_ ?_
   | refine LeO.bind ?_ (fun _ => ?_)
def laws_eqValueS.T6 : Bool × List (List Nat × List Nat) := (true, [([], []), ([], []), ([0, 1], [0, 1]), ([2], [2]), ([], []), ([], []), ([4, 5], [4, 5]), ([6], [6]), ([3, 7], [3, 7]), ([8], [8])])
def laws_eqValueS.B6 : List Nat := [0, 0, 3, 7, 0, 0, 48, 112, 255, 511]
theorem laws_eqValueS.tab6 : rtab .any (opsOf Try.f24 6) = laws_eqValueS.T6 := by kernel_rfl
theorem laws_eqValueS.bits6 : waitsOk laws_eqValueS.T6.2 laws_eqValueS.B6 = true := by kernel_rfl
set_option maxHeartbeats 8000000 in
set_option maxRecDepth 100000 in
theorem laws_eqValueS.calls (k : Nat) (A0 : Option Addr) (c0 : Nat) (l0 : List (S75)) (A1 : Option Addr) (c1 : Nat) (l1 : List (S75)) (r : Bool) (w : World) (hr0 : Kd.C k75 w A0 l0.length l0) (hc0 : l0.length ≤ c0) (hr1 : Kd.C k75 w A1 l1.length l1) (hc1 : l1.length ≤ c1) (h : laws_eqValueS.f k l0 l1 = some r) :
  Calls Try.prog 24 #[.slice A0 l0.length c0, .slice A1 l1.length c1] w fun e w' => e = .returned (.bool r) ∧ Below w.heap.size w w' := by
 have hu75 := Try.underlying75
 have HR0 := Aside0.mk hr0
 have HC0 := Aside0.mk hc0
 clear hr0 hc0
 have HR1 := Aside0.mk hr1
 have HC1 := Aside0.mk hc1
 clear hr1 hc1
 have HB := Aside0.mk (Below.refl w.heap.size w)
 have H : (if (l0.length : Int) = (l1.length : Int) then (laws_eqValueS.l0 k l0 l1 0) else (some false)) = some r := h
 clear h
 by_cases c3 : (l0.length : Int) = (l1.length : Int)
 ·
  rw [if_pos c3] at H
  have c3b0 : ((l0.length : Int) == (l1.length : Int)) = true := beq_iff_eq.mpr c3
  have c3b1 : ((l0.length : Int) != (l1.length : Int)) = false := bne_eq_false_iff_eq.mpr c3
  have c3b2 : (l0.length == l1.length) = true := by first | simpa using c3 | (simp at c3 ⊢; omega)
  clear c3
  have H' := Aside0.mk H
  clear H
  go_enter Try.func24, Try.ntmps24
  go_wp2
  (try simp only [Act.put, List.setIfInBounds_toArray, List.set_cons_zero, List.set_cons_succ])
  go_loopg [5] k (fun kq v5 w' => ∃ (x5_1 : Int), v5 = .int .i64 x5_1 ∧ Aside0 (laws_eqValueS.l0 kq l0 l1 x5_1 = some r) ∧ Aside0 (kq ≤ k) ∧ Aside0 (Below w.heap.size w w'))
  case atStart => exact ⟨(0), (by first | rfl | (simp; done) | (simp [*]; done)), H', ⟨Nat.le_refl _⟩, ⟨bw HB.out⟩⟩
  case round =>
   clear H'
   try clear c1
   try clear c2
   try clear p2
   try clear c3
   try clear c3b0
   try clear c3b1
   try clear c3b2
   obtain ⟨x5_1, rfl, HA, HK1, HB⟩ := hrel
   cases gk with
   | zero => exact absurd HA.out (by simp [laws_eqValueS.l0])
   | succ k1 =>
    have H := HA.out
    clear HA
    simp only [laws_eqValueS.l0] at H
    by_cases c4 : x5_1 < (l0.length : Int)
    ·
     rw [if_pos c4] at H
     have c4b0 : decide (x5_1 < (l0.length : Int)) = true := decide_eq_true c4
     clear c4
     by_cases c5 : 0 ≤ x5_1
     ·
      rw [if_pos c5] at H
      have c5b0 : decide (0 ≤ x5_1) = true := decide_eq_true c5
      clear c5
      by_cases c6 : x5_1 < (l1.length : Int)
      ·
       rw [if_pos c6] at H
       have c6b0 : decide (x5_1 < (l1.length : Int)) = true := decide_eq_true c6
       clear c6
       replace H := Option.bind_eq_some_iff.mp H
       obtain ⟨t340, A70, H⟩ := H
       replace H : (if t340 = true then (laws_eqValueS.l0 k1 l0 l1 (wrap64 (x5_1 + 1))) else (some false)) = some r := H
       have A7 := Aside0.mk A70
       clear A70
       by_cases c8 : t340 = true
       ·
        subst c8
        have H1 : (laws_eqValueS.l0 k1 l0 l1 (wrap64 (x5_1 + 1))) = some r := by rw [if_pos rfl] at H; exact H
        clear H
        have H := H1
        clear H1
        have H' := Aside0.mk H
        clear H
        try go_wp2
        have n0_ := Aside0.mk (below_drew1 HB.out)
        clear HB
        have HB := n0_
        clear n0_
        have p338 : 0 ≤ (x5_1 : Int) := of_decide_eq_true (by first | (with_reducible assumption) | assumption)
        have q338 : x5_1 < (l0.length : Int) := of_decide_eq_true (by first | (with_reducible assumption) | assumption)
        obtain ⟨ad338, e338, hx338_0, hx338_1, hx338_2⟩ := at_T75 HR0.out x5_1 p338 q338
        have hw338_2 := hx338_2
        have hw338_1 := hx338_1
        have hw338_0 := hx338_0
        cases e338
        replace hx338_0 := (HB.out.cell (World.block_lt_of_cell? w _ hx338_0)).trans hx338_0
        replace hx338_1 := (HB.out.cell (World.block_lt_of_cell? w _ hx338_1)).trans hx338_1
        replace hx338_2 := (HB.out.cell (World.block_lt_of_cell? w _ hx338_2)).trans hx338_2
        replace p338 := eq_true p338
        replace q338 := eq_true q338
        have p339 : 0 ≤ (x5_1 : Int) := of_decide_eq_true (by first | (with_reducible assumption) | assumption)
        have q339 : x5_1 < (l1.length : Int) := of_decide_eq_true (by first | (with_reducible assumption) | assumption)
        obtain ⟨ad339, e339, hx339_0, hx339_1, hx339_2⟩ := at_T75 HR1.out x5_1 p339 q339
        have hw339_2 := hx339_2
        have hw339_1 := hx339_1
        have hw339_0 := hx339_0
        cases e339
        replace hx339_0 := (HB.out.cell (World.block_lt_of_cell? w _ hx339_0)).trans hx339_0
        replace hx339_1 := (HB.out.cell (World.block_lt_of_cell? w _ hx339_1)).trans hx339_1
        replace hx339_2 := (HB.out.cell (World.block_lt_of_cell? w _ hx339_2)).trans hx339_2
        replace p339 := eq_true p339
        replace q339 := eq_true q339
        refine start_ (n := 10) (S := fun w' => w'.cell? (ad338.add ((x5_1).toNat * 3)) = some (.int .i64 ((rd_T75 l0 x5_1).f0)) ∧ w'.cell? ⟨(ad338.add ((x5_1).toNat * 3)).block, (ad338.add ((x5_1).toNat * 3)).off + 1, none⟩ = some (.string ((rd_T75 l0 x5_1).f1)) ∧ w'.cell? ⟨(ad338.add ((x5_1).toNat * 3)).block, (ad338.add ((x5_1).toNat * 3)).off + 2, none⟩ = some (.int .i64 ((rd_T75 l0 x5_1).f2)) ∧ w'.cell? (ad339.add ((x5_1).toNat * 3)) = some (.int .i64 ((rd_T75 l1 x5_1).f0)) ∧ w'.cell? ⟨(ad339.add ((x5_1).toNat * 3)).block, (ad339.add ((x5_1).toNat * 3)).off + 1, none⟩ = some (.string ((rd_T75 l1 x5_1).f1)) ∧ w'.cell? ⟨(ad339.add ((x5_1).toNat * 3)).block, (ad339.add ((x5_1).toNat * 3)).off + 2, none⟩ = some (.int .i64 ((rd_T75 l1 x5_1).f2))) (ds := []) #[false, false, false, false, false, false, false, false, false, false] (by kernel_rfl) rfl rfl ⟨((HB.out.cell (World.block_lt_of_cell? w _ hw338_0)).trans hw338_0), ((HB.out.cell (World.block_lt_of_cell? w _ hw338_1)).trans hw338_1), ((HB.out.cell (World.block_lt_of_cell? w _ hw338_2)).trans hw338_2), ((HB.out.cell (World.block_lt_of_cell? w _ hw339_0)).trans hw339_0), ((HB.out.cell (World.block_lt_of_cell? w _ hw339_1)).trans hw339_1), ((HB.out.cell (World.block_lt_of_cell? w _ hw339_2)).trans hw339_2)⟩ (fun hHeld => ?_); refine with_tabW laws_eqValueS.tab6 laws_eqValueS.bits6 (fun HT_ HW_ => ?_)
        generalize wr.drew = w9 at HB hx338_0 hx338_1 hx338_2 hx339_0 hx339_1 hx339_2 hHeld ⊢
        refine pure_ (i := 0) (N := some 17) (v := ?_) (a' := ?_) #[true, false, false, false, false, false, false, false, false, false] rfl rfl (any_of HT_.out (by kernel_rfl)) (fun _ _ _ h => h) (Or.inl ⟨by rfl, ?_⟩) ?_ ?_
        rotate_left
        ·
         intro w'
         go_simp
         with_reducible rfl
        rotate_left
        ·
         simp only [Act.put, List.setIfInBounds_toArray, List.set_cons_zero, List.set_cons_succ, i64_w, i32_w]
         rfl
        refine pure_ (i := 1) (N := some 18) (v := ?_) (a' := ?_) #[true, true, false, false, false, false, false, false, false, false] rfl rfl (any_of HT_.out (by kernel_rfl)) (fun _ _ _ h => h) (Or.inl ⟨by rfl, ?_⟩) ?_ ?_
        rotate_left
        ·
         intro w'
         go_simp
         with_reducible rfl
        rotate_left
        ·
         simp only [Act.put, List.setIfInBounds_toArray, List.set_cons_zero, List.set_cons_succ, i64_w, i32_w]
         rfl
        refine pure_ (i := 2) (N := some 19) (v := ?_) (a' := ?_) #[true, true, true, false, false, false, false, false, false, false] rfl rfl (any_of HT_.out (by kernel_rfl)) (fun _ _ _ h => h) (Or.inl ⟨by rfl, ?_⟩) ?_ ?_
        rotate_left
        ·
         intro w'
         go_simp
         with_reducible rfl
        rotate_left
        ·
         simp only [Act.put, List.setIfInBounds_toArray, List.set_cons_zero, List.set_cons_succ, i64_w, i32_w]
         rfl
        refine pure_ (i := 4) (N := some 21) (v := ?_) (a' := ?_) #[true, true, true, false, true, false, false, false, false, false] rfl rfl (any_of HT_.out (by kernel_rfl)) (fun _ _ _ h => h) (Or.inl ⟨by rfl, ?_⟩) ?_ ?_
        rotate_left
        ·
         intro w'
         go_simp
         with_reducible rfl
        rotate_left
        ·
         simp only [Act.put, List.setIfInBounds_toArray, List.set_cons_zero, List.set_cons_succ, i64_w, i32_w]
         rfl
        refine pure_ (i := 5) (N := some 22) (v := ?_) (a' := ?_) #[true, true, true, false, true, true, false, false, false, false] rfl rfl (any_of HT_.out (by kernel_rfl)) (fun _ _ _ h => h) (Or.inl ⟨by rfl, ?_⟩) ?_ ?_
        rotate_left
        ·
         intro w'
         go_simp
         with_reducible rfl
        rotate_left
        ·
         simp only [Act.put, List.setIfInBounds_toArray, List.set_cons_zero, List.set_cons_succ, i64_w, i32_w]
         rfl
        refine pure_ (i := 6) (N := some 23) (v := ?_) (a' := ?_) #[true, true, true, false, true, true, true, false, false, false] rfl rfl (any_of HT_.out (by kernel_rfl)) (fun _ _ _ h => h) (Or.inl ⟨by rfl, ?_⟩) ?_ ?_
        rotate_left
        ·
         intro w'
         go_simp
         with_reducible rfl
        rotate_left
        ·
         simp only [Act.put, List.setIfInBounds_toArray, List.set_cons_zero, List.set_cons_succ, i64_w, i32_w]
         rfl
        refine take_ (i := 3) (N := some 20) (v := ?_) (a' := ?_) #[true, true, true, true, true, true, true, false, false, false] rfl rfl (take_ofW HT_.out HW_.out (by kernel_rfl)) (fun _ _ _ h => h) (Or.inl ⟨by rfl, ?_⟩) hHeld ?_ ?_
        rotate_left
        ·
         rintro w' ⟨s0, s1, s2, s3, s4, s5⟩
         go_simp
         with_reducible rfl
        rotate_left
        ·
         simp only [Act.put, List.setIfInBounds_toArray, List.set_cons_zero, List.set_cons_succ, i64_w, i32_w]
         rfl
        refine take_ (i := 7) (N := some 24) (v := ?_) (a' := ?_) #[true, true, true, true, true, true, true, true, false, false] rfl rfl (take_ofW HT_.out HW_.out (by kernel_rfl)) (fun _ _ _ h => h) (Or.inl ⟨by rfl, ?_⟩) hHeld ?_ ?_
        rotate_left
        ·
         rintro w' ⟨s0, s1, s2, s3, s4, s5⟩
         go_simp
         with_reducible rfl
        rotate_left
        ·
         simp only [Act.put, List.setIfInBounds_toArray, List.set_cons_zero, List.set_cons_succ, i64_w, i32_w]
         rfl
        refine one_ (i := 8) (N := some 25) #[true, true, true, true, true, true, true, true, true, false] rfl rfl (one_of HT_.out (by kernel_rfl)) (by decide) (fun K hK => ?_)
        refine goes_ Try.func52 (by kernel_rfl) rfl #[.agg #[.int .i64 ((rd_T75 l0 x5_1).f0), .string ((rd_T75 l0 x5_1).f1), .int .i64 ((rd_T75 l0 x5_1).f2)], .agg #[.int .i64 ((rd_T75 l1 x5_1).f0), .string ((rd_T75 l1 x5_1).f1), .int .i64 ((rd_T75 l1 x5_1).f2)]] (by rfl) rfl rfl ar ?_
        with_reducible refine (laws_eqValue.calls ((rd_T75 l0 x5_1).f0) ((rd_T75 l0 x5_1).f1) ((rd_T75 l0 x5_1).f2) ((rd_T75 l1 x5_1).f0) ((rd_T75 l1 x5_1).f1) ((rd_T75 l1 x5_1).f2) true _ A7.out).mono ?_
        rintro e w10 ⟨rfl, hb⟩
        refine ⟨_, rfl, ?_⟩
        have n0_ := Aside0.mk (below_step (bw HB.out) hb)
        clear HB
        have HB := n0_
        clear n0_
        (try clear hb)
        (try clear hb2)
        (try clear hk)
        (try clear hi)
        refine hK.out _ _ ⟨((HB.out.cell (World.block_lt_of_cell? w _ hw338_0)).trans hw338_0), ((HB.out.cell (World.block_lt_of_cell? w _ hw338_1)).trans hw338_1), ((HB.out.cell (World.block_lt_of_cell? w _ hw338_2)).trans hw338_2), ((HB.out.cell (World.block_lt_of_cell? w _ hw339_0)).trans hw339_0), ((HB.out.cell (World.block_lt_of_cell? w _ hw339_1)).trans hw339_1), ((HB.out.cell (World.block_lt_of_cell? w _ hw339_2)).trans hw339_2)⟩ (fun hHeld => ?_)
        clear hK K
        refine norm_ (a' := ?_) ?_ ?_
        rotate_left
        ·
         show Act.put _ (some 25) _ = _
         simp only [Act.put, List.setIfInBounds_toArray, List.set_cons_zero, List.set_cons_succ, i64_w, i32_w]
         rfl
        refine pure_ (i := 9) (N := some 26) (v := ?_) (a' := ?_) #[true, true, true, true, true, true, true, true, true, true] rfl rfl (any_of HT_.out (by kernel_rfl)) (fun _ _ _ h => h) (Or.inl ⟨by rfl, ?_⟩) ?_ ?_
        rotate_left
        ·
         intro w'
         go_simp
         with_reducible rfl
        rotate_left
        ·
         simp only [Act.put, List.setIfInBounds_toArray, List.set_cons_zero, List.set_cons_succ, i64_w, i32_w]
         rfl
        refine done_ (done_of HT_.out (by kernel_rfl)) ?_
        try go_wp2
        go_roundg k1
        case measure => have := HK1.out; omega
        case rel => exact ⟨(wrap64 (x5_1 + 1)), (by first | rfl | (simp; done) | (simp [*]; done)), H', ⟨by have := HK1.out; omega⟩, ⟨bw HB.out⟩⟩
       ·
        replace c8 := Bool.eq_false_iff.mpr c8
        subst c8
        have H1 : (some false) = some r := by rw [if_neg (show ¬ (false = true) by decide)] at H; exact H
        clear H
        have H := H1
        clear H1
        obtain rfl := Option.some.inj H
        simp only [Option.some.injEq, Prod.mk.injEq] at H
        obtain ⟨rfl⟩ := H
        try go_wp2
        have n0_ := Aside0.mk (below_drew1 HB.out)
        clear HB
        have HB := n0_
        clear n0_
        have p338 : 0 ≤ (x5_1 : Int) := of_decide_eq_true (by first | (with_reducible assumption) | assumption)
        have q338 : x5_1 < (l0.length : Int) := of_decide_eq_true (by first | (with_reducible assumption) | assumption)
        obtain ⟨ad338, e338, hx338_0, hx338_1, hx338_2⟩ := at_T75 HR0.out x5_1 p338 q338
        have hw338_2 := hx338_2
        have hw338_1 := hx338_1
        have hw338_0 := hx338_0
        cases e338
        replace hx338_0 := (HB.out.cell (World.block_lt_of_cell? w _ hx338_0)).trans hx338_0
        replace hx338_1 := (HB.out.cell (World.block_lt_of_cell? w _ hx338_1)).trans hx338_1
        replace hx338_2 := (HB.out.cell (World.block_lt_of_cell? w _ hx338_2)).trans hx338_2
        replace p338 := eq_true p338
        replace q338 := eq_true q338
        have p339 : 0 ≤ (x5_1 : Int) := of_decide_eq_true (by first | (with_reducible assumption) | assumption)
        have q339 : x5_1 < (l1.length : Int) := of_decide_eq_true (by first | (with_reducible assumption) | assumption)
        obtain ⟨ad339, e339, hx339_0, hx339_1, hx339_2⟩ := at_T75 HR1.out x5_1 p339 q339
        have hw339_2 := hx339_2
        have hw339_1 := hx339_1
        have hw339_0 := hx339_0
        cases e339
        replace hx339_0 := (HB.out.cell (World.block_lt_of_cell? w _ hx339_0)).trans hx339_0
        replace hx339_1 := (HB.out.cell (World.block_lt_of_cell? w _ hx339_1)).trans hx339_1
        replace hx339_2 := (HB.out.cell (World.block_lt_of_cell? w _ hx339_2)).trans hx339_2
        replace p339 := eq_true p339
        replace q339 := eq_true q339
        refine start_ (n := 10) (S := fun w' => w'.cell? (ad338.add ((x5_1).toNat * 3)) = some (.int .i64 ((rd_T75 l0 x5_1).f0)) ∧ w'.cell? ⟨(ad338.add ((x5_1).toNat * 3)).block, (ad338.add ((x5_1).toNat * 3)).off + 1, none⟩ = some (.string ((rd_T75 l0 x5_1).f1)) ∧ w'.cell? ⟨(ad338.add ((x5_1).toNat * 3)).block, (ad338.add ((x5_1).toNat * 3)).off + 2, none⟩ = some (.int .i64 ((rd_T75 l0 x5_1).f2)) ∧ w'.cell? (ad339.add ((x5_1).toNat * 3)) = some (.int .i64 ((rd_T75 l1 x5_1).f0)) ∧ w'.cell? ⟨(ad339.add ((x5_1).toNat * 3)).block, (ad339.add ((x5_1).toNat * 3)).off + 1, none⟩ = some (.string ((rd_T75 l1 x5_1).f1)) ∧ w'.cell? ⟨(ad339.add ((x5_1).toNat * 3)).block, (ad339.add ((x5_1).toNat * 3)).off + 2, none⟩ = some (.int .i64 ((rd_T75 l1 x5_1).f2))) (ds := []) #[false, false, false, false, false, false, false, false, false, false] (by kernel_rfl) rfl rfl ⟨((HB.out.cell (World.block_lt_of_cell? w _ hw338_0)).trans hw338_0), ((HB.out.cell (World.block_lt_of_cell? w _ hw338_1)).trans hw338_1), ((HB.out.cell (World.block_lt_of_cell? w _ hw338_2)).trans hw338_2), ((HB.out.cell (World.block_lt_of_cell? w _ hw339_0)).trans hw339_0), ((HB.out.cell (World.block_lt_of_cell? w _ hw339_1)).trans hw339_1), ((HB.out.cell (World.block_lt_of_cell? w _ hw339_2)).trans hw339_2)⟩ (fun hHeld => ?_); refine with_tabW laws_eqValueS.tab6 laws_eqValueS.bits6 (fun HT_ HW_ => ?_)
        generalize wr.drew = w11 at HB hx338_0 hx338_1 hx338_2 hx339_0 hx339_1 hx339_2 hHeld ⊢
        refine pure_ (i := 0) (N := some 17) (v := ?_) (a' := ?_) #[true, false, false, false, false, false, false, false, false, false] rfl rfl (any_of HT_.out (by kernel_rfl)) (fun _ _ _ h => h) (Or.inl ⟨by rfl, ?_⟩) ?_ ?_
        rotate_left
        ·
         intro w'
         go_simp
         with_reducible rfl
        rotate_left
        ·
         simp only [Act.put, List.setIfInBounds_toArray, List.set_cons_zero, List.set_cons_succ, i64_w, i32_w]
         rfl
        refine pure_ (i := 1) (N := some 18) (v := ?_) (a' := ?_) #[true, true, false, false, false, false, false, false, false, false] rfl rfl (any_of HT_.out (by kernel_rfl)) (fun _ _ _ h => h) (Or.inl ⟨by rfl, ?_⟩) ?_ ?_
        rotate_left
        ·
         intro w'
         go_simp
         with_reducible rfl
        rotate_left
        ·
         simp only [Act.put, List.setIfInBounds_toArray, List.set_cons_zero, List.set_cons_succ, i64_w, i32_w]
         rfl
        refine pure_ (i := 2) (N := some 19) (v := ?_) (a' := ?_) #[true, true, true, false, false, false, false, false, false, false] rfl rfl (any_of HT_.out (by kernel_rfl)) (fun _ _ _ h => h) (Or.inl ⟨by rfl, ?_⟩) ?_ ?_
        rotate_left
        ·
         intro w'
         go_simp
         with_reducible rfl
        rotate_left
        ·
         simp only [Act.put, List.setIfInBounds_toArray, List.set_cons_zero, List.set_cons_succ, i64_w, i32_w]
         rfl
        refine pure_ (i := 4) (N := some 21) (v := ?_) (a' := ?_) #[true, true, true, false, true, false, false, false, false, false] rfl rfl (any_of HT_.out (by kernel_rfl)) (fun _ _ _ h => h) (Or.inl ⟨by rfl, ?_⟩) ?_ ?_
        rotate_left
        ·
         intro w'
         go_simp
         with_reducible rfl
        rotate_left
        ·
         simp only [Act.put, List.setIfInBounds_toArray, List.set_cons_zero, List.set_cons_succ, i64_w, i32_w]
         rfl
        refine pure_ (i := 5) (N := some 22) (v := ?_) (a' := ?_) #[true, true, true, false, true, true, false, false, false, false] rfl rfl (any_of HT_.out (by kernel_rfl)) (fun _ _ _ h => h) (Or.inl ⟨by rfl, ?_⟩) ?_ ?_
        rotate_left
        ·
         intro w'
         go_simp
         with_reducible rfl
        rotate_left
        ·
         simp only [Act.put, List.setIfInBounds_toArray, List.set_cons_zero, List.set_cons_succ, i64_w, i32_w]
         rfl
        refine pure_ (i := 6) (N := some 23) (v := ?_) (a' := ?_) #[true, true, true, false, true, true, true, false, false, false] rfl rfl (any_of HT_.out (by kernel_rfl)) (fun _ _ _ h => h) (Or.inl ⟨by rfl, ?_⟩) ?_ ?_
        rotate_left
        ·
         intro w'
         go_simp
         with_reducible rfl
        rotate_left
        ·
         simp only [Act.put, List.setIfInBounds_toArray, List.set_cons_zero, List.set_cons_succ, i64_w, i32_w]
         rfl
        refine take_ (i := 3) (N := some 20) (v := ?_) (a' := ?_) #[true, true, true, true, true, true, true, false, false, false] rfl rfl (take_ofW HT_.out HW_.out (by kernel_rfl)) (fun _ _ _ h => h) (Or.inl ⟨by rfl, ?_⟩) hHeld ?_ ?_
        rotate_left
        ·
         rintro w' ⟨s0, s1, s2, s3, s4, s5⟩
         go_simp
         with_reducible rfl
        rotate_left
        ·
         simp only [Act.put, List.setIfInBounds_toArray, List.set_cons_zero, List.set_cons_succ, i64_w, i32_w]
         rfl
        refine take_ (i := 7) (N := some 24) (v := ?_) (a' := ?_) #[true, true, true, true, true, true, true, true, false, false] rfl rfl (take_ofW HT_.out HW_.out (by kernel_rfl)) (fun _ _ _ h => h) (Or.inl ⟨by rfl, ?_⟩) hHeld ?_ ?_
        rotate_left
        ·
         rintro w' ⟨s0, s1, s2, s3, s4, s5⟩
         go_simp
         with_reducible rfl
        rotate_left
        ·
         simp only [Act.put, List.setIfInBounds_toArray, List.set_cons_zero, List.set_cons_succ, i64_w, i32_w]
         rfl
        refine one_ (i := 8) (N := some 25) #[true, true, true, true, true, true, true, true, true, false] rfl rfl (one_of HT_.out (by kernel_rfl)) (by decide) (fun K hK => ?_)
        refine goes_ Try.func52 (by kernel_rfl) rfl #[.agg #[.int .i64 ((rd_T75 l0 x5_1).f0), .string ((rd_T75 l0 x5_1).f1), .int .i64 ((rd_T75 l0 x5_1).f2)], .agg #[.int .i64 ((rd_T75 l1 x5_1).f0), .string ((rd_T75 l1 x5_1).f1), .int .i64 ((rd_T75 l1 x5_1).f2)]] (by rfl) rfl rfl ar ?_
        with_reducible refine (laws_eqValue.calls ((rd_T75 l0 x5_1).f0) ((rd_T75 l0 x5_1).f1) ((rd_T75 l0 x5_1).f2) ((rd_T75 l1 x5_1).f0) ((rd_T75 l1 x5_1).f1) ((rd_T75 l1 x5_1).f2) false _ A7.out).mono ?_
        rintro e w12 ⟨rfl, hb⟩
        refine ⟨_, rfl, ?_⟩
        have n0_ := Aside0.mk (below_step (bw HB.out) hb)
        clear HB
        have HB := n0_
        clear n0_
        (try clear hb)
        (try clear hb2)
        (try clear hk)
        (try clear hi)
        refine hK.out _ _ ⟨((HB.out.cell (World.block_lt_of_cell? w _ hw338_0)).trans hw338_0), ((HB.out.cell (World.block_lt_of_cell? w _ hw338_1)).trans hw338_1), ((HB.out.cell (World.block_lt_of_cell? w _ hw338_2)).trans hw338_2), ((HB.out.cell (World.block_lt_of_cell? w _ hw339_0)).trans hw339_0), ((HB.out.cell (World.block_lt_of_cell? w _ hw339_1)).trans hw339_1), ((HB.out.cell (World.block_lt_of_cell? w _ hw339_2)).trans hw339_2)⟩ (fun hHeld => ?_)
        clear hK K
        refine norm_ (a' := ?_) ?_ ?_
        rotate_left
        ·
         show Act.put _ (some 25) _ = _
         simp only [Act.put, List.setIfInBounds_toArray, List.set_cons_zero, List.set_cons_succ, i64_w, i32_w]
         rfl
        refine pure_ (i := 9) (N := some 26) (v := ?_) (a' := ?_) #[true, true, true, true, true, true, true, true, true, true] rfl rfl (any_of HT_.out (by kernel_rfl)) (fun _ _ _ h => h) (Or.inl ⟨by rfl, ?_⟩) ?_ ?_
        rotate_left
        ·
         intro w'
         go_simp
         with_reducible rfl
        rotate_left
        ·
         simp only [Act.put, List.setIfInBounds_toArray, List.set_cons_zero, List.set_cons_succ, i64_w, i32_w]
         rfl
        refine done_ (done_of HT_.out (by kernel_rfl)) ?_
        try go_wp2
        go_ret
        exact ⟨by first | rfl | (simp [errW_none, errW_some] <;> rfl) | (simp [*, errW_none, errW_some] <;> rfl), bw HB.out⟩
      ·
       rw [if_neg c6] at H
       exact absurd H (by simp)
     ·
      rw [if_neg c5] at H
      exact absurd H (by simp)
    ·
     rw [if_neg c4] at H
     have c4b0 : decide (x5_1 < (l0.length : Int)) = false := decide_eq_false c4
     clear c4
     obtain rfl := Option.some.inj H
     simp only [Option.some.injEq, Prod.mk.injEq] at H
     obtain ⟨rfl⟩ := H
     go_wp2
     go_ret
     exact ⟨by first | rfl | (simp [errW_none, errW_some] <;> rfl) | (simp [*, errW_none, errW_some] <;> rfl), bw HB.out⟩
 ·
  rw [if_neg c3] at H
  have c3b0 : ((l0.length : Int) == (l1.length : Int)) = false := beq_eq_false_iff_ne.mpr c3
  have c3b1 : ((l0.length : Int) != (l1.length : Int)) = true := bne_iff_ne.mpr c3
  have c3b2 : (l0.length == l1.length) = false := by first | simpa using c3 | (simp at c3 ⊢; omega)
  obtain rfl := Option.some.inj H
  simp only [Option.some.injEq, Prod.mk.injEq] at H
  obtain ⟨rfl⟩ := H
  go_enter Try.func24, Try.ntmps24
  go_wp2
  go_ret
  exact ⟨by first | rfl | (simp [errW_none, errW_some] <;> rfl) | (simp [*, errW_none, errW_some] <;> rfl), bw HB.out⟩

end Go.Proofs.Ytlgegdgilkaldaa.Q

namespace Go.Proofs.Ytlgegdgilkaldaa.Q
open Go.RowKit Go.Proofs.YtlgegdgilkaldaaW.PrintWords Go.Proofs.YtlgegdgilkaldaaW.PrintLast Go.Proofs.YtlgegdgilkaldaaW.PrintMore
attribute [local go_sem] max2_int min2_int max_two min_two max_three min_three max_four min_four   -- for this text's walks alone
set_option linter.unusedVariables false
set_option linter.unusedSimpArgs false

/-! ### laws_markText: function 53 -/
def laws_markText.l0 : Nat → Int → ByteArray → Option (ByteArray)
 | 0, _, _ => none
 | k + 1, x0, x3 => if x0 > 0 then ((some (([(wrap64 (48 + (Int.tmod x0 10))) % 256] : List Int) : List Int)).bind fun y344 => (if (strOfNums y344).size + x3.size ≤ 9223372036854775807 then (laws_markText.l0 k (wrap64 (Int.tdiv x0 10)) ((strOfNums y344) ++ x3)) else (none))) else (if 1 + x3.size ≤ 9223372036854775807 then (some ((⟨#[109]⟩ : ByteArray) ++ x3)) else (none))
def laws_markText.f (k : Nat) (a0 : Int) : Option (ByteArray) := if a0 ≤ 0 then (some (⟨#[109, 48]⟩ : ByteArray)) else (laws_markText.l0 k a0 (⟨#[]⟩ : ByteArray))
theorem laws_markText.mono_l : ∀ k, (∀ y0 y1, LeO (laws_markText.l0 k y0 y1) (laws_markText.l0 (k + 1) y0 y1))
 | 0 => fun _ _ r h => by simp [laws_markText.l0] at h
 | k + 1 => by
  have ih0 := laws_markText.mono_l k
  ·
   intro y0 y1
   unfold laws_markText.l0
   repeat' first
   | (with_reducible exact ih0 _ _)
   | (with_reducible exact LeO.refl _)
   | (with_reducible exact LeO.none _)
   | (with_reducible refine LeO.ite ?_ ?_)
   | (with_reducible refine LeO.bind ?_ (fun _ => ?_))
   | exact ih0 _ _
   | exact LeO.none _
   | refine LeO.ite ?_ ?_
   | refine LeO.bind ?_ (fun _ => ?_)
theorem laws_markText.mono : ∀ a0 k, LeO (laws_markText.f k a0) (laws_markText.f (k + 1) a0) := by
 intro a0 k
 have ih0 := laws_markText.mono_l k
 unfold laws_markText.f
 repeat' first
   | (with_reducible exact ih0 _ _)
   | (with_reducible exact LeO.refl _)
   | (with_reducible exact LeO.none _)
   | (with_reducible refine LeO.ite ?_ ?_)
   | (with_reducible refine LeO.bind ?_ (fun _ => ?_))
   | exact ih0 _ _
   | exact LeO.none _
   | refine LeO.ite ?_ ?_
   | refine LeO.bind ?_ (fun _ => ?_)
set_option maxHeartbeats 8000000 in
set_option maxRecDepth 100000 in
theorem laws_markText.calls (k : Nat) (a0 : Int) (r : ByteArray) (w : World) (h : laws_markText.f k a0 = some r) :
  Calls Try.prog 53 #[.int .i64 a0] w fun e w' => e = .returned (.string r) ∧ Below w.heap.size w w' := by
 have HB := Aside0.mk (Below.refl w.heap.size w)
 have H : (if a0 ≤ 0 then (some (⟨#[109, 48]⟩ : ByteArray)) else (laws_markText.l0 k a0 (⟨#[]⟩ : ByteArray))) = some r := h
 clear h
 by_cases c2 : a0 ≤ 0
 ·
  rw [if_pos c2] at H
  have c2b0 : decide (a0 ≤ 0) = true := decide_eq_true c2
  clear c2
  obtain rfl := Option.some.inj H
  simp only [Option.some.injEq, Prod.mk.injEq] at H
  obtain ⟨rfl⟩ := H
  go_enter Try.func53, Try.ntmps53
  go_wp2
  go_ret
  exact ⟨by first | rfl | (simp [errW_none, errW_some] <;> rfl) | (simp [*, errW_none, errW_some] <;> rfl), bw HB.out⟩
 ·
  rw [if_neg c2] at H
  have c2b0 : decide (a0 ≤ 0) = false := decide_eq_false c2
  clear c2
  have H' := Aside0.mk H
  clear H
  go_enter Try.func53, Try.ntmps53
  go_wp2
  (try simp only [Act.put, List.setIfInBounds_toArray, List.set_cons_zero, List.set_cons_succ])
  go_loopg [0, 3] k (fun kq v0 v3 w' => ∃ (x0_1 : Int) (x3_1 : ByteArray), v0 = .int .i64 x0_1 ∧ v3 = .string x3_1 ∧ Aside0 (laws_markText.l0 kq x0_1 x3_1 = some r) ∧ Aside0 (kq ≤ k) ∧ Aside0 (Below w.heap.size w w'))
  case atStart => exact ⟨(a0), ((⟨#[]⟩ : ByteArray)), (by first | rfl | (simp; done) | (simp [*]; done)), (by first | rfl | (simp; done) | (simp [*]; done)), H', ⟨Nat.le_refl _⟩, ⟨bw HB.out⟩⟩
  case round =>
   clear H'
   try clear c2
   try clear c2b0
   try clear p2
   obtain ⟨x0_1, x3_1, rfl, rfl, HA, HK1, HB⟩ := hrel
   cases gk with
   | zero => exact absurd HA.out (by simp [laws_markText.l0])
   | succ k1 =>
    have H := HA.out
    clear HA
    simp only [laws_markText.l0] at H
    by_cases c3 : x0_1 > 0
    ·
     rw [if_pos c3] at H
     have c3b0 : decide (0 < x0_1) = true := decide_eq_true c3
     clear c3
     obtain ⟨y344, hy344⟩ : ∃ y_ : List Int, y_ = (([(wrap64 (48 + (Int.tmod x0_1 10))) % 256] : List Int)) := ⟨_, rfl⟩
     replace H : (if (strOfNums y344).size + x3_1.size ≤ 9223372036854775807 then (laws_markText.l0 k1 (wrap64 (Int.tdiv x0_1 10)) ((strOfNums y344) ++ x3_1)) else (none)) = some r := by first | (rw [hy344]; with_reducible exact H) | (have H2_ := (Option.bind_some _ _).symm.trans H; rw [hy344]; with_reducible exact H2_) | (have H2_ := (Option.bind_some _ _).symm.trans H; with_reducible exact H2_) | with_reducible exact H | (rw [hy344]; exact H) | exact H
     have Ny344 := Aside0.mk hy344
     clear hy344
     by_cases c4 : (strOfNums y344).size + x3_1.size ≤ 9223372036854775807
     ·
      rw [if_pos c4] at H
      have c4b0 := eq_true c4
      have c4b1 : decide ((strOfNums y344).size + x3_1.size ≤ 9223372036854775807) = true := decide_eq_true c4
      try have c4b2 : (9223372036854775807 < (strOfNums y344).size + x3_1.size) = False := eq_false (Nat.not_lt.2 c4)
      have H' := Aside0.mk H
      clear H
      go_wp2_with (first | ((with_reducible refine gate_dst (N := 12) rfl ?_); refine Kd.R_lit (Kd.int .u8) _ 5 ?hg (N := 12) ?hd (xs := ([(wrap64 (48 + (Int.tmod x0_1 10))) % 256] : List Int)) (inner := [.int .u8 ((wrap64 (48 + (Int.tmod x0_1 10))) % 256)]) (ok := fun _ => True) (okp := fun _ => True) ?hr ?hp (fun _ hk => hk) trivial (Below.refl _ _) (Nat.le_refl _) (by simp) ?_; (case hd => rfl); (case hg => rfl); (case hr => first | (go_simp; done) | (go_simp; rfl)); (case hp => exact (Reps.one (show Kd.M (Kd.int .u8) _ _ _ ((wrap64 (48 + (Int.tmod x0_1 10))) % 256) [.int .u8 ((wrap64 (48 + (Int.tmod x0_1 10))) % 256)] from rfl) (Reps.none _ _))); intro v345 w5 ho6 hb hg_ hnew_; clear hg_ hnew_; (first | rw [← Ny344.out] at ho6 | (simp only [Int.reduceToNat] at ho6; rw [← Ny344.out] at ho6)); have n0_ := Aside0.mk (Kd.R_lower ho6 (below_size (bw HB.out))); have n1_ := Aside0.mk (below_step (bw HB.out) hb); clear HB; have HO346 := n0_; have HB := n1_; clear n0_ n1_; clear hb ho6; have hcv7 := own_string (P := Try.prog) Try.underlying43 Try.underlying5 Try.underlying9 (Kd.own_of_R HO346.out)))
      go_roundg k1
      case measure => have := HK1.out; omega
      case rel => exact ⟨(wrap64 (Int.tdiv x0_1 10)), ((strOfNums y344) ++ x3_1), (by first | rfl | (simp; done) | (simp [*]; done)), (by first | rfl | (simp; done) | (simp [*]; done)), H', ⟨by have := HK1.out; omega⟩, ⟨bw HB.out⟩⟩
     ·
      rw [if_neg c4] at H
      exact absurd H (by simp)
    ·
     rw [if_neg c3] at H
     have c3b0 : decide (0 < x0_1) = false := decide_eq_false c3
     clear c3
     by_cases c8 : 1 + x3_1.size ≤ 9223372036854775807
     ·
      rw [if_pos c8] at H
      have c8b0 := eq_true c8
      have c8b1 : decide (1 + x3_1.size ≤ 9223372036854775807) = true := decide_eq_true c8
      try have c8b2 : (9223372036854775807 < 1 + x3_1.size) = False := eq_false (Nat.not_lt.2 c8)
      obtain rfl := Option.some.inj H
      simp only [Option.some.injEq, Prod.mk.injEq] at H
      obtain ⟨rfl⟩ := H
      go_wp2
      go_ret
      exact ⟨by first | rfl | (simp [errW_none, errW_some] <;> rfl) | (simp [*, errW_none, errW_some] <;> rfl), bw HB.out⟩
     ·
      rw [if_neg c8] at H
      exact absurd H (by simp)

end Go.Proofs.Ytlgegdgilkaldaa.Q

namespace Go.Proofs.Ytlgegdgilkaldaa.Q
open Go.RowKit Go.Proofs.YtlgegdgilkaldaaW.PrintWords Go.Proofs.YtlgegdgilkaldaaW.PrintLast Go.Proofs.YtlgegdgilkaldaaW.PrintMore
attribute [local go_sem] max2_int min2_int max_two min_two max_three min_three max_four min_four   -- for this text's walks alone
set_option linter.unusedVariables false
set_option linter.unusedSimpArgs false

/-! ### laws_markValueS: function 26 -/
def laws_markValueS.l0 : Nat → List (S75) → Int → Int → Option (Int × (List (S75)))
 | 0, _, _, _ => none
 | k + 1, x0, x1, x5 => if x5 < (x0.length : Int) then (if 0 ≤ x5 then ((some (x0.set (x5 : Int).toNat (⟨x1, (rd_T75 x0 x5).f1, (rd_T75 x0 x5).f2⟩ : S75) : List (S75))).bind fun y347 => ((laws_markText.f k (wrap64 (x1 + 1))).bind fun t348 => ((some (y347.set (x5 : Int).toNat (⟨(rd_T75 y347 x5).f0, t348, (rd_T75 y347 x5).f2⟩ : S75) : List (S75))).bind fun y349 => (laws_markValueS.l0 k (y349.set (x5 : Int).toNat (⟨(rd_T75 y349 x5).f0, (rd_T75 y349 x5).f1, wrap64 ((wrap64 (x1 + 1)) + 1)⟩ : S75)) (wrap64 ((wrap64 ((wrap64 (x1 + 1)) + 1)) + 1)) (wrap64 (x5 + 1)))))) else (none)) else (some (x1, x0))
def laws_markValueS.f (k : Nat) (l0 : List (S75)) (a1 : Int) : Option (Int × (List (S75))) := laws_markValueS.l0 k l0 a1 0
theorem laws_markValueS.mono_l : ∀ k, (∀ y0 y1 y2, LeO (laws_markValueS.l0 k y0 y1 y2) (laws_markValueS.l0 (k + 1) y0 y1 y2))
 | 0 => fun _ _ _ r h => by simp [laws_markValueS.l0] at h
 | k + 1 => by
  have ih0 := laws_markValueS.mono_l k
  ·
   intro y0 y1 y2
   unfold laws_markValueS.l0
   repeat' first
   | (with_reducible exact ih0 _ _ _)
   | (with_reducible exact laws_markText.mono _ _)
   | (with_reducible exact LeO.refl _)
   | (with_reducible exact LeO.none _)
   | (with_reducible refine LeO.ite ?_ ?_)
   | (with_reducible refine LeO.bind ?_ (fun _ => ?_))
   | exact ih0 _ _ _
   | exact laws_markText.mono _ _
   | exact LeO.none _
   | refine LeO.ite ?_ ?_
   | refine LeO.bind ?_ (fun _ => ?_)
theorem laws_markValueS.mono : ∀ a0 a1 k, LeO (laws_markValueS.f k a0 a1) (laws_markValueS.f (k + 1) a0 a1) := by
 intro a0 a1 k
 have ih0 := laws_markValueS.mono_l k
 unfold laws_markValueS.f
 repeat' first
   | (with_reducible exact ih0 _ _ _)
   | (with_reducible exact laws_markText.mono _ _)
   | (with_reducible exact LeO.refl _)
   | (with_reducible exact LeO.none _)
   | (with_reducible refine LeO.ite ?_ ?_)
   | (with_reducible refine LeO.bind ?_ (fun _ => ?_))
   | exact ih0 _ _ _
   | exact laws_markText.mono _ _
   | exact LeO.none _
   | refine LeO.ite ?_ ?_
   | refine LeO.bind ?_ (fun _ => ?_)
set_option maxHeartbeats 8000000 in
set_option maxRecDepth 100000 in
theorem laws_markValueS.calls (k : Nat) (P0_ : Nat → Prop) (u9000_ : Value) (l0 : List (S75)) (a1 : Int) (r1 : Int) (r2 : List (S75)) (w0 w : World) (hB : Below w0.heap.size w0 w) (ho0 : Kd.R k75 75 w w0.heap.size P0_ u9000_ l0) (h : laws_markValueS.f k l0 a1 = some (r1, r2)) :
  Calls Try.prog 26 #[u9000_, .int .i64 a1] w fun e w' => e = .returned (.int .i64 r1) ∧ Kd.R k75 75 w' w0.heap.size (fun k_ => (P0_ k_ ∨ w.heap.size ≤ k_)) u9000_ r2 ∧ Below w0.heap.size w0 w' ∧ Kept w w' (fun k_ => P0_ k_) := by
 have HO0 := Aside0.mk (show Kd.R k75 75 w w0.heap.size (fun k_ => (P0_ k_ ∨ w.heap.size ≤ k_)) u9000_ l0 from Kd.R_mono ho0 (fun k_ hk => (.inl hk)))
 have HK := Aside0.mk (Kept.refl w (fun k_ => P0_ k_))
 have HW0 := Aside0.mk hB.size
 have HB := Aside0.mk hB
 clear hB
 have H : (laws_markValueS.l0 k l0 a1 0) = some (r1, r2) := h
 clear h
 have H' := Aside0.mk H
 clear H
 go_enter Try.func26, Try.ntmps26
 go_wp2
 (try simp only [Act.put, List.setIfInBounds_toArray, List.set_cons_zero, List.set_cons_succ])
 go_loopg [1, 5] k (fun kq v1 v5 w' => ∃ (x0_1 : List (S75)) (x1_1 : Int) (x5_1 : Int), v1 = .int .i64 x1_1 ∧ v5 = .int .i64 x5_1 ∧ Aside0 (laws_markValueS.l0 kq x0_1 x1_1 x5_1 = some (r1, r2)) ∧ Aside0 (kq ≤ k) ∧ Aside0 (Kd.R k75 75 w' w0.heap.size (fun k_ => (P0_ k_ ∨ w.heap.size ≤ k_)) u9000_ x0_1) ∧ Aside0 (Kept w w' (fun k_ => P0_ k_)) ∧ Aside0 (Below w0.heap.size w0 w'))
 case atStart => exact ⟨(l0), (a1), (0), (by first | rfl | (simp; done) | (simp [*]; done)), (by first | rfl | (simp; done) | (simp [*]; done)), H', ⟨Nat.le_refl _⟩, ⟨by (with_reducible repeat (first | apply Kd.R_alloc | apply Kd.R_drewN | apply Kd.R_drew)); exact HO0.out⟩, ⟨by repeat (first | (with_reducible first | exact HK.out | apply Kept.alloc | apply Kept.drewN | apply Kept.drew) | exact HK.out)⟩, ⟨bw HB.out⟩⟩
 case round =>
  clear H'
  try clear c2
  try clear p2
  obtain ⟨x0_1, x1_1, x5_1, rfl, rfl, HA, HK1, HO_0, HK, HB⟩ := hrel
  cases gk with
  | zero => exact absurd HA.out (by simp [laws_markValueS.l0])
  | succ k1 =>
   have H := HA.out
   clear HA
   simp only [laws_markValueS.l0] at H
   by_cases c3 : x5_1 < (x0_1.length : Int)
   ·
    rw [if_pos c3] at H
    have c3b0 : decide (x5_1 < (x0_1.length : Int)) = true := decide_eq_true c3
    clear c3
    by_cases c4 : 0 ≤ x5_1
    ·
     rw [if_pos c4] at H
     have c4b0 : decide (0 ≤ x5_1) = true := decide_eq_true c4
     clear c4
     obtain ⟨y347, hy347⟩ : ∃ y_ : List (S75), y_ = (x0_1.set (x5_1 : Int).toNat (⟨x1_1, (rd_T75 x0_1 x5_1).f1, (rd_T75 x0_1 x5_1).f2⟩ : S75)) := ⟨_, rfl⟩
     replace H : ((laws_markText.f k1 (wrap64 (x1_1 + 1))).bind fun t348 => ((some (y347.set (x5_1 : Int).toNat (⟨(rd_T75 y347 x5_1).f0, t348, (rd_T75 y347 x5_1).f2⟩ : S75) : List (S75))).bind fun y349 => (laws_markValueS.l0 k1 (y349.set (x5_1 : Int).toNat (⟨(rd_T75 y349 x5_1).f0, (rd_T75 y349 x5_1).f1, wrap64 ((wrap64 (x1_1 + 1)) + 1)⟩ : S75)) (wrap64 ((wrap64 ((wrap64 (x1_1 + 1)) + 1)) + 1)) (wrap64 (x5_1 + 1))))) = some (r1, r2) := by first | (rw [hy347]; with_reducible exact H) | (have H2_ := (Option.bind_some _ _).symm.trans H; rw [hy347]; with_reducible exact H2_) | (have H2_ := (Option.bind_some _ _).symm.trans H; with_reducible exact H2_) | with_reducible exact H | (rw [hy347]; exact H) | exact H
     have Ny347 := Aside0.mk hy347
     clear hy347
     replace H := Option.bind_eq_some_iff.mp H
     obtain ⟨t348, A60, H⟩ := H
     replace H : ((some (y347.set (x5_1 : Int).toNat (⟨(rd_T75 y347 x5_1).f0, t348, (rd_T75 y347 x5_1).f2⟩ : S75) : List (S75))).bind fun y349 => (laws_markValueS.l0 k1 (y349.set (x5_1 : Int).toNat (⟨(rd_T75 y349 x5_1).f0, (rd_T75 y349 x5_1).f1, wrap64 ((wrap64 (x1_1 + 1)) + 1)⟩ : S75)) (wrap64 ((wrap64 ((wrap64 (x1_1 + 1)) + 1)) + 1)) (wrap64 (x5_1 + 1)))) = some (r1, r2) := H
     have A6 := Aside0.mk A60
     clear A60
     obtain ⟨y349, hy349⟩ : ∃ y_ : List (S75), y_ = (y347.set (x5_1 : Int).toNat (⟨(rd_T75 y347 x5_1).f0, t348, (rd_T75 y347 x5_1).f2⟩ : S75)) := ⟨_, rfl⟩
     replace H : (laws_markValueS.l0 k1 (y349.set (x5_1 : Int).toNat (⟨(rd_T75 y349 x5_1).f0, (rd_T75 y349 x5_1).f1, wrap64 ((wrap64 (x1_1 + 1)) + 1)⟩ : S75)) (wrap64 ((wrap64 ((wrap64 (x1_1 + 1)) + 1)) + 1)) (wrap64 (x5_1 + 1))) = some (r1, r2) := by first | (rw [hy349]; with_reducible exact H) | (have H2_ := (Option.bind_some _ _).symm.trans H; rw [hy349]; with_reducible exact H2_) | (have H2_ := (Option.bind_some _ _).symm.trans H; with_reducible exact H2_) | with_reducible exact H | (rw [hy349]; exact H) | exact H
     have Ny349 := Aside0.mk hy349
     clear hy349
     obtain ⟨y350, hy350⟩ : ∃ y_ : List (S75), y_ = (y349.set (x5_1 : Int).toNat (⟨(rd_T75 y349 x5_1).f0, (rd_T75 y349 x5_1).f1, wrap64 ((wrap64 (x1_1 + 1)) + 1)⟩ : S75)) := ⟨_, rfl⟩
     replace H : (laws_markValueS.l0 k1 y350 (wrap64 ((wrap64 ((wrap64 (x1_1 + 1)) + 1)) + 1)) (wrap64 (x5_1 + 1))) = some (r1, r2) := by first | (rw [hy350]; with_reducible exact H) | (have H2_ := (Option.bind_some _ _).symm.trans H; rw [hy350]; with_reducible exact H2_) | (have H2_ := (Option.bind_some _ _).symm.trans H; with_reducible exact H2_) | with_reducible exact H | (rw [hy350]; exact H) | exact H
     have Ny350 := Aside0.mk hy350
     clear hy350
     have H' := Aside0.mk H
     clear H
     obtain ⟨Ao9, co9, eo9⟩ := Kd.R_slice HO_0.out
     subst eo9
     have p5 : 0 ≤ (x5_1 : Int) := of_decide_eq_true (by first | (with_reducible assumption) | assumption)
     have q5 : (x5_1 : Int) < ((x0_1.length : Int) : Int) := of_decide_eq_true (by first | (with_reducible assumption) | assumption)
     obtain ⟨go5, co5, eo5, gb5, gl5, cl5, HG5⟩ := Kd.R_form HO_0.out (by omega)
     (first | cases eo5 | (injection eo5 with ea_ en_ ec_; (first | subst ea_ | (injection ea_ with ea_; subst ea_)); subst ec_; clear en_))
     have GB5 := Aside0.mk gb5
     have GG5 := Aside0.mk HG5
     clear gb5 gl5 HG5
     have HMgo5 := Aside0.mk (show (P0_ go5 ∨ w.heap.size ≤ go5) from (HO_0.out.1 _ rfl))
     obtain ⟨ce5, hcl5, hM5, hcc5, hfr5⟩ := Kd.R_elem HO_0.out z75 (x5_1 : Int) p5 q5
     obtain rfl := k75_openM hM5
     have hx5_0 : wr.cell? ⟨go5, (x5_1 : Int).toNat * 3, none⟩ = some (.int .i64 ((rd_T75 x0_1 x5_1).f0)) := hcc5 0 _ rfl
     have hx5_1 : wr.cell? ⟨go5, (x5_1 : Int).toNat * 3 + 1, none⟩ = some (.string ((rd_T75 x0_1 x5_1).f1)) := hcc5 1 _ rfl
     have hx5_2 : wr.cell? ⟨go5, (x5_1 : Int).toNat * 3 + 2, none⟩ = some (.int .i64 ((rd_T75 x0_1 x5_1).f2)) := hcc5 2 _ rfl
     have hf5_0 : wr.frozen? ⟨go5, (x5_1 : Int).toNat * 3, none⟩ = false := hfr5 0
     have hf5_1 : wr.frozen? ⟨go5, (x5_1 : Int).toNat * 3 + 1, none⟩ = false := hfr5 1
     have hf5_2 : wr.frozen? ⟨go5, (x5_1 : Int).toNat * 3 + 2, none⟩ = false := hfr5 2
     clear hcl5 hcc5 hfr5 hM5
     replace p5 := eq_true p5
     replace q5 := eq_true q5
     have HX10 := Aside0.mk (show Kd.R k75 75 wr w0.heap.size (fun k_ => (P0_ k_ ∨ w.heap.size ≤ k_)) (.slice (some ⟨go5, 0, none⟩) x0_1.length co9) x0_1 from (by (with_reducible repeat (first | apply Kd.R_alloc | apply Kd.R_drewN | apply Kd.R_drew)); exact HO_0.out))
     obtain ⟨ce10, hcl10, hM10, hcc10, hfr10⟩ := Kd.R_elem HX10.out z75 (x5_1 : Int) (of_decide_eq_true (by first | (with_reducible assumption) | assumption)) (by have h_ : (x5_1 : Int) < ((x0_1.length : Int) : Int) := of_decide_eq_true (by first | (with_reducible assumption) | assumption); first | exact h_ | (have e_ := (Kd.R_reads' HO_0.out).1; omega) | simpa using h_)
     obtain rfl := k75_openM hM10
     have HP10 := Kd.R_seg HX10.out (x5_1 : Int) (of_decide_eq_true (by first | (with_reducible assumption) | assumption)) (by have h_ : (x5_1 : Int) < ((x0_1.length : Int) : Int) := of_decide_eq_true (by first | (with_reducible assumption) | assumption); first | exact h_ | (have e_ := (Kd.R_reads' HO_0.out).1; omega) | simpa using h_) (seg := [.int .i64 x1_1]) (j := 0) hcl10 hcc10 (show 1 ≤ 3 from by decide) (x' := (⟨x1_1, (rd_T75 x0_1 x5_1).f1, (rd_T75 x0_1 x5_1).f2⟩ : S75)) (k75_mkM _ _ _ (⟨x1_1, (rd_T75 x0_1 x5_1).f1, (rd_T75 x0_1 x5_1).f2⟩ : S75) ) (fun _ hk => hk)
     have hx10_0 := hcc10 0 _ rfl
     (try simp only [show (k75).sz = 3 from rfl, Nat.mul_one, Nat.add_zero] at hx10_0)
     have hf10_0 := hfr10 0
     (try simp only [show (k75).sz = 3 from rfl, Nat.mul_one, Nat.add_zero] at hf10_0)
     clear hcl10 hcc10 hfr10 hM10
     go_wp2_with (first | ((with_reducible refine gate_store (t := 3) (p := 16) rfl ?_); refine store_event (t := 3) (p := 16) (v := ?vo_w11) (w1 := (wr.setCell ⟨go5, (x5_1 : Int).toNat * 3, none⟩ (.int .i64 x1_1))) ?hg ?ho ?hn ?hr ?_; (case ho => rfl); (case hg => rfl); (case hn => rfl); (case hr => first | (go_simp; done) | (go_simp; rfl)); intro w11 hw; have hg : wr.grownBy w11 (some go5) := (by rw [hw]; exact HP10.2); have hp_ : Kd.R k75 75 w11 w0.heap.size (fun k_ => (P0_ k_ ∨ w.heap.size ≤ k_)) (.slice (some ⟨go5, 0, none⟩) x0_1.length co9) y347 := (by rw [hw, Ny347.out]; exact HP10.1); clear HP10; have n0_ := Aside0.mk (hp_); have n1_ := Aside0.mk ((by rw [hw]; exact below_set (HB.out) GB5.out : Below w0.heap.size w0 w11)); have n2_ := Aside0.mk (Kept.of_grown (S := (fun k_ => P0_ k_)) hg (by repeat (first | (with_reducible first | exact HK.out | apply Kept.alloc | apply Kept.drewN | apply Kept.drew) | exact HK.out)) (fun k_ e_ => (HO_0.out.1 k_ e_))); clear HO_0; clear HB; clear HK; have HO_0 := n0_; have HB := n1_; have HK := n2_; clear n0_ n1_ n2_; clear hg hw hp_) | ((with_reducible refine gate_callee (f := 53) rfl ?_); refine goesL_ (some 22) rfl rfl Try.func53 (by kernel_rfl) rfl #[.int .i64 (wrap64 (x1_1 + 1))] rfl ar ?_; (with_reducible refine (laws_markText.calls k1 (wrap64 (x1_1 + 1)) t348 _ A6.out).mono ?_); rintro e w12 ⟨rfl, hb⟩; refine ⟨_, rfl, ?_⟩; have n0_ := Aside0.mk (Kd.R_below (by (with_reducible repeat (first | apply Kd.R_alloc | apply Kd.R_drewN | apply Kd.R_drew)); exact HO_0.out) hb); have n1_ := Aside0.mk (Kept.below (S := (fun k_ => P0_ k_)) (by repeat (first | (with_reducible first | exact HK.out | apply Kept.alloc | apply Kept.drewN | apply Kept.drew) | exact HK.out)) hb); have n2_ := Aside0.mk (below_step (bw HB.out) hb); clear HO_0; clear HK; clear HB; have HO_0 := n0_; have HK := n1_; have HB := n2_; clear n0_ n1_ n2_; (try clear hb); have p7 : 0 ≤ (x5_1 : Int) := of_decide_eq_true (by first | (with_reducible assumption) | assumption); have q7 : (x5_1 : Int) < ((x0_1.length : Int) : Int) := of_decide_eq_true (by first | (with_reducible assumption) | assumption); obtain ⟨ce7, hcl7, hM7, hcc7, hfr7⟩ := Kd.R_elem HO_0.out z75 (x5_1 : Int) p7 q7; obtain rfl := k75_openM hM7; have hx7_0 : w12.cell? ⟨go5, (x5_1 : Int).toNat * 3, none⟩ = some (.int .i64 ((rd_T75 y347 x5_1).f0)) := hcc7 0 _ rfl; have hx7_1 : w12.cell? ⟨go5, (x5_1 : Int).toNat * 3 + 1, none⟩ = some (.string ((rd_T75 y347 x5_1).f1)) := hcc7 1 _ rfl; have hx7_2 : w12.cell? ⟨go5, (x5_1 : Int).toNat * 3 + 2, none⟩ = some (.int .i64 ((rd_T75 y347 x5_1).f2)) := hcc7 2 _ rfl; have hf7_0 : w12.frozen? ⟨go5, (x5_1 : Int).toNat * 3, none⟩ = false := hfr7 0; have hf7_1 : w12.frozen? ⟨go5, (x5_1 : Int).toNat * 3 + 1, none⟩ = false := hfr7 1; have hf7_2 : w12.frozen? ⟨go5, (x5_1 : Int).toNat * 3 + 2, none⟩ = false := hfr7 2; clear hcl7 hcc7 hfr7 hM7; replace p7 := eq_true p7; replace q7 := eq_true q7; have HX13 := Aside0.mk (show Kd.R k75 75 w12 w0.heap.size (fun k_ => (P0_ k_ ∨ w.heap.size ≤ k_)) (.slice (some ⟨go5, 0, none⟩) x0_1.length co9) y347 from (by (with_reducible repeat (first | apply Kd.R_alloc | apply Kd.R_drewN | apply Kd.R_drew)); exact HO_0.out)); obtain ⟨ce13, hcl13, hM13, hcc13, hfr13⟩ := Kd.R_elem HX13.out z75 (x5_1 : Int) (of_decide_eq_true (by first | (with_reducible assumption) | assumption)) (by have h_ : (x5_1 : Int) < ((x0_1.length : Int) : Int) := of_decide_eq_true (by first | (with_reducible assumption) | assumption); first | exact h_ | (have e_ := (Kd.R_reads' HO_0.out).1; omega) | simpa using h_); obtain rfl := k75_openM hM13; have HP13 := Kd.R_seg HX13.out (x5_1 : Int) (of_decide_eq_true (by first | (with_reducible assumption) | assumption)) (by have h_ : (x5_1 : Int) < ((x0_1.length : Int) : Int) := of_decide_eq_true (by first | (with_reducible assumption) | assumption); first | exact h_ | (have e_ := (Kd.R_reads' HO_0.out).1; omega) | simpa using h_) (seg := [.string t348]) (j := 1) hcl13 hcc13 (show 2 ≤ 3 from by decide) (x' := (⟨(rd_T75 y347 x5_1).f0, t348, (rd_T75 y347 x5_1).f2⟩ : S75)) (k75_mkM _ _ _ (⟨(rd_T75 y347 x5_1).f0, t348, (rd_T75 y347 x5_1).f2⟩ : S75) ) (fun _ hk => hk); have hx13_1 := hcc13 1 _ rfl; (try simp only [show (k75).sz = 3 from rfl, Nat.mul_one, Nat.add_zero] at hx13_1); have hf13_1 := hfr13 1; (try simp only [show (k75).sz = 3 from rfl, Nat.mul_one, Nat.add_zero] at hf13_1); clear hcl13 hcc13 hfr13 hM13) | ((with_reducible refine gate_store (t := 9) (p := 24) rfl ?_); refine store_event (t := 9) (p := 24) (v := ?vo_w14) (w1 := (w12.setCell ⟨go5, (x5_1 : Int).toNat * 3 + 1, none⟩ (.string t348))) ?hg ?ho ?hn ?hr ?_; (case ho => rfl); (case hg => rfl); (case hn => rfl); (case hr => first | (go_simp; done) | (go_simp; rfl)); intro w14 hw; have hg : w12.grownBy w14 (some go5) := (by rw [hw]; exact HP13.2); have hp_ : Kd.R k75 75 w14 w0.heap.size (fun k_ => (P0_ k_ ∨ w.heap.size ≤ k_)) (.slice (some ⟨go5, 0, none⟩) x0_1.length co9) y349 := (by rw [hw, Ny349.out]; exact HP13.1); clear HP13; have n0_ := Aside0.mk (hp_); have n1_ := Aside0.mk ((by rw [hw]; exact below_set (HB.out) GB5.out : Below w0.heap.size w0 w14)); have n2_ := Aside0.mk (Kept.of_grown (S := (fun k_ => P0_ k_)) hg (by repeat (first | (with_reducible first | exact HK.out | apply Kept.alloc | apply Kept.drewN | apply Kept.drew) | exact HK.out)) (fun k_ e_ => (HO_0.out.1 k_ e_))); clear HO_0; clear HB; clear HK; have HO_0 := n0_; have HB := n1_; have HK := n2_; clear n0_ n1_ n2_; clear hg hw hp_; have p8 : 0 ≤ (x5_1 : Int) := of_decide_eq_true (by first | (with_reducible assumption) | assumption); have q8 : (x5_1 : Int) < ((x0_1.length : Int) : Int) := of_decide_eq_true (by first | (with_reducible assumption) | assumption); obtain ⟨ce8, hcl8, hM8, hcc8, hfr8⟩ := Kd.R_elem HO_0.out z75 (x5_1 : Int) p8 q8; obtain rfl := k75_openM hM8; have hx8_0 : w14.cell? ⟨go5, (x5_1 : Int).toNat * 3, none⟩ = some (.int .i64 ((rd_T75 y349 x5_1).f0)) := hcc8 0 _ rfl; have hx8_1 : w14.cell? ⟨go5, (x5_1 : Int).toNat * 3 + 1, none⟩ = some (.string ((rd_T75 y349 x5_1).f1)) := hcc8 1 _ rfl; have hx8_2 : w14.cell? ⟨go5, (x5_1 : Int).toNat * 3 + 2, none⟩ = some (.int .i64 ((rd_T75 y349 x5_1).f2)) := hcc8 2 _ rfl; have hf8_0 : w14.frozen? ⟨go5, (x5_1 : Int).toNat * 3, none⟩ = false := hfr8 0; have hf8_1 : w14.frozen? ⟨go5, (x5_1 : Int).toNat * 3 + 1, none⟩ = false := hfr8 1; have hf8_2 : w14.frozen? ⟨go5, (x5_1 : Int).toNat * 3 + 2, none⟩ = false := hfr8 2; clear hcl8 hcc8 hfr8 hM8; replace p8 := eq_true p8; replace q8 := eq_true q8; have HX15 := Aside0.mk (show Kd.R k75 75 w14 w0.heap.size (fun k_ => (P0_ k_ ∨ w.heap.size ≤ k_)) (.slice (some ⟨go5, 0, none⟩) x0_1.length co9) y349 from (by (with_reducible repeat (first | apply Kd.R_alloc | apply Kd.R_drewN | apply Kd.R_drew)); exact HO_0.out)); obtain ⟨ce15, hcl15, hM15, hcc15, hfr15⟩ := Kd.R_elem HX15.out z75 (x5_1 : Int) (of_decide_eq_true (by first | (with_reducible assumption) | assumption)) (by have h_ : (x5_1 : Int) < ((x0_1.length : Int) : Int) := of_decide_eq_true (by first | (with_reducible assumption) | assumption); first | exact h_ | (have e_ := (Kd.R_reads' HO_0.out).1; omega) | simpa using h_); obtain rfl := k75_openM hM15; have HP15 := Kd.R_seg HX15.out (x5_1 : Int) (of_decide_eq_true (by first | (with_reducible assumption) | assumption)) (by have h_ : (x5_1 : Int) < ((x0_1.length : Int) : Int) := of_decide_eq_true (by first | (with_reducible assumption) | assumption); first | exact h_ | (have e_ := (Kd.R_reads' HO_0.out).1; omega) | simpa using h_) (seg := [.int .i64 (wrap64 ((wrap64 (x1_1 + 1)) + 1))]) (j := 2) hcl15 hcc15 (show 3 ≤ 3 from by decide) (x' := (⟨(rd_T75 y349 x5_1).f0, (rd_T75 y349 x5_1).f1, wrap64 ((wrap64 (x1_1 + 1)) + 1)⟩ : S75)) (k75_mkM _ _ _ (⟨(rd_T75 y349 x5_1).f0, (rd_T75 y349 x5_1).f1, wrap64 ((wrap64 (x1_1 + 1)) + 1)⟩ : S75) ) (fun _ hk => hk); have hx15_2 := hcc15 2 _ rfl; (try simp only [show (k75).sz = 3 from rfl, Nat.mul_one, Nat.add_zero] at hx15_2); have hf15_2 := hfr15 2; (try simp only [show (k75).sz = 3 from rfl, Nat.mul_one, Nat.add_zero] at hf15_2); clear hcl15 hcc15 hfr15 hM15) | ((with_reducible refine gate_store (t := 3) (p := 31) rfl ?_); refine store_event (t := 3) (p := 31) (v := ?vo_w16) (w1 := (w14.setCell ⟨go5, (x5_1 : Int).toNat * 3 + 2, none⟩ (.int .i64 (wrap64 ((wrap64 (x1_1 + 1)) + 1))))) ?hg ?ho ?hn ?hr ?_; (case ho => rfl); (case hg => rfl); (case hn => rfl); (case hr => first | (go_simp; done) | (go_simp; rfl)); intro w16 hw; have hg : w14.grownBy w16 (some go5) := (by rw [hw]; exact HP15.2); have hp_ : Kd.R k75 75 w16 w0.heap.size (fun k_ => (P0_ k_ ∨ w.heap.size ≤ k_)) (.slice (some ⟨go5, 0, none⟩) x0_1.length co9) y350 := (by rw [hw, Ny350.out]; exact HP15.1); clear HP15; have n0_ := Aside0.mk (hp_); have n1_ := Aside0.mk ((by rw [hw]; exact below_set (HB.out) GB5.out : Below w0.heap.size w0 w16)); have n2_ := Aside0.mk (Kept.of_grown (S := (fun k_ => P0_ k_)) hg (by repeat (first | (with_reducible first | exact HK.out | apply Kept.alloc | apply Kept.drewN | apply Kept.drew) | exact HK.out)) (fun k_ e_ => (HO_0.out.1 k_ e_))); clear HO_0; clear HB; clear HK; have HO_0 := n0_; have HB := n1_; have HK := n2_; clear n0_ n1_ n2_; clear hg hw hp_))
     go_roundg k1
     case measure => have := HK1.out; omega
     case rel => exact ⟨(y350), (wrap64 ((wrap64 ((wrap64 (x1_1 + 1)) + 1)) + 1)), (wrap64 (x5_1 + 1)), (by first | rfl | (simp; done) | (simp [*]; done)), (by first | rfl | (simp; done) | (simp [*]; done)), H', ⟨by have := HK1.out; omega⟩, ⟨by (with_reducible repeat (first | apply Kd.R_alloc | apply Kd.R_drewN | apply Kd.R_drew)); exact HO_0.out⟩, ⟨by repeat (first | (with_reducible first | exact HK.out | apply Kept.alloc | apply Kept.drewN | apply Kept.drew) | exact HK.out)⟩, ⟨bw HB.out⟩⟩
    ·
     rw [if_neg c4] at H
     exact absurd H (by simp)
   ·
    rw [if_neg c3] at H
    have c3b0 : decide (x5_1 < (x0_1.length : Int)) = false := decide_eq_false c3
    clear c3
    simp only [Option.some.injEq, Prod.mk.injEq] at H
    obtain ⟨rfl, rfl⟩ := H
    obtain ⟨Ao17, co17, eo17⟩ := Kd.R_slice HO_0.out
    subst eo17
    go_wp2
    go_ret
    exact ⟨by first | rfl | (simp [errW_none, errW_some] <;> rfl) | (simp [*, errW_none, errW_some] <;> rfl), by (with_reducible repeat (first | apply Kd.R_alloc | apply Kd.R_drewN | apply Kd.R_drew)); exact HO_0.out, bw HB.out, by repeat (first | (with_reducible first | exact HK.out | apply Kept.alloc | apply Kept.drewN | apply Kept.drew) | exact HK.out)⟩

end Go.Proofs.Ytlgegdgilkaldaa.Q

