/- Both readers of a func tell the same. -/
import Derived.Test.YtmmlgkepnjelnaaRd
import Derived.Test.YtmmlgkepnjelnaaDe
import Derived.Test.YtmmlgkepnjelnaaQx3
import Derived.Test.YtmmlgkepnjelnaaQx5
namespace Go.Proofs.Ytmmlgkepnjelnaa.Fu
open Go.RowKit Go.Proofs.Ytmmlgkepnjelnaa.Q Go.Proofs.YtmmlgkepnjelnaaW.PrintWords Go.Proofs.YtmmlgkepnjelnaaW.PrintLast Go.Proofs.YtmmlgkepnjelnaaW.PrintMore Go.Proofs.Ytmmlgkepnjelnaa.Mb Go.Proofs.Ytmmlgkepnjelnaa.Leb Go.Proofs.Ytmmlgkepnjelnaa.Ins Go.Proofs.Ytmmlgkepnjelnaa.Rd Go.Proofs.Ytmmlgkepnjelnaa.De
set_option linter.unusedSimpArgs false
set_option linter.unusedVariables false

theorem ev_is {α : Type} {g : Option α} {r : α} (h : g = some r) : Ev (fun _ => g) r := ⟨0, fun _ _ => h⟩
theorem Byt_nil : Byt [] := fun x hx => by cases hx
/-- What is read has bytes for its operations. -/
theorem read_byt (k : Nat) : ∀ (s : ByteArray) (acc : List S44) (R : List S44 × Bool), impl_ReadCode.l0 k s acc = some R → Byt acc → Byt R.1 := by
  induction k with
  | zero => intro s acc R h _; rw [impl_ReadCode.l0] at h; cases h
  | succ k ih =>
    intro s acc R h hb
    rw [impl_ReadCode.l0] at h
    split at h
    · obtain rfl := Option.some.inj h; exact hb
    split at h
    · split at h
      · obtain ⟨t, _, h⟩ := Option.bind_eq_some_iff.1 h
        obtain ⟨u, _, h⟩ := Option.bind_eq_some_iff.1 h
        split at h
        · obtain ⟨v, _, h⟩ := Option.bind_eq_some_iff.1 h
          split at h
          · split at h
            · obtain rfl := Option.some.inj h; exact Byt_nil
            split at h
            · split at h
              · split at h
                · refine ih _ _ R h (fun x hx => ?_)
                  rcases List.mem_append.1 hx with hx | hx
                  · exact hb x hx
                  · rw [List.mem_singleton] at hx
                    subst hx
                    have := bt_range s 0
                    show 0 ≤ wrap64 (bt s 0) ∧ wrap64 (bt s 0) ≤ 255
                    rw [w64 (by omega) (by omega)]
                    exact this
                · cases h
              · cases h
            · cases h
          · obtain rfl := Option.some.inj h; exact Byt_nil
        · obtain rfl := Option.some.inj h; exact Byt_nil
      · cases h
    · cases h
theorem ext0 (s : ByteArray) : s.extract 0 s.size = s := by
  apply ba_same
  rw [tl_ext, List.drop_zero, List.take_of_length_le (by rw [Array.length_toList]; exact Nat.le_refl _)]
theorem code_same (t : ByteArray) (ht : t.size ≤ 1000000000) : ∃ R : List S44 × Bool, Ev (fun k => impl_ReadCode.f k t) R ∧ Ev (fun k => spec_l6Read.f k t) R ∧ R.1.length ≤ 200 ∧ Byt R.1 := by
  obtain ⟨R, hI, hS, hl⟩ := read_same t ht t.size 0 [] (by omega) (by simp)
  rw [ext0] at hI
  obtain ⟨k, hk⟩ := Ev.rounds hI
  exact ⟨R, hI, hS, hl, read_byt k t [] R hk Byt_nil⟩
def sA (k : Nat) (P : List Int) (res : Int) (L : List Int) (y : ByteArray × Int × Bool) : Option (List Int × Int × List Int × (List S44) × ByteArray × Int × Bool) := (spec_l9R_num.f k y.1 y.2.1 y.2.2 32).bind fun bt221 => (if bt221.1 > (IntKind.u64.wrap (wrap64 ((bt221.2.1.size : Int) - bt221.2.2.1))) then (spec_l9R_function.j0 k bt221.1 bt221.2.1 bt221.2.2.1 true P res L) else (spec_l9R_function.j0 k bt221.1 bt221.2.1 bt221.2.2.1 bt221.2.2.2 P res L))
def sB (k : Nat) (P : List Int) (res : Int) (y : ByteArray × Int × Bool) := (spec_l9R_types.f k y.1 y.2.1 y.2.2).bind fun bt215 => sA k P res bt215.1 bt215.2
def sC (k : Nat) (P : List Int) (y : ByteArray × Int × Bool) := (spec_l9R_byte.f y.1 y.2.1 y.2.2).bind fun bt211 => sB k P bt211.1 bt211.2
theorem sD (k : Nat) (s : ByteArray) (a : Int) (b : Bool) : spec_l9R_function.f k s a b = (spec_l9R_types.f k s a b).bind fun bt204 => sC k bt204.1 bt204.2 := rfl
def iA (k : Nat) (P : List Int) (res : Int) (L : List Int) (y : ByteArray × Bool) : Option (List Int × Int × List Int × (List S44) × ByteArray × Bool) := (impl_scanner_number.f k y.1 y.2 32).bind fun bt314 => ((impl_scanner_take.f bt314.2.1 bt314.2.2 bt314.1).bind fun bt317 => ((impl_ReadCode.f k bt317.1).bind fun bt320 => (if bt317.2.2 = true then (some (P, res, L, bt320.1, bt317.2.1, true)) else (if bt320.2 = true then ((impl_goodFunc.f k P res L bt320.1).bind fun t324 => (some (P, res, L, bt320.1, bt317.2.1, !t324))) else (some (P, res, L, bt320.1, bt317.2.1, true))))))
def iB (k : Nat) (P : List Int) (res : Int) (y : ByteArray × Bool) := (impl_scanner_types.f k y.1 y.2).bind fun bt309 => iA k P res bt309.1 bt309.2
def iC (k : Nat) (P : List Int) (y : ByteArray × Bool) := (impl_scanner_byte.f y.1 y.2).bind fun bt305 => iB k P bt305.1 bt305.2
theorem iD (k : Nat) (s : ByteArray) (b : Bool) : impl_scanner_function.f k s b = (impl_scanner_types.f k s b).bind fun bt300 => iC k bt300.1 bt300.2 := rfl
/-! once something was not there -/
def BadS (f : Nat → Option (List Int × Int × List Int × (List S44) × ByteArray × Int × Bool)) : Prop := ∃ P res L B s a, Ev f (P, res, L, B, s, a, true)
def BadI (f : Nat → Option (List Int × Int × List Int × (List S44) × ByteArray × Bool)) : Prop := ∃ P res L B r, Ev f (P, res, L, B, r, true)
theorem j0_bad (n : Int) (s : ByteArray) (a : Int) (P : List Int) (res : Int) (L : List Int) : Ev (fun k => spec_l9R_function.j0 k n s a true P res L) (P, res, L, [], s, a, true) :=
  Ev.step (f := fun _ => some (P, res, L, [], s, a, true)) (fun k => by rw [spec_l9R_function.j0, if_pos rfl]) (Ev.now _)
theorem sA_bad (s : ByteArray) (hs : s.size ≤ 2000000) (a : Nat) (h : a ≤ s.size) (P : List Int) (res : Int) (L : List Int) : BadS (fun k => sA k P res L (s, (a : Int), true)) := by
  obtain ⟨n, t, _, _, h2, h3, _⟩ := numS s (by omega) a h
  refine ⟨P, res, L, [], s, ((a + t : Nat) : Int), Ev.bind (h3 true) ?_⟩
  rw [Bool.true_or]
  by_cases c : n > (IntKind.u64.wrap (wrap64 ((s.size : Int) - ((a + t : Nat) : Int))))
  · exact Ev.congr (fun k => if_pos c) (j0_bad n s _ P res L)
  · exact Ev.congr (fun k => if_neg c) (j0_bad n s _ P res L)
theorem sB_bad (s : ByteArray) (hs : s.size ≤ 2000000) (a : Nat) (h : a ≤ s.size) (P : List Int) (res : Int) : BadS (fun k => sB k P res (s, (a : Int), true)) := by
  obtain ⟨l, a2, h2, h3⟩ := typesS_bad s (by omega) a h
  obtain ⟨x1, x2, x3, x4, x5, x6, h4⟩ := sA_bad s hs a2 h2 P res l
  exact ⟨_, _, _, _, _, _, Ev.bind h3 h4⟩
theorem sC_bad (s : ByteArray) (hs : s.size ≤ 2000000) (a : Nat) (h : a ≤ s.size) (P : List Int) : BadS (fun k => sC k P (s, (a : Int), true)) := by
  obtain ⟨v, a2, b, h2, h3, h4⟩ := byteS s (by omega) a h true
  obtain rfl := h4 rfl
  obtain ⟨x1, x2, x3, x4, x5, x6, h5⟩ := sB_bad s hs a2 h2 P v
  exact ⟨_, _, _, _, _, _, Ev.bind (g := fun _ => spec_l9R_byte.f s (a : Int) true) (ev_is (h3)) h5⟩
theorem iA_bad (r : ByteArray) (hr : r.size ≤ 2000000) (P : List Int) (res : Int) (L : List Int) : BadI (fun k => iA k P res L (r, true)) := by
  obtain ⟨n, r1, b1, h0, _, h2, h3, h4⟩ := numI r (by omega) true
  obtain rfl := h4 rfl
  obtain ⟨u, r2, b2, hu, hr2, e, h5⟩ := takeI r1 (by omega) n h0 true
  obtain rfl := h5 rfl
  obtain ⟨R, hI, _, _, _⟩ := code_same u (by omega)
  refine ⟨P, res, L, R.1, r2, Ev.bind h3 ?_⟩
  refine Ev.bind (g := fun _ => impl_scanner_take.f r1 true n) (ev_is (e)) (Ev.bind hI ?_)
  exact Ev.congr (fun k => if_pos rfl) (Ev.now _)
theorem iB_bad (r : ByteArray) (hr : r.size ≤ 2000000) (P : List Int) (res : Int) : BadI (fun k => iB k P res (r, true)) := by
  obtain ⟨l, r1, b1, h2, h3, h4⟩ := typesI r (by omega) true
  obtain rfl := h4 rfl
  obtain ⟨x1, x2, x3, x4, x5, h5⟩ := iA_bad r1 (by omega) P res l
  exact ⟨_, _, _, _, _, Ev.bind h3 h5⟩
theorem iC_bad (r : ByteArray) (hr : r.size ≤ 2000000) (P : List Int) : BadI (fun k => iC k P (r, true)) := by
  obtain ⟨v, r1, b1, h2, h3, h4⟩ := byteI r (by omega) true
  obtain rfl := h4 rfl
  obtain ⟨x1, x2, x3, x4, x5, h5⟩ := iB_bad r1 (by omega) P v
  exact ⟨_, _, _, _, _, Ev.bind (g := fun _ => impl_scanner_byte.f r true) (ev_is (h3)) h5⟩
/-! side by side -/
def Same (s : ByteArray) (f : Nat → Option (List Int × Int × List Int × (List S44) × ByteArray × Int × Bool)) (g : Nat → Option (List Int × Int × List Int × (List S44) × ByteArray × Bool)) : Prop :=
  (∃ (P : List Int) (res : Int) (L : List Int) (B : List S44) (a : Nat) (b : Bool), a ≤ s.size ∧ P.length ≤ s.size ∧ L.length ≤ s.size ∧ B.length ≤ 200 ∧ Ev f (P, res, L, B, s, (a : Int), b) ∧ Ev g (P, res, L, B, ext s a, b)) ∨ (BadS f ∧ BadI g)
theorem A_same (s : ByteArray) (hs2 : s.size ≤ 2000000) (a : Nat) (h : a ≤ s.size) (P : List Int) (res : Int) (L : List Int) (hP : P.length ≤ s.size) (hL : L.length ≤ s.size) : Same s (fun k => sA k P res L (s, (a : Int), false)) (fun k => iA k P res L (ext s a, false)) := by
  obtain ⟨n, t, h0, h1, h2, h3, h4⟩ := numS s (by omega) a h
  have h3 := h3 false
  have h4 := h4 false
  rw [Bool.false_or] at h3 h4
  have hw : IntKind.u64.wrap (wrap64 ((s.size : Int) - ((a + t : Nat) : Int))) = ((s.size - (a + t) : Nat) : Int) := by
    rw [w64 (n := (s.size : Int) - ((a + t : Nat) : Int)) (by omega) (by omega), wu64 (by omega) (by omega)]
    omega
  by_cases c : t = 0
  · rw [show (t == 0) = true from beq_iff_eq.2 c] at h3 h4
    refine .inr ⟨⟨P, res, L, [], s, ((a + t : Nat) : Int), Ev.bind h3 ?_⟩, ?_⟩
    · by_cases c : n > (IntKind.u64.wrap (wrap64 ((s.size : Int) - ((a + t : Nat) : Int))))
      · exact Ev.congr (fun k => if_pos c) (j0_bad n s _ P res L)
      · exact Ev.congr (fun k => if_neg c) (j0_bad n s _ P res L)
    · obtain ⟨u, r2, b2, hu, hr2, e, h5⟩ := takeI (ext s (a + t)) (by rw [ext_sz]; omega) n h0 true
      obtain rfl := h5 rfl
      rw [ext_sz] at hu
      obtain ⟨R, hI, _, _, _⟩ := code_same u (by omega)
      refine ⟨P, res, L, R.1, r2, Ev.bind h4 ?_⟩
      refine Ev.bind (g := fun _ => impl_scanner_take.f (ext s (a + t)) true n) (ev_is (e)) (Ev.bind hI ?_)
      exact Ev.congr (fun k => if_pos rfl) (Ev.now _)
  · rw [beq_eq_false_iff_ne.2 c] at h3 h4
    by_cases cn : n > ((s.size - (a + t) : Nat) : Int)
    · refine .inr ⟨⟨P, res, L, [], s, ((a + t : Nat) : Int), Ev.bind h3 ?_⟩, ?_⟩
      · exact Ev.congr (fun k => if_pos (show n > (IntKind.u64.wrap (wrap64 ((s.size : Int) - ((a + t : Nat) : Int)))) by rw [hw]; exact cn)) (j0_bad n s _ P res L)
      · obtain ⟨R, hI, _, _, _⟩ := code_same ⟨#[]⟩ (by decide)
        refine ⟨P, res, L, R.1, ext s (a + t), Ev.bind h4 ?_⟩
        refine Ev.bind (g := fun _ => impl_scanner_take.f (ext s (a + t)) false n) (ev_is (take_no _ (by rw [ext_sz]; omega) n (by rw [ext_sz]; omega) false)) (Ev.bind hI ?_)
        exact Ev.congr (fun k => if_pos rfl) (Ev.now _)
    · obtain ⟨n, rfl⟩ := Int.eq_ofNat_of_zero_le h0
      obtain ⟨R, hI, hS, hl, hb⟩ := code_same (s.extract (a + t) (a + t + n)) (by rw [ByteArray.size_extract]; omega)
      obtain ⟨b, hgI, hgS⟩ := func_same P res L R.1 (by omega) (by omega) hb (by omega)
      refine .inl ⟨P, res, L, R.1, a + t + n, if R.2 = true then !b else true, by omega, hP, hL, hl, Ev.bind h3 ?_, Ev.bind h4 ?_⟩
      · refine Ev.congr (f := fun k => spec_l9R_function.j0 k (n : Int) s ((a + t : Nat) : Int) false P res L) (fun k => if_neg (show ¬ (n : Int) > (IntKind.u64.wrap (wrap64 ((s.size : Int) - ((a + t : Nat) : Int)))) by rw [hw]; exact cn)) ?_
        have e1 : wrap64 (((a + t : Nat) : Int) + wrap64 (n : Int)) = ((a + t + n : Nat) : Int) := by rw [w64 (n := (n : Int)) (by omega) (by omega), w64 (by omega) (by omega)]; omega
        refine Ev.step (f := fun k => (spec_l6Read.f k (s.extract (a + t) (a + t + n))).bind fun bt225 => (if bt225.2 = true then ((spec_l7Func.f k P res L bt225.1).bind fun t229 => (some (P, res, L, bt225.1, s, ((a + t + n : Nat) : Int), !t229))) else (some (P, res, L, bt225.1, s, ((a + t + n : Nat) : Int), true)))) (fun k => ?_) ?_
        · rw [spec_l9R_function.j0, if_neg (by decide), if_pos (by omega), e1, if_pos (by omega), if_pos (by omega), Int.toNat_natCast, Int.toNat_natCast]
        · refine Ev.bind hS ?_
          cases hR : R.2 with
          | true => rw [if_pos rfl]; exact Ev.congr (fun k => if_pos rfl) (Ev.bind hgS (Ev.now _))
          | false => rw [if_neg (by decide)]; exact Ev.congr (fun k => if_neg (by decide)) (Ev.now _)
      · refine Ev.bind (g := fun _ => impl_scanner_take.f (ext s (a + t)) false (n : Int)) (ev_is (take_yes s (by omega) (a + t) n (by omega) false)) (Ev.bind hI ?_)
        refine Ev.congr (f := fun k => (if R.2 = true then ((impl_goodFunc.f k P res L R.1).bind fun t324 => (some (P, res, L, R.1, ext s (a + t + n), !t324))) else (some (P, res, L, R.1, ext s (a + t + n), true)))) (fun k => if_neg (show ¬ (false = true) by decide)) ?_
        cases hR : R.2 with
        | true => rw [if_pos rfl]; exact Ev.congr (fun k => if_pos rfl) (Ev.bind hgI (Ev.now _))
        | false => rw [if_neg (by decide)]; exact Ev.congr (fun k => if_neg (by decide)) (Ev.now _)
theorem Same.of_bind {s : ByteArray} {α β : Type} {u : Nat → Option α} {v : Nat → Option β} {f : Nat → α → Option (List Int × Int × List Int × (List S44) × ByteArray × Int × Bool)} {g : Nat → β → Option (List Int × Int × List Int × (List S44) × ByteArray × Bool)} {x : α} {y : β} (hu : Ev u x) (hv : Ev v y) (h : Same s (fun k => f k x) (fun k => g k y)) : Same s (fun k => (u k).bind (f k)) (fun k => (v k).bind (g k)) := by
  rcases h with ⟨P, res, L, B, a, b, h1, h2, h3, h4, h5, h6⟩ | ⟨⟨P, res, L, B, s2, a, h1⟩, ⟨P2, res2, L2, B2, r, h2⟩⟩
  · exact .inl ⟨P, res, L, B, a, b, h1, h2, h3, h4, Ev.bind hu h5, Ev.bind hv h6⟩
  · exact .inr ⟨⟨P, res, L, B, s2, a, Ev.bind hu h1⟩, ⟨P2, res2, L2, B2, r, Ev.bind hv h2⟩⟩
theorem B_same (s : ByteArray) (hs2 : s.size ≤ 2000000) (a : Nat) (h : a ≤ s.size) (P : List Int) (res : Int) (hP : P.length ≤ s.size) : Same s (fun k => sB k P res (s, (a : Int), false)) (fun k => iB k P res (ext s a, false)) := by
  rcases types_same s hs2 a h with ⟨l, a2, h2, hl, h3, h4⟩ | ⟨⟨l, a2, h2, h3⟩, ⟨l2, r, hr, h4⟩⟩
  · exact Same.of_bind h3 h4 (A_same s hs2 a2 h2 P res l hP hl)
  · exact Same.of_bind h3 h4 (.inr ⟨sA_bad s hs2 a2 h2 P res l, iA_bad r (by omega) P res l2⟩)
theorem C_same (s : ByteArray) (hs2 : s.size ≤ 2000000) (a : Nat) (h : a ≤ s.size) (P : List Int) (hP : P.length ≤ s.size) : Same s (fun k => sC k P (s, (a : Int), false)) (fun k => iC k P (ext s a, false)) := by
  by_cases c : a < s.size
  · refine Same.of_bind (u := fun _ => spec_l9R_byte.f s (a : Int) false) (v := fun _ => impl_scanner_byte.f (ext s a) false) (ev_is (byteS_yes s (by omega) a c false)) (ev_is (byteI_yes s (by omega) a c false)) ?_
    exact B_same s hs2 (a + 1) (by omega) P _ hP
  · obtain ⟨v, r, hr, e⟩ := byteI_no s (by omega) a (by omega) false
    refine Same.of_bind (f := fun k bt => sB k P bt.1 bt.2) (g := fun k bt => iB k P bt.1 bt.2) (u := fun _ => spec_l9R_byte.f s (a : Int) false) (v := fun _ => impl_scanner_byte.f (ext s a) false) (x := ((0 : Int), s, (a : Int), true)) (y := (v, r, true)) (ev_is (byteS_no s a (by omega) false)) (ev_is (e)) ?_
    exact .inr ⟨sB_bad s hs2 a h P 0, iB_bad r (by omega) P v⟩
theorem D_same (s : ByteArray) (hs2 : s.size ≤ 2000000) : Same s (fun k => spec_l9R_function.f k s 0 false) (fun k => impl_scanner_function.f k s false) := by
  have e : ext s 0 = s := ext0 s
  have ht := types_same s hs2 0 (Nat.zero_le _)
  rw [e] at ht
  rcases ht with ⟨l, a2, h2, hl, h3, h4⟩ | ⟨⟨l, a2, h2, h3⟩, ⟨l2, r, hr, h4⟩⟩
  · exact Same.of_bind (f := fun k bt => sC k bt.1 bt.2) (g := fun k bt => iC k bt.1 bt.2) h3 h4 (C_same s hs2 a2 h2 l hl)
  · have hb : Same s (fun k => sC k l (s, (a2 : Int), true)) (fun k => iC k l2 (r, true)) := .inr ⟨sC_bad s hs2 a2 h2 l, iC_bad r (by omega) l2⟩
    exact Same.of_bind (f := fun k bt => sC k bt.1 bt.2) (g := fun k bt => iC k bt.1 bt.2) h3 h4 hb
theorem take_same (s : ByteArray) (hs2 : s.size ≤ 2000000) : ∃ (P : List Int) (res : Int) (L : List Int) (B : List S44) (t : Int), P.length ≤ s.size ∧ L.length ≤ s.size ∧ B.length ≤ 200 ∧ Ev (fun k => spec_TakeFunc.f k s) (P, res, L, B, t) ∧ Ev (fun k => impl_TakeFunc.f k s) (P, res, L, B, t) := by
  unfold spec_TakeFunc.f impl_TakeFunc.f
  rcases D_same s hs2 with ⟨P, res, L, B, a, b, h1, h2, h3, h4, h5, h6⟩ | ⟨⟨P, res, L, B, s2, a, h1⟩, ⟨P2, res2, L2, B2, r, h2⟩⟩
  · have hw : wrap64 ((s.size : Int) - ((ext s a).size : Int)) = (a : Int) := by rw [ext_sz, w64 (by omega) (by omega)]; omega
    cases b with
    | true => exact ⟨[], 0, [], [], 0, Nat.zero_le _, Nat.zero_le _, Nat.zero_le _, Ev.bind h5 (Ev.congr (fun k => if_pos rfl) (Ev.now _)), Ev.bind h6 (Ev.congr (fun k => if_pos rfl) (Ev.now _))⟩
    | false =>
      by_cases c : (a : Int) > 900
      · refine ⟨[], 0, [], [], 0, Nat.zero_le _, Nat.zero_le _, Nat.zero_le _, Ev.bind h5 (Ev.congr (fun k => ?_) (Ev.now _)), Ev.bind h6 (Ev.congr (fun k => ?_) (Ev.now _))⟩
        · show (if false = true then _ else (if (a : Int) > 900 then _ else _)) = _
          rw [if_neg (by decide), if_pos c]
        · show (if false = true then _ else (if wrap64 ((s.size : Int) - ((ext s a).size : Int)) > 900 then _ else _)) = _
          rw [if_neg (by decide), hw, if_pos c]
      · refine ⟨P, res, L, B, (a : Int), h2, h3, h4, Ev.bind h5 (Ev.congr (fun k => ?_) (Ev.now _)), Ev.bind h6 (Ev.congr (fun k => ?_) (Ev.now _))⟩
        · show (if false = true then _ else (if (a : Int) > 900 then _ else _)) = _
          rw [if_neg (by decide), if_neg c]
        · show (if false = true then _ else (if wrap64 ((s.size : Int) - ((ext s a).size : Int)) > 900 then _ else some (P, res, L, B, wrap64 ((s.size : Int) - ((ext s a).size : Int))))) = _
          rw [if_neg (by decide), hw, if_neg c]
  · exact ⟨[], 0, [], [], 0, Nat.zero_le _, Nat.zero_le _, Nat.zero_le _, Ev.bind h1 (Ev.congr (fun k => if_pos rfl) (Ev.now _)), Ev.bind h2 (Ev.congr (fun k => if_pos rfl) (Ev.now _))⟩
end Go.Proofs.Ytmmlgkepnjelnaa.Fu
