/- Both readers of a func's bytes, step by step: the program's cuts the text, the reference's keeps a place. -/
import Derived.Test.YtmmlgkepnjelnaaRe
import Derived.Test.YtmmlgkepnjelnaaQx3
import Derived.Test.YtmmlgkepnjelnaaQx5
namespace Go.Proofs.Ytmmlgkepnjelnaa.Rd
open Go.RowKit Go.Proofs.Ytmmlgkepnjelnaa.Q Go.Proofs.YtmmlgkepnjelnaaW.PrintWords Go.Proofs.YtmmlgkepnjelnaaW.PrintLast Go.Proofs.YtmmlgkepnjelnaaW.PrintMore Go.Proofs.Ytmmlgkepnjelnaa.Mb Go.Proofs.Ytmmlgkepnjelnaa.Leb Go.Proofs.Ytmmlgkepnjelnaa.Ins
set_option linter.unusedSimpArgs false
set_option linter.unusedVariables false

def ext (s : ByteArray) (j : Nat) : ByteArray := s.extract j s.size
theorem ext_sz (s : ByteArray) (j : Nat) : (ext s j).size = s.size - j := ext_size s j
theorem ext_add (s : ByteArray) (j t : Nat) : (ext s j).extract t (ext s j).size = ext s (j + t) := ext_ext s j t
theorem ext_head (s : ByteArray) (j n : Nat) (h : j + n ≤ s.size) : (ext s j).extract 0 n = s.extract j (j + n) := by
  apply ba_same
  unfold ext
  have hl : s.data.toList.length = s.size := by rw [Array.length_toList]; rfl
  rw [tl_ext, tl_ext, tl_ext, List.drop_zero, ← hl, List.take_length, List.take_drop]
theorem bytes_head (s : ByteArray) (j n : Nat) : bytesOf (s.extract j (j + n)) = ((bytesOf s).drop j).take n := by
  unfold bytesOf
  rw [tl_ext, ← List.map_drop, ← List.map_take, List.drop_take, Nat.add_sub_cancel_left]
/-! a number -/
theorem numS (s : ByteArray) (hs : s.size ≤ 1000000000) (at_ : Nat) (h : at_ ≤ s.size) : ∃ (n : Int) (t : Nat), 0 ≤ n ∧ n ≤ 18446744073709551615 ∧ at_ + t ≤ s.size ∧ (∀ b : Bool, Ev (fun k => spec_l9R_num.f k s (at_ : Int) b 32) (n, s, ((at_ + t : Nat) : Int), b || (t == 0))) ∧ (∀ b : Bool, Ev (fun k => impl_scanner_number.f k (ext s at_) b 32) (n, ext s (at_ + t), b || (t == 0))) := by
  obtain ⟨x, y, hk, hx0, hx1, hy0, hy1⟩ := takeU_l1 (ext s at_) (by rw [ext_sz]; omega) 32 (by omega) (by omega)
  rw [ext_sz] at hy1
  obtain ⟨t, rfl⟩ := Int.eq_ofNat_of_zero_le hy0
  refine ⟨x, t, hx0, hx1, by omega, fun b => ⟨100, fun k hk' => ?_⟩, fun b => ⟨100, fun k hk' => ?_⟩⟩
  · have e := (hk k hk').2
    show spec_l9R_num.f k s (at_ : Int) b 32 = _
    unfold spec_l9R_num.f
    rw [if_pos (by omega), if_pos (by omega), Int.toNat_natCast, show s.extract at_ s.size = ext s at_ from rfl, show (32 : Int) = ((32 : Nat) : Int) from rfl, e, Option.bind_some, w64 (n := (at_ : Int) + (t : Int)) (by omega) (by omega), show (at_ : Int) + (t : Int) = ((at_ + t : Nat) : Int) by omega]
    by_cases c : t = 0
    · subst c; show (if ((0 : Nat) : Int) = 0 then _ else _) = _; rw [if_pos (show ((0 : Nat) : Int) = 0 from rfl)]; cases b <;> rfl
    · show (if (t : Int) = 0 then _ else _) = _
      rw [if_neg (show ¬ (t : Int) = 0 by omega), show (t == 0) = false from beq_eq_false_iff_ne.2 c, Bool.or_false]
  · have e := (hk k hk').1
    show impl_scanner_number.f k (ext s at_) b 32 = _
    unfold impl_scanner_number.f
    have e2 : (ext s at_).extract ((t : Int)).toNat (s.size - at_) = ext s (at_ + t) := by rw [Int.toNat_natCast, ← ext_sz, ext_add]
    rw [show (32 : Int) = ((32 : Nat) : Int) from rfl, e, Option.bind_some, ext_sz]
    cases b with
    | true =>
      show (if 0 ≤ (t : Int) then (if (t : Int) ≤ ((s.size - at_ : Nat) : Int) then some (x, (ext s at_).extract ((t : Int)).toNat (s.size - at_), true) else none) else none) = _
      rw [if_pos hy0, if_pos hy1, e2, Bool.true_or]
    | false =>
      show (if 0 ≤ (t : Int) then (if (t : Int) ≤ ((s.size - at_ : Nat) : Int) then some (x, (ext s at_).extract ((t : Int)).toNat (s.size - at_), ((t : Int) == 0)) else none) else none) = _
      have e3 : ((t : Int) == 0) = (t == 0) := by
        by_cases c : t = 0
        · subst c; rfl
        · rw [beq_eq_false_iff_ne.2 c, beq_eq_false_iff_ne.2 (show (t : Int) ≠ 0 by omega)]
      rw [if_pos hy0, if_pos hy1, e2, e3, Bool.false_or]
theorem numI (r : ByteArray) (hr : r.size ≤ 1000000000) (b : Bool) : ∃ (n : Int) (r' : ByteArray) (b' : Bool), 0 ≤ n ∧ n ≤ 18446744073709551615 ∧ r'.size ≤ r.size ∧ Ev (fun k => impl_scanner_number.f k r b 32) (n, r', b') ∧ (b = true → b' = true) := by
  obtain ⟨n, t, h0, h1, h2, _, h3⟩ := numS r hr 0 (Nat.zero_le _)
  have e : ext r 0 = r := by
    apply ba_same
    unfold ext
    rw [tl_ext, List.drop_zero, List.take_of_length_le (by rw [Array.length_toList]; exact Nat.le_refl _)]
  have h3 := h3 b
  rw [e] at h3
  exact ⟨n, _, _, h0, h1, by rw [ext_sz]; omega, h3, fun h => by rw [h]; rfl⟩
/-! some bytes -/
theorem take_yes (s : ByteArray) (hs : s.size ≤ 1000000000) (at_ n : Nat) (h : at_ + n ≤ s.size) (b : Bool) : impl_scanner_take.f (ext s at_) b (n : Int) = some (s.extract at_ (at_ + n), ext s (at_ + n), b) := by
  unfold impl_scanner_take.f
  rw [ext_sz, wu64 (by omega) (by omega), if_neg (by omega), if_pos (by omega), if_pos (by omega), Int.toNat_natCast, ext_head s at_ n h, ← ext_sz, ext_add]
theorem take_no (r : ByteArray) (hr : r.size ≤ 1000000000) (n : Int) (h : n > (r.size : Int)) (b : Bool) : impl_scanner_take.f r b n = some ((⟨#[]⟩ : ByteArray), r, true) := by
  unfold impl_scanner_take.f
  rw [wu64 (by omega) (by omega), if_pos h]
theorem takeI (r : ByteArray) (hr : r.size ≤ 1000000000) (n : Int) (h0 : 0 ≤ n) (b : Bool) : ∃ (u r' : ByteArray) (b' : Bool), u.size ≤ r.size ∧ r'.size ≤ r.size ∧ impl_scanner_take.f r b n = some (u, r', b') ∧ (b = true → b' = true) := by
  by_cases c : n > (r.size : Int)
  · exact ⟨_, _, _, Nat.zero_le _, Nat.le_refl _, take_no r hr n c b, fun _ => rfl⟩
  · refine ⟨r.extract 0 n.toNat, r.extract n.toNat r.size, b, by rw [ByteArray.size_extract]; omega, by rw [ByteArray.size_extract]; omega, ?_, fun h => h⟩
    unfold impl_scanner_take.f
    rw [wu64 (by omega) (by omega), if_neg c, if_pos h0, if_pos (by omega)]
/-! a byte -/
theorem byteS_yes (s : ByteArray) (hs : s.size ≤ 1000000000) (at_ : Nat) (h : at_ < s.size) (b : Bool) : spec_l9R_byte.f s (at_ : Int) b = some (bt s (at_ : Int), s, ((at_ + 1 : Nat) : Int), b) := by
  have hb := bt_range s (at_ : Int)
  unfold spec_l9R_byte.f
  rw [if_neg (by omega), w64 (n := (at_ : Int) + 1) (by omega) (by omega), w64 (n := (at_ : Int) + 1 - 1) (by omega) (by omega), show (at_ : Int) + 1 - 1 = (at_ : Int) by omega, if_pos (by omega), if_pos (by omega), w64 (n := bt s (at_ : Int)) (by omega) (by omega)]
  rfl
theorem byteS_no (s : ByteArray) (at_ : Nat) (h : s.size ≤ at_) (b : Bool) : spec_l9R_byte.f s (at_ : Int) b = some (0, s, (at_ : Int), true) := by
  unfold spec_l9R_byte.f
  rw [if_pos (by omega)]
theorem byteS (s : ByteArray) (hs : s.size ≤ 1000000000) (at_ : Nat) (h : at_ ≤ s.size) (b : Bool) : ∃ (v : Int) (at2 : Nat) (b' : Bool), at2 ≤ s.size ∧ spec_l9R_byte.f s (at_ : Int) b = some (v, s, (at2 : Int), b') ∧ (b = true → b' = true) := by
  by_cases c : at_ < s.size
  · exact ⟨_, at_ + 1, b, by omega, byteS_yes s hs at_ c b, fun h => h⟩
  · exact ⟨_, at_, true, h, byteS_no s at_ (by omega) b, fun _ => rfl⟩
theorem byteI_yes (s : ByteArray) (hs : s.size ≤ 1000000000) (at_ : Nat) (h : at_ < s.size) (b : Bool) : impl_scanner_byte.f (ext s at_) b = some (bt s (at_ : Int), ext s (at_ + 1), b) := by
  have hb := bt_range s (at_ : Int)
  have e := take_yes s hs at_ 1 (by omega) b
  have hz : (s.extract at_ (at_ + 1)).size = 1 := by rw [ByteArray.size_extract]; omega
  have hbt : bt (s.extract at_ (at_ + 1)) 0 = bt s (at_ : Int) := by
    have h1 := rd_bytesOf (s.extract at_ (at_ + 1)) 0
    have h2 := rd_bytesOf s (at_ : Int)
    rw [bytes_head] at h1
    rw [← h1, ← h2]
    unfold rd
    have hl : at_ < (bytesOf s).length := by rw [bytesOf_length]; exact h
    rw [Int.toNat_natCast, List.drop_eq_getElem_cons hl, List.getD_eq_getElem?_getD, List.getD_eq_getElem?_getD, List.getElem?_eq_getElem hl]
    rfl
  unfold impl_scanner_byte.f
  rw [show (1 : Int) = ((1 : Nat) : Int) from rfl, e, Option.bind_some, if_neg (by rw [empty_iff, hz]; decide), hz, if_pos (by decide), hbt, w64 (n := bt s (at_ : Int)) (by omega) (by omega)]
theorem byteI (r : ByteArray) (hr : r.size ≤ 1000000000) (b : Bool) : ∃ (v : Int) (r' : ByteArray) (b' : Bool), r'.size ≤ r.size ∧ impl_scanner_byte.f r b = some (v, r', b') ∧ (b = true → b' = true) := by
  obtain ⟨u, r', b', hu, hr', e, hb⟩ := takeI r hr 1 (by omega) b
  unfold impl_scanner_byte.f
  rw [e, Option.bind_some]
  by_cases c : u.toList = ([] : List UInt8)
  · rw [if_pos c]; exact ⟨_, _, _, hr', rfl, hb⟩
  · have hz : ¬ u.size = 0 := fun h => c ((empty_iff u).2 h)
    rw [if_neg c, if_pos (show (0 : Int) < (u.size : Int) by omega)]
    exact ⟨_, _, _, hr', rfl, hb⟩
theorem byteI_no (s : ByteArray) (hs : s.size ≤ 1000000000) (at_ : Nat) (h : s.size ≤ at_) (b : Bool) : ∃ (v : Int) (r' : ByteArray), r'.size ≤ s.size ∧ impl_scanner_byte.f (ext s at_) b = some (v, r', true) := by
  have hz : (ext s at_).size = 0 := by rw [ext_sz]; omega
  unfold impl_scanner_byte.f
  rw [take_no (ext s at_) (by omega) 1 (by omega) b, Option.bind_some, if_pos ((empty_iff _).2 rfl)]
  exact ⟨-1, ext s at_, by omega, rfl⟩
/-! types -/
theorem typesS_good (s : ByteArray) (hs : s.size ≤ 1000000000) (d : Nat) : ∀ (acc : List Int) (at_ : Nat), at_ + d ≤ s.size → acc.length + d ≤ 1000000000 → Ev (fun k => spec_l9R_types.l0 k acc (d : Int) s (at_ : Int) false) (acc ++ ((bytesOf s).drop at_).take d, s, ((at_ + d : Nat) : Int), false) := by
  induction d with
  | zero =>
    intro acc at_ h ha
    refine Ev.step (f := fun _ => some (acc, s, (at_ : Int), false)) (fun k => by rw [spec_l9R_types.l0, if_neg (by omega)]) ?_
    rw [List.take_zero, List.append_nil]
    exact Ev.now _
  | succ d ih =>
    intro acc at_ h ha
    have hlt : at_ < s.size := by omega
    have ih := ih (acc ++ [bt s (at_ : Int)]) (at_ + 1) (by omega) (by rw [List.length_append, List.length_singleton]; omega)
    have hl : at_ < (bytesOf s).length := by rw [bytesOf_length]; exact hlt
    have e : acc ++ [bt s (at_ : Int)] ++ ((bytesOf s).drop (at_ + 1)).take d = acc ++ ((bytesOf s).drop at_).take (d + 1) := by
      have h1 : (bytesOf s)[at_] = bt s (at_ : Int) := by
        rw [← rd_bytesOf]
        unfold rd
        rw [Int.toNat_natCast, List.getD_eq_getElem?_getD, List.getElem?_eq_getElem hl]
        rfl
      rw [List.append_assoc, List.drop_eq_getElem_cons hl, List.take_succ_cons, h1]
      rfl
    rw [e, show at_ + 1 + d = at_ + (d + 1) by omega] at ih
    refine Ev.step (fun k => ?_) ih
    rw [spec_l9R_types.l0, if_pos (by omega), if_neg (by decide), byteS_yes s hs at_ hlt false, Option.bind_some, if_pos (by omega), wu64 (n := ((d + 1 : Nat) : Int) - 1) (by omega) (by omega), show ((d + 1 : Nat) : Int) - 1 = (d : Int) by omega]
theorem typesS_stop (s : ByteArray) (acc : List Int) (n : Int) (at_ : Int) : Ev (fun k => spec_l9R_types.l0 k acc n s at_ true) (acc, s, at_, true) :=
  Ev.step (f := fun _ => some (acc, s, at_, true)) (fun k => by
    rw [spec_l9R_types.l0]
    by_cases c : n > 0
    · rw [if_pos c, if_pos rfl]
    · rw [if_neg c]) (Ev.now _)
theorem typesS_short (s : ByteArray) (hs : s.size ≤ 1000000000) (d : Nat) : ∀ (acc : List Int) (at_ : Nat) (n : Int), at_ + d = s.size → acc.length + d ≤ 1000000000 → (d : Int) < n → n ≤ 18446744073709551615 → ∃ l, Ev (fun k => spec_l9R_types.l0 k acc n s (at_ : Int) false) (l, s, (s.size : Int), true) := by
  induction d with
  | zero =>
    intro acc at_ n h ha hn hn2
    refine ⟨acc ++ [0], Ev.step (fun k => ?_) (typesS_stop s (acc ++ [0]) (IntKind.u64.wrap (n - 1)) (s.size : Int))⟩
    rw [spec_l9R_types.l0, if_pos (by omega), if_neg (by decide), byteS_no s at_ (by omega) false, Option.bind_some, if_pos (by omega), show (at_ : Int) = (s.size : Int) by omega]
  | succ d ih =>
    intro acc at_ n h ha hn hn2
    obtain ⟨l, hl⟩ := ih (acc ++ [bt s (at_ : Int)]) (at_ + 1) (n - 1) (by omega) (by rw [List.length_append, List.length_singleton]; omega) (by omega) (by omega)
    refine ⟨l, Ev.step (fun k => ?_) hl⟩
    rw [spec_l9R_types.l0, if_pos (by omega), if_neg (by decide), byteS_yes s hs at_ (by omega) false, Option.bind_some, if_pos (by omega), wu64 (n := n - 1) (by omega) (by omega)]
theorem typesS_bad (s : ByteArray) (hs : s.size ≤ 1000000000) (at_ : Nat) (h : at_ ≤ s.size) : ∃ (l : List Int) (at2 : Nat), at2 ≤ s.size ∧ Ev (fun k => spec_l9R_types.f k s (at_ : Int) true) (l, s, (at2 : Int), true) := by
  obtain ⟨n, t, _, _, h2, h3, _⟩ := numS s hs at_ h
  exact ⟨[], at_ + t, h2, Ev.bind (h3 true) (typesS_stop s [] n _)⟩
theorem typesI (r : ByteArray) (hr : r.size ≤ 1000000000) (b : Bool) : ∃ (l : List Int) (r' : ByteArray) (b' : Bool), r'.size ≤ r.size ∧ Ev (fun k => impl_scanner_types.f k r b) (l, r', b') ∧ (b = true → b' = true) := by
  obtain ⟨n, r1, b1, h0, h1, h2, h3, h4⟩ := numI r hr b
  obtain ⟨u, r2, b2, hu, hr2, e, h5⟩ := takeI r1 (by omega) n h0 b1
  refine ⟨bytesOf u, r2, b2, by omega, Ev.bind h3 ?_, fun h => h5 (h4 h)⟩
  refine Ev.congr (fun k => ?_) (Ev.now _)
  show (impl_scanner_take.f r1 b1 n).bind _ = _
  rw [e, Option.bind_some, if_pos (show u.size < 17592186044416 by omega)]
/-- Types are there, or not, for both. -/
theorem types_same (s : ByteArray) (hs : s.size ≤ 2000000) (at_ : Nat) (h : at_ ≤ s.size) :
    (∃ (l : List Int) (at2 : Nat), at2 ≤ s.size ∧ l.length ≤ s.size ∧ Ev (fun k => spec_l9R_types.f k s (at_ : Int) false) (l, s, (at2 : Int), false) ∧ Ev (fun k => impl_scanner_types.f k (ext s at_) false) (l, ext s at2, false)) ∨
    ((∃ (l : List Int) (at2 : Nat), at2 ≤ s.size ∧ Ev (fun k => spec_l9R_types.f k s (at_ : Int) false) (l, s, (at2 : Int), true)) ∧ (∃ (l : List Int) (r : ByteArray), r.size ≤ s.size ∧ Ev (fun k => impl_scanner_types.f k (ext s at_) false) (l, r, true))) := by
  obtain ⟨n, t, h0, h1, h2, h3, h4⟩ := numS s (by omega) at_ h
  have h3 := h3 false
  have h4 := h4 false
  rw [Bool.false_or] at h3 h4
  by_cases c : t = 0
  · rw [show (t == 0) = true from beq_iff_eq.2 c] at h3 h4
    refine .inr ⟨⟨[], at_ + t, h2, Ev.bind h3 (typesS_stop s [] n _)⟩, ?_⟩
    obtain ⟨u, r2, b2, hu, hr2, e, h5⟩ := takeI (ext s (at_ + t)) (by rw [ext_sz]; omega) n h0 true
    obtain rfl := h5 rfl
    rw [ext_sz] at hu hr2
    refine ⟨bytesOf u, r2, by omega, Ev.bind h4 ?_⟩
    refine Ev.congr (fun k => ?_) (Ev.now _)
    show (impl_scanner_take.f (ext s (at_ + t)) true n).bind _ = _
    rw [e, Option.bind_some, if_pos (show u.size < 17592186044416 by omega)]
  · rw [beq_eq_false_iff_ne.2 c] at h3 h4
    by_cases cn : n ≤ ((s.size - (at_ + t) : Nat) : Int)
    · obtain ⟨n, rfl⟩ := Int.eq_ofNat_of_zero_le h0
      refine .inl ⟨((bytesOf s).drop (at_ + t)).take n, at_ + t + n, by omega, by rw [List.length_take]; omega, ?_, ?_⟩
      · have := typesS_good s (by omega) n [] (at_ + t) (by omega) (by simp; omega)
        rw [List.nil_append] at this
        exact Ev.bind h3 this
      · refine Ev.bind h4 ?_
        refine Ev.congr (fun k => ?_) (Ev.now _)
        show (impl_scanner_take.f (ext s (at_ + t)) false (n : Int)).bind _ = _
        have hz : (s.extract (at_ + t) (at_ + t + n)).size < 17592186044416 := by rw [ByteArray.size_extract]; omega
        rw [take_yes s (by omega) (at_ + t) n (by omega) false, Option.bind_some, if_pos hz, bytes_head]
    · refine .inr ⟨?_, ?_⟩
      · obtain ⟨l, hl⟩ := typesS_short s (by omega) (s.size - (at_ + t)) [] (at_ + t) n (by omega) (by simp; omega) (by omega) h1
        exact ⟨l, s.size, Nat.le_refl _, Ev.bind h3 hl⟩
      · refine ⟨bytesOf ⟨#[]⟩, ext s (at_ + t), by rw [ext_sz]; omega, Ev.bind h4 ?_⟩
        refine Ev.congr (fun k => ?_) (Ev.now _)
        show (impl_scanner_take.f (ext s (at_ + t)) false n).bind _ = _
        rw [take_no _ (by rw [ext_sz]; omega) n (by rw [ext_sz]; omega) false, Option.bind_some, if_pos (show (⟨#[]⟩ : ByteArray).size < 17592186044416 by decide)]
end Go.Proofs.Ytmmlgkepnjelnaa.Rd
