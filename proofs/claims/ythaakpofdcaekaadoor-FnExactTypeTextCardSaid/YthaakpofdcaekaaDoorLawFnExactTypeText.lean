-- Written by a program of this session; it walks the functions that the law reaches.
import Derived.Test.YthaakpofdcaekaaDoorRows
import Derived.Test.YthaakpofdcaekaaDoorQx5
import Derived.Test.YthaakpofdcaekaaDoorPureFnExactTypeText
import Derived.Test.YthaakpofdcaekaaDoorOp
import Derived.WalkKit
import Derived.ProofKit
import Derived.OpenShut
import Derived.ShutString
import Derived.ChangeOld
import Derived.Below
import Derived.SizedLaws
import Derived.LaidMore
import Derived.MakeChecks
import Derived.Handed
import Derived.LaidHandle
import Derived.LaidLaws
import Derived.LaidOnce
import Derived.SevenTiedAt
import Derived.Lib.LaidTab
import Derived.Test.YthaakpofdcaekaaDoorTie
import Derived.Test.YthaakpofdcaekaaDoorCards
namespace Go.Proofs.YthaakpofdcaekaaDoor.fnExactTypeText
open Go.ChangeShapes Go.WideShapes Go.ChangeAt Go.RowKit Go.Proofs.YthaakpofdcaekaaDoorW.PrintWords Go.Proofs.YthaakpofdcaekaaDoor.Q
open Go.ChangeMaps (open_string shut_string)
set_option linter.unusedVariables false
set_option linter.unusedSimpArgs false
theorem own : ownKnob Tryd.prog.godebug = none := by kernel_rfl
theorem laidOut : laidOutB Tryd.prog = true := by kernel_rfl
theorem laid_tail {P : Program} {x : String × DataW Unit} {r : List (String × DataW Unit)} {w : World} (h : laidMet P (x :: r) w) : laidMet P r w := by
  obtain ⟨ps, hv, hnd, hrows⟩ := h
  obtain ⟨n, d⟩ := x
  obtain ⟨g, t, cs, fuel, p, q, _, _, _, _, hq, rfl⟩ := hv
  exact ⟨q, hq, List.Nodup.sublist (List.sublist_append_right _ _) hnd, fun b off hm => hrows b off (List.mem_append_right _ hm)⟩
/-- The table's cells, where the condition holds. -/
theorem tab_of_laid {W : World} (h : laidMetH Tryd.prog Rows.fnExactTypeTextRow.laid W) : Tab W := by
  rw [MakeChecks.laidMetH_plain _ _ _ (by kernel_rfl)] at h
  have h2 : laidMet Tryd.prog [("internal/strconv.uint64pow10", Lib.tabData .u64 Lib.pow10Tab)] W := laid_tail (laid_tail h)
  exact Lib.tabIs_of_head (g := 0) (by kernel_rfl) (by kernel_rfl) Tryd.underlying85 Tryd.underlying75 (by kernel_rfl) (by kernel_rfl) h2
/-- The heap that the door's own run leaves meets the condition. -/
theorem door_met (os : Os) (args : Array Value) : laidMetH Tryd.prog Rows.fnExactTypeTextRow.laid ((World.doorLaid Tryd.prog 24 os).forCall (fun _ _ => 0) ⟨#[], args, []⟩).memory :=
  laidMetH_of_parts3 (fuel := 8) (laidMet_of_run' 8 (by kernel_rfl) (by kernel_rfl)) (by kernel_rfl) (by kernel_rfl)
set_option maxRecDepth 100000 in
theorem lifted (os : Os) (started : os.Started) (H : Type) (enc : TypeId × Value → H) :
    ReturnsInHanded {} Tryd.checked os 3 .any (fun w args => (Rows.fnExactTypeTextSpec.pre enc Tryd.prog Tryd.f3 Rows.fnExactTypeTextRow.domain false w args ∧ laidMetH Tryd.prog Rows.fnExactTypeTextRow.laid w) ∧ sizedMet enc Tryd.prog Tryd.f3 (OpenSpec.ofChange Rows.fnExactTypeTextSpec) false w args) (Rows.fnExactTypeTextSpec.post enc Tryd.prog Tryd.f3 false true false false) := by
  refine returnsInHanded_of_change_and (C := Tryd.checked) (X := fun w _ => laidMetH Tryd.prog Rows.fnExactTypeTextRow.laid w) (fun _ _ _ hh h => h.of_heap hh) own started (by kernel_rfl) Tryd.func3
    (ChangeSpec.witness_shaped (enc := enc) (C := Tryd.checked) (os := os) (X := fun w _ => laidMetH Tryd.prog Rows.fnExactTypeTextRow.laid w) false (World.doorLaid Tryd.prog 24 os) #[.slice none 0 0] 8 rfl (World.shaped_of_RefB (by kernel_rfl) (by kernel_rfl)) (by kernel_rfl) (by kernel_rfl) (by kernel_rfl) (door_met os _)) ?_
  intro W base args ds gs before hval0 hW hcnd hsz0 hLd _
  have hval : ∀ (j : Nat) t v, Tryd.f3.params[j]? = some t → args[j]? = some v → Value.okWide Tryd.prog W .any base t v := hval0
  have hW' := hW
  obtain ⟨p, q, hA0, hV, rfl, hfz, hnd⟩ := hW
  have hA : DataW.TrodAll enc Tryd.prog W 0 (fun _ => true) true Tryd.f3.params.toList args.toList ds p := hA0
  rw [Tryd.params3] at hA hval
  obtain ⟨v0, vs0, d0, ds0, p0, q0, hargs, rfl, rfl, h0, r0⟩ := trodAll_cons hA
  obtain ⟨rfl, rfl, rfl⟩ := trodAll_nil r0
  obtain rfl : args = #[v0] := by cases args; simp_all
  obtain ⟨rfl, rfl⟩ := trodVars_none hV
  have k0 := h0
  have lt0 : ∀ x ∈ p0, x.block < W.heap.size := by obtain ⟨m, hm⟩ := k0; exact DataW.trod_lt m _ _ _ hm
  obtain ⟨va0, vl0, vc0, rfl⟩ := okWide_slice Tryd.underlying22 (hval 0 22 v0 rfl rfl)
  obtain ⟨l0, K0, B0⟩ := Op.rd_value (Op.rd_slice Tryd.underlying22 (by kernel_rfl) (Op.rd_iso (fun x : S39 => (x.f0, x.f1, x.f2)) (fun y => (⟨y.1, y.2.1, y.2.2⟩ : S39)) (fun _ => rfl) (Op.rd_struct Tryd.underlying39 (by kernel_rfl) (Op.rdf_cons rfl (by kernel_rfl) (Op.rd_int Tryd.underlying3) (Op.rdf_cons rfl (by kernel_rfl) (Op.rd_int Tryd.underlying3) (Op.rdf_one rfl (by kernel_rfl) (Op.rd_int Tryd.underlying3))))))) h0
  obtain ⟨A0, c0, K0_e, hc0, hr0⟩ := K0
  have e0_ : (Value.slice va0 vl0 vc0) = .slice A0 l0.length c0 := by have h_ := K0_e; simpa [Value.cells] using h_
  rw [e0_] at k0 h0
  injection e0_ with e1_ e2_ e3_
  subst e1_ e2_ e3_
  obtain ⟨k_, h_⟩ := Pure.FnExactTypeText l0 B0
  clear hA0 hval0 hsz0
  refine (laws_FnExactTypeText.calls k_ _ _ l0 true W hr0 hc0 rfl ⟨tab_of_laid hLd⟩ h_).mono fun e W' ⟨he, bel0⟩ => ?_
  have bel : Below W.heap.size W W' := bel0
  subst he
  exact ⟨_, rfl, _, _, _, [], _, [], hW', trodAll_mk1 (shut_bool Tryd.underlying4 _), (trodAll_cons_mk (Below.trod laidOut (by kernel_rfl) (of_decide_eq_true (by kernel_rfl)) k0 bel lt0) trodAll_mk0), rfl, bel.frame _, fun h => by cases h⟩
theorem over : Rows.fnExactTypeTextRow.holds Tryd.pinned (OpenSpec.ofChange Rows.fnExactTypeTextSpec) :=
  OpenClaim.holds_of_wide 3 Tryd.f3 rfl rfl rfl rfl rfl rfl rfl ⟨rfl, rfl, rfl, rfl, rfl⟩ rfl rfl rfl rfl rfl (by kernel_rfl) Tryd.func3 (by kernel_rfl)
    (of_decide_eq_true (by kernel_rfl)) (by unfold Func.isWrapper; first | (rw [if_pos (by decide +kernel)]; kernel_rfl) | (rw [if_neg (by decide +kernel)]; exact ⟨rfl, rfl⟩))
    (fun os started H enc _ => lifted os started H enc)
theorem proved : Rows.FnExactTypeTextSaid := over
theorem card : Rows.FnExactTypeTextCardSaid :=
  Claim7.holds_tied_plain_at .later [] [.data, .data, .data] true (true, "d60c6288b42b619ea967e19756e57d05dbc395a0fe66bd81f708aecd09ee9b59") false over (fun _ h => by cases h) (by kernel_rfl) (fun _ h => by cases h) fnExactTypeText_row_tie rfl ⟨rfl, rfl⟩ (by kernel_rfl) rfl
    (fun f fn hf hfn => by
      obtain rfl : f = 3 := Option.some.inj ((show Tryd.prog.funcNamed "loop.example/g00209/laws.FnExactTypeText" = some 3 by kernel_rfl).symm.trans hf) |>.symm
      obtain rfl : fn = Tryd.f3 := (Option.some.inj (Tryd.func3.symm.trans hfn)).symm
      exact ⟨by kernel_rfl, fun j t ht => by
        rw [Tryd.params3] at ht
        have hm : t ∈ [22] := by simpa using Array.mem_of_getElem? ht
        have hall : ([22].all fun u => !Tryd.prog.wantsStandIn u) = true := by kernel_rfl
        exact (show Tryd.prog.wantsStandIn t = false by simpa using List.all_eq_true.1 hall t hm)⟩)
    (by kernel_rfl)
#print axioms card
end Go.Proofs.YthaakpofdcaekaaDoor.fnExactTypeText
namespace Go.Proofs.YthaakpofdcaekaaDoor
/-- The row, under a short name, for the claim. -/
theorem fnExactTypeText_holds : Rows.FnExactTypeTextCardSaid := fnExactTypeText.card
end Go.Proofs.YthaakpofdcaekaaDoor
