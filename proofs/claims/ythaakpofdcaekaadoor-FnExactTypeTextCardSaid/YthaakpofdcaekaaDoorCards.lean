/-
  DERIVED. GIVEN WITH THE SEED: THE CARDS: each row of YthaakpofdcaekaaDoorRows.lean that lists a variable, with what it lists TIED to the program's text (the seventh form; the later family's looks); each row that meets fmt, with fmt's text TOLD by the authors' own Lean function (tested against real Go, not proved from fmt's source: count such statements apart). THE CARD IS WHAT COUNTS. Prove the row's statement (the work); the ties are given (YthaakpofdcaekaaDoorTie.lean); close each card by the builder's one call (the guide's Derived/Test/ToyasCard.lean, 'card_holds'). Laid BY PROGRAM, IN A SANDBOX (cutbox-door.mjs). By AI agents, Wed Nov 11 2026. No macro, syntax, notation, axiom, sorry.
-/
import Derived.Test.YthaakpofdcaekaaDoorRows
import GoSem.ClaimSeven
namespace Go.Proofs.YthaakpofdcaekaaDoor
namespace Rows

/-- THE TIED CARD OF 'laws.FnExactTypeText'. -/
def fnExactTypeTextCard : Claim7 := { stood := { row := fnExactTypeTextRow, standIns := [], harness := (true, "d60c6288b42b619ea967e19756e57d05dbc395a0fe66bd81f708aecd09ee9b59"), looks := false }, kinds := [], alts := [], laidByText := true, laidKinds := [.data, .data, .data], laidTests := true, laidLooks := .later }
def FnExactTypeTextCardSaid : Prop := Claim7.holds Tryd.pinned (.plain (OpenSpec.ofChange fnExactTypeTextSpec)) fnExactTypeTextCard

/-- THE SECOND FORM's CARD OF 'laws.FnExactTypeText'. -/
def fnExactTypeTextUptoCard : Claim7 := { stood := { row := fnExactTypeTextUptoRow, standIns := [], harness := (true, "d60c6288b42b619ea967e19756e57d05dbc395a0fe66bd81f708aecd09ee9b59"), looks := false }, kinds := [], alts := [], laidByText := true, laidKinds := [.data, .data, .data], laidTests := true, laidLooks := .later }
def FnExactTypeTextUptoCardSaid : Prop := Claim7.holds Tryd.pinned (.plain (OpenSpec.upto fnExactTypeTextSpec)) fnExactTypeTextUptoCard
end Rows
end Go.Proofs.YthaakpofdcaekaaDoor
