/-
  No cell of these rows narrows 'for every input' (looked for: loops, veiled, ifaces, maps, wideKeys, modest, calm, conditions, laid).
  DERIVED. THE GIVEN ROWS OF THIS SEAT. 9 by the template 'for every input the law returns true; each argument reads behind the call as it read before'; 0 by the template 'total and deterministic' (their statements: YtfachljdihmicaaTotals.lean).
  GIVEN WITH THE SEED: the statements are not yours to turn. If you find one false, say at which input.
  Laid BY PROGRAM, IN A SANDBOX (cutbox-rows.mjs): the forced cells as the released guide's own fill.sh prints them over the translation dafa9b632886e7ac… (all of the seat's roots in one cut). By AI agents, Wed Nov 11 2026. No macro, syntax, notation, axiom, sorry.
-/
import Derived.Test.YtfachljdihmicaaChecked
import GoSem.Claim
import GoSem.ClaimJoined
import GoSem.ClaimMapViews
import Derived.JoinedTies
import Derived.KernelRfl
namespace Go.Proofs.Ytfachljdihmicaa
/- THE CELL 'sum', in the pinned program and in every row, IS THE sha256 OF THE DUMP (.gsa) THAT YtfachljdihmicaaProg.lean LOADS. Nothing in Lean hashes anything: it is a label: what it is worth is what the hold of that sum in a sandbox is worth. -/
noncomputable def Try.pinned : Pinned := { name := "ytfachljdihmicaa", sum := "dafa9b632886e7acafa49d4f5b7a065c088419edf1e659d9807e0f0379dd06ae", checked := Try.checked }
namespace Rows
def none {H : Type} : Left H := { results := [], args := [] }

/-- 'laws.FnExactReadCode': WHATEVER THE INPUT: true; the input reads as it did. -/
def fnExactReadCodeSpec : ChangeSpec := { name := "fnExactReadCode", fn := fun _ => fun
  | [d] => { results := [.lit (.bool true)], args := [d] }
  | _ => none }
def fnExactReadCodeRow : OpenClaim := { program := "ytfachljdihmicaa", sum := "dafa9b632886e7acafa49d4f5b7a065c088419edf1e659d9807e0f0379dd06ae", func := "loop.example/g00209/laws.FnExactReadCode", spec := "fnExactReadCode", apart := false }
def FnExactReadCodeSaid : Prop := fnExactReadCodeRow.holds Try.pinned (OpenSpec.ofChange fnExactReadCodeSpec)

/-- ITS FALSE NEIGHBOUR: 'it returns false'. Refute it at one input. -/
def fnExactReadCodeWrong : ChangeSpec := { name := "fnExactReadCode", fn := fun _ => fun
  | [d] => { results := [.lit (.bool false)], args := [d] }
  | _ => none }
def FnExactReadCodeWrongFalsely : Prop := fnExactReadCodeRow.holds Try.pinned (OpenSpec.ofChange fnExactReadCodeWrong)

/-- 'laws.FnExactTakeFunc': WHATEVER THE INPUT: true; the input reads as it did. -/
def fnExactTakeFuncSpec : ChangeSpec := { name := "fnExactTakeFunc", fn := fun _ => fun
  | [d] => { results := [.lit (.bool true)], args := [d] }
  | _ => none }
def fnExactTakeFuncRow : OpenClaim := { program := "ytfachljdihmicaa", sum := "dafa9b632886e7acafa49d4f5b7a065c088419edf1e659d9807e0f0379dd06ae", func := "loop.example/g00209/laws.FnExactTakeFunc", spec := "fnExactTakeFunc", apart := false }
def FnExactTakeFuncSaid : Prop := fnExactTakeFuncRow.holds Try.pinned (OpenSpec.ofChange fnExactTakeFuncSpec)

/-- ITS FALSE NEIGHBOUR: 'it returns false'. Refute it at one input. -/
def fnExactTakeFuncWrong : ChangeSpec := { name := "fnExactTakeFunc", fn := fun _ => fun
  | [d] => { results := [.lit (.bool false)], args := [d] }
  | _ => none }
def FnExactTakeFuncWrongFalsely : Prop := fnExactTakeFuncRow.holds Try.pinned (OpenSpec.ofChange fnExactTakeFuncWrong)

/-- 'laws.FnCode': WHATEVER THE INPUT: true; the input reads as it did. -/
def fnCodeSpec : ChangeSpec := { name := "fnCode", fn := fun _ => fun
  | [d] => { results := [.lit (.bool true)], args := [d] }
  | _ => none }
def fnCodeRow : OpenClaim := { program := "ytfachljdihmicaa", sum := "dafa9b632886e7acafa49d4f5b7a065c088419edf1e659d9807e0f0379dd06ae", func := "loop.example/g00209/laws.FnCode", spec := "fnCode", recurses := true, apart := false }
def FnCodeSaid : Prop := fnCodeRow.holds Try.pinned (OpenSpec.ofChange fnCodeSpec)

/-- ITS FALSE NEIGHBOUR: 'it returns false'. Refute it at one input. -/
def fnCodeWrong : ChangeSpec := { name := "fnCode", fn := fun _ => fun
  | [d] => { results := [.lit (.bool false)], args := [d] }
  | _ => none }
def FnCodeWrongFalsely : Prop := fnCodeRow.holds Try.pinned (OpenSpec.ofChange fnCodeWrong)

/-- 'laws.FnExactReadModule': WHATEVER THE INPUT: true; the input reads as it did. -/
def fnExactReadModuleSpec : ChangeSpec := { name := "fnExactReadModule", fn := fun _ => fun
  | [d] => { results := [.lit (.bool true)], args := [d] }
  | _ => none }
def fnExactReadModuleRow : OpenClaim := { program := "ytfachljdihmicaa", sum := "dafa9b632886e7acafa49d4f5b7a065c088419edf1e659d9807e0f0379dd06ae", func := "loop.example/g00209/laws.FnExactReadModule", spec := "fnExactReadModule", apart := false }
def FnExactReadModuleSaid : Prop := fnExactReadModuleRow.holds Try.pinned (OpenSpec.ofChange fnExactReadModuleSpec)

/-- ITS FALSE NEIGHBOUR: 'it returns false'. Refute it at one input. -/
def fnExactReadModuleWrong : ChangeSpec := { name := "fnExactReadModule", fn := fun _ => fun
  | [d] => { results := [.lit (.bool false)], args := [d] }
  | _ => none }
def FnExactReadModuleWrongFalsely : Prop := fnExactReadModuleRow.holds Try.pinned (OpenSpec.ofChange fnExactReadModuleWrong)

/-- 'laws.FnExactCheckFunc': WHATEVER THE INPUT: true; the input reads as it did. -/
def fnExactCheckFuncSpec : ChangeSpec := { name := "fnExactCheckFunc", fn := fun _ => fun
  | [d1, d2] => { results := [.lit (.bool true)], args := [d1, d2] }
  | _ => none }
def fnExactCheckFuncRow : OpenClaim := { program := "ytfachljdihmicaa", sum := "dafa9b632886e7acafa49d4f5b7a065c088419edf1e659d9807e0f0379dd06ae", func := "loop.example/g00209/laws.FnExactCheckFunc", spec := "fnExactCheckFunc", apart := false }
def FnExactCheckFuncSaid : Prop := fnExactCheckFuncRow.holds Try.pinned (OpenSpec.ofChange fnExactCheckFuncSpec)

/-- ITS FALSE NEIGHBOUR: 'it returns false'. Refute it at one input. -/
def fnExactCheckFuncWrong : ChangeSpec := { name := "fnExactCheckFunc", fn := fun _ => fun
  | [d1, d2] => { results := [.lit (.bool false)], args := [d1, d2] }
  | _ => none }
def FnExactCheckFuncWrongFalsely : Prop := fnExactCheckFuncRow.holds Try.pinned (OpenSpec.ofChange fnExactCheckFuncWrong)

/-- 'laws.FnExactHighestOf': WHATEVER THE INPUT: true; the input reads as it did. -/
def fnExactHighestOfSpec : ChangeSpec := { name := "fnExactHighestOf", fn := fun _ => fun
  | [d1, d2] => { results := [.lit (.bool true)], args := [d1, d2] }
  | _ => none }
def fnExactHighestOfRow : OpenClaim := { program := "ytfachljdihmicaa", sum := "dafa9b632886e7acafa49d4f5b7a065c088419edf1e659d9807e0f0379dd06ae", func := "loop.example/g00209/laws.FnExactHighestOf", spec := "fnExactHighestOf", apart := false }
def FnExactHighestOfSaid : Prop := fnExactHighestOfRow.holds Try.pinned (OpenSpec.ofChange fnExactHighestOfSpec)

/-- ITS FALSE NEIGHBOUR: 'it returns false'. Refute it at one input. -/
def fnExactHighestOfWrong : ChangeSpec := { name := "fnExactHighestOf", fn := fun _ => fun
  | [d1, d2] => { results := [.lit (.bool false)], args := [d1, d2] }
  | _ => none }
def FnExactHighestOfWrongFalsely : Prop := fnExactHighestOfRow.holds Try.pinned (OpenSpec.ofChange fnExactHighestOfWrong)

/-- 'laws.FnExactCheckModule': WHATEVER THE INPUT: true; the input reads as it did. -/
def fnExactCheckModuleSpec : ChangeSpec := { name := "fnExactCheckModule", fn := fun _ => fun
  | [d] => { results := [.lit (.bool true)], args := [d] }
  | _ => none }
def fnExactCheckModuleRow : OpenClaim := { program := "ytfachljdihmicaa", sum := "dafa9b632886e7acafa49d4f5b7a065c088419edf1e659d9807e0f0379dd06ae", func := "loop.example/g00209/laws.FnExactCheckModule", spec := "fnExactCheckModule", apart := false }
def FnExactCheckModuleSaid : Prop := fnExactCheckModuleRow.holds Try.pinned (OpenSpec.ofChange fnExactCheckModuleSpec)

/-- ITS FALSE NEIGHBOUR: 'it returns false'. Refute it at one input. -/
def fnExactCheckModuleWrong : ChangeSpec := { name := "fnExactCheckModule", fn := fun _ => fun
  | [d] => { results := [.lit (.bool false)], args := [d] }
  | _ => none }
def FnExactCheckModuleWrongFalsely : Prop := fnExactCheckModuleRow.holds Try.pinned (OpenSpec.ofChange fnExactCheckModuleWrong)

/-- 'laws.FnChecked': WHATEVER THE INPUT: true; the input reads as it did. -/
def fnCheckedSpec : ChangeSpec := { name := "fnChecked", fn := fun _ => fun
  | [d] => { results := [.lit (.bool true)], args := [d] }
  | _ => none }
def fnCheckedRow : OpenClaim := { program := "ytfachljdihmicaa", sum := "dafa9b632886e7acafa49d4f5b7a065c088419edf1e659d9807e0f0379dd06ae", func := "loop.example/g00209/laws.FnChecked", spec := "fnChecked", recurses := true, apart := false }
def FnCheckedSaid : Prop := fnCheckedRow.holds Try.pinned (OpenSpec.ofChange fnCheckedSpec)

/-- ITS FALSE NEIGHBOUR: 'it returns false'. Refute it at one input. -/
def fnCheckedWrong : ChangeSpec := { name := "fnChecked", fn := fun _ => fun
  | [d] => { results := [.lit (.bool false)], args := [d] }
  | _ => none }
def FnCheckedWrongFalsely : Prop := fnCheckedRow.holds Try.pinned (OpenSpec.ofChange fnCheckedWrong)

/-- 'laws.FnExactGoodInstance': WHATEVER THE INPUT: true; the input reads as it did. -/
def fnExactGoodInstanceSpec : ChangeSpec := { name := "fnExactGoodInstance", fn := fun _ => fun
  | [d] => { results := [.lit (.bool true)], args := [d] }
  | _ => none }
def fnExactGoodInstanceRow : OpenClaim := { program := "ytfachljdihmicaa", sum := "dafa9b632886e7acafa49d4f5b7a065c088419edf1e659d9807e0f0379dd06ae", func := "loop.example/g00209/laws.FnExactGoodInstance", spec := "fnExactGoodInstance", apart := false }
def FnExactGoodInstanceSaid : Prop := fnExactGoodInstanceRow.holds Try.pinned (OpenSpec.ofChange fnExactGoodInstanceSpec)

/-- ITS FALSE NEIGHBOUR: 'it returns false'. Refute it at one input. -/
def fnExactGoodInstanceWrong : ChangeSpec := { name := "fnExactGoodInstance", fn := fun _ => fun
  | [d] => { results := [.lit (.bool false)], args := [d] }
  | _ => none }
def FnExactGoodInstanceWrongFalsely : Prop := fnExactGoodInstanceRow.holds Try.pinned (OpenSpec.ofChange fnExactGoodInstanceWrong)

/- THE SECOND FORM. 'bulk': how many values and letters a reading holds, each counted each time it is reached (what is shared counts as often as it is met; a slice's spare places count too). A statement '..UptoSaid' is the law's where the arguments, and the package variables that the reading takes, are together of bulk at most 1048576: NARROWER than '..Said'. Prove '..Said' where nothing that the law and all that it calls make is longer than what came in: it says more and counts as full. Else prove '..UptoSaid'. A law counts once. -/
mutual
def uptoBulk {H : Type} : DataW H → Nat
  | .lit (.string bytes) => bytes.length + 1
  | .lit _ => 1
  | .nil => 1
  | .ptr d => uptoBulk d + 1
  | .slice elems spare => uptoBulkAll elems + uptoBulkAll spare + 1
  | .agg parts => uptoBulkAll parts + 1
  | .iface _ d => uptoBulk d + 1
  | .map entries => uptoBulkEntries entries + 1
  | .held _ => 1
def uptoBulkAll {H : Type} : List (DataW H) → Nat
  | [] => 0
  | d :: r => uptoBulk d + uptoBulkAll r
def uptoBulkEntries {H : Type} : List (Lit × DataW H) → Nat
  | [] => 0
  | x :: r => uptoBulkEntry x + uptoBulkEntries r
def uptoBulkEntry {H : Type} : Lit × DataW H → Nat
  | (.string bytes, d) => bytes.length + uptoBulk d + 1
  | (_, d) => uptoBulk d + 1
 end
def uptoSmall : (H : Type) → List (DataW H) → Bool := fun _ ds => decide (uptoBulkAll ds ≤ 1048576)
def OpenSpec.upto (s : _root_.Go.ChangeSpec) : _root_.Go.OpenSpec := { _root_.Go.OpenSpec.ofChange s with cond := some uptoSmall }

/-- 'laws.FnExactReadCode', WHERE WHAT IT READS IS OF BULK AT MOST 1048576: true; the input reads as it did. -/
def fnExactReadCodeUptoRow : OpenClaim := { program := "ytfachljdihmicaa", sum := "dafa9b632886e7acafa49d4f5b7a065c088419edf1e659d9807e0f0379dd06ae", func := "loop.example/g00209/laws.FnExactReadCode", spec := "fnExactReadCode", apart := false, narrowed := true }
def FnExactReadCodeUptoSaid : Prop := fnExactReadCodeUptoRow.holds Try.pinned (OpenSpec.upto fnExactReadCodeSpec)

/-- 'laws.FnExactTakeFunc', WHERE WHAT IT READS IS OF BULK AT MOST 1048576: true; the input reads as it did. -/
def fnExactTakeFuncUptoRow : OpenClaim := { program := "ytfachljdihmicaa", sum := "dafa9b632886e7acafa49d4f5b7a065c088419edf1e659d9807e0f0379dd06ae", func := "loop.example/g00209/laws.FnExactTakeFunc", spec := "fnExactTakeFunc", apart := false, narrowed := true }
def FnExactTakeFuncUptoSaid : Prop := fnExactTakeFuncUptoRow.holds Try.pinned (OpenSpec.upto fnExactTakeFuncSpec)

/-- 'laws.FnCode', WHERE WHAT IT READS IS OF BULK AT MOST 1048576: true; the input reads as it did. -/
def fnCodeUptoRow : OpenClaim := { program := "ytfachljdihmicaa", sum := "dafa9b632886e7acafa49d4f5b7a065c088419edf1e659d9807e0f0379dd06ae", func := "loop.example/g00209/laws.FnCode", spec := "fnCode", recurses := true, apart := false, narrowed := true }
def FnCodeUptoSaid : Prop := fnCodeUptoRow.holds Try.pinned (OpenSpec.upto fnCodeSpec)

/-- 'laws.FnExactReadModule', WHERE WHAT IT READS IS OF BULK AT MOST 1048576: true; the input reads as it did. -/
def fnExactReadModuleUptoRow : OpenClaim := { program := "ytfachljdihmicaa", sum := "dafa9b632886e7acafa49d4f5b7a065c088419edf1e659d9807e0f0379dd06ae", func := "loop.example/g00209/laws.FnExactReadModule", spec := "fnExactReadModule", apart := false, narrowed := true }
def FnExactReadModuleUptoSaid : Prop := fnExactReadModuleUptoRow.holds Try.pinned (OpenSpec.upto fnExactReadModuleSpec)

/-- 'laws.FnExactCheckFunc', WHERE WHAT IT READS IS OF BULK AT MOST 1048576: true; the input reads as it did. -/
def fnExactCheckFuncUptoRow : OpenClaim := { program := "ytfachljdihmicaa", sum := "dafa9b632886e7acafa49d4f5b7a065c088419edf1e659d9807e0f0379dd06ae", func := "loop.example/g00209/laws.FnExactCheckFunc", spec := "fnExactCheckFunc", apart := false, narrowed := true }
def FnExactCheckFuncUptoSaid : Prop := fnExactCheckFuncUptoRow.holds Try.pinned (OpenSpec.upto fnExactCheckFuncSpec)

/-- 'laws.FnExactHighestOf', WHERE WHAT IT READS IS OF BULK AT MOST 1048576: true; the input reads as it did. -/
def fnExactHighestOfUptoRow : OpenClaim := { program := "ytfachljdihmicaa", sum := "dafa9b632886e7acafa49d4f5b7a065c088419edf1e659d9807e0f0379dd06ae", func := "loop.example/g00209/laws.FnExactHighestOf", spec := "fnExactHighestOf", apart := false, narrowed := true }
def FnExactHighestOfUptoSaid : Prop := fnExactHighestOfUptoRow.holds Try.pinned (OpenSpec.upto fnExactHighestOfSpec)

/-- 'laws.FnExactCheckModule', WHERE WHAT IT READS IS OF BULK AT MOST 1048576: true; the input reads as it did. -/
def fnExactCheckModuleUptoRow : OpenClaim := { program := "ytfachljdihmicaa", sum := "dafa9b632886e7acafa49d4f5b7a065c088419edf1e659d9807e0f0379dd06ae", func := "loop.example/g00209/laws.FnExactCheckModule", spec := "fnExactCheckModule", apart := false, narrowed := true }
def FnExactCheckModuleUptoSaid : Prop := fnExactCheckModuleUptoRow.holds Try.pinned (OpenSpec.upto fnExactCheckModuleSpec)

/-- 'laws.FnChecked', WHERE WHAT IT READS IS OF BULK AT MOST 1048576: true; the input reads as it did. -/
def fnCheckedUptoRow : OpenClaim := { program := "ytfachljdihmicaa", sum := "dafa9b632886e7acafa49d4f5b7a065c088419edf1e659d9807e0f0379dd06ae", func := "loop.example/g00209/laws.FnChecked", spec := "fnChecked", recurses := true, apart := false, narrowed := true }
def FnCheckedUptoSaid : Prop := fnCheckedUptoRow.holds Try.pinned (OpenSpec.upto fnCheckedSpec)

/-- 'laws.FnExactGoodInstance', WHERE WHAT IT READS IS OF BULK AT MOST 1048576: true; the input reads as it did. -/
def fnExactGoodInstanceUptoRow : OpenClaim := { program := "ytfachljdihmicaa", sum := "dafa9b632886e7acafa49d4f5b7a065c088419edf1e659d9807e0f0379dd06ae", func := "loop.example/g00209/laws.FnExactGoodInstance", spec := "fnExactGoodInstance", apart := false, narrowed := true }
def FnExactGoodInstanceUptoSaid : Prop := fnExactGoodInstanceUptoRow.holds Try.pinned (OpenSpec.upto fnExactGoodInstanceSpec)

end Rows
end Go.Proofs.Ytfachljdihmicaa
