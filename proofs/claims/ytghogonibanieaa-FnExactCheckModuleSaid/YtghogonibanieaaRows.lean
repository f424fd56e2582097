/-
  No cell of these rows narrows 'for every input' (looked for: loops, veiled, ifaces, maps, wideKeys, modest, calm, conditions, laid).
  DERIVED. THE GIVEN ROWS OF THIS SEAT. 3 by the template 'for every input the law returns true; each argument reads behind the call as it read before'; 0 by the template 'total and deterministic' (their statements: YtghogonibanieaaTotals.lean).
  GIVEN WITH THE SEED: the statements are not yours to turn. If you find one false, say at which input.
  Laid BY PROGRAM, IN A SANDBOX (cutbox-rows.mjs): the forced cells as the released guide's own fill.sh prints them over the translation 973cce159bfd6089… (all of the seat's roots in one cut). By AI agents, Wed Nov 11 2026. No macro, syntax, notation, axiom, sorry.
-/
import Derived.Test.YtghogonibanieaaChecked
import GoSem.Claim
import GoSem.ClaimJoined
import GoSem.ClaimMapViews
import Derived.JoinedTies
import Derived.KernelRfl
namespace Go.Proofs.Ytghogonibanieaa
/- THE CELL 'sum', in the pinned program and in every row, IS THE sha256 OF THE DUMP (.gsa) THAT YtghogonibanieaaProg.lean LOADS. Nothing in Lean hashes anything: it is a label: what it is worth is what the hold of that sum in a sandbox is worth. -/
noncomputable def Try.pinned : Pinned := { name := "ytghogonibanieaa", sum := "973cce159bfd60897cabd6379504d4b54188d450bd643af0d855ec7a2dfc4c35", checked := Try.checked }
namespace Rows
def none {H : Type} : Left H := { results := [], args := [] }

/-- 'laws.FnExactCheckFunc': WHATEVER THE INPUT: true; the input reads as it did. -/
def fnExactCheckFuncSpec : ChangeSpec := { name := "fnExactCheckFunc", fn := fun _ => fun
  | [d1, d2] => { results := [.lit (.bool true)], args := [d1, d2] }
  | _ => none }
def fnExactCheckFuncRow : OpenClaim := { program := "ytghogonibanieaa", sum := "973cce159bfd60897cabd6379504d4b54188d450bd643af0d855ec7a2dfc4c35", func := "loop.example/g00209/laws.FnExactCheckFunc", spec := "fnExactCheckFunc", apart := false }
def FnExactCheckFuncSaid : Prop := fnExactCheckFuncRow.holds Try.pinned (OpenSpec.ofChange fnExactCheckFuncSpec)

/-- ITS FALSE NEIGHBOUR: 'it returns false'. Refute it at one input. -/
def fnExactCheckFuncWrong : ChangeSpec := { name := "fnExactCheckFunc", fn := fun _ => fun
  | [d1, d2] => { results := [.lit (.bool false)], args := [d1, d2] }
  | _ => none }
def FnExactCheckFuncWrongFalsely : Prop := fnExactCheckFuncRow.holds Try.pinned (OpenSpec.ofChange fnExactCheckFuncWrong)

/-- 'laws.FnExactHighestOf': WHATEVER THE INPUT: true; the input reads as it did. -/
def fnExactHighestOfSpec : ChangeSpec := { name := "fnExactHighestOf", fn := fun _ => fun
  | [d1, d2] => { results := [.lit (.bool true)], args := [d1, d2] }
  | _ => none }
def fnExactHighestOfRow : OpenClaim := { program := "ytghogonibanieaa", sum := "973cce159bfd60897cabd6379504d4b54188d450bd643af0d855ec7a2dfc4c35", func := "loop.example/g00209/laws.FnExactHighestOf", spec := "fnExactHighestOf", apart := false }
def FnExactHighestOfSaid : Prop := fnExactHighestOfRow.holds Try.pinned (OpenSpec.ofChange fnExactHighestOfSpec)

/-- ITS FALSE NEIGHBOUR: 'it returns false'. Refute it at one input. -/
def fnExactHighestOfWrong : ChangeSpec := { name := "fnExactHighestOf", fn := fun _ => fun
  | [d1, d2] => { results := [.lit (.bool false)], args := [d1, d2] }
  | _ => none }
def FnExactHighestOfWrongFalsely : Prop := fnExactHighestOfRow.holds Try.pinned (OpenSpec.ofChange fnExactHighestOfWrong)

/-- 'laws.FnExactCheckModule': WHATEVER THE INPUT: true; the input reads as it did. -/
def fnExactCheckModuleSpec : ChangeSpec := { name := "fnExactCheckModule", fn := fun _ => fun
  | [d] => { results := [.lit (.bool true)], args := [d] }
  | _ => none }
def fnExactCheckModuleRow : OpenClaim := { program := "ytghogonibanieaa", sum := "973cce159bfd60897cabd6379504d4b54188d450bd643af0d855ec7a2dfc4c35", func := "loop.example/g00209/laws.FnExactCheckModule", spec := "fnExactCheckModule", apart := false }
def FnExactCheckModuleSaid : Prop := fnExactCheckModuleRow.holds Try.pinned (OpenSpec.ofChange fnExactCheckModuleSpec)

/-- ITS FALSE NEIGHBOUR: 'it returns false'. Refute it at one input. -/
def fnExactCheckModuleWrong : ChangeSpec := { name := "fnExactCheckModule", fn := fun _ => fun
  | [d] => { results := [.lit (.bool false)], args := [d] }
  | _ => none }
def FnExactCheckModuleWrongFalsely : Prop := fnExactCheckModuleRow.holds Try.pinned (OpenSpec.ofChange fnExactCheckModuleWrong)

/- THE SECOND FORM. 'bulk': how many values and letters a reading holds, each counted each time it is reached (what is shared counts as often as it is met; a slice's spare places count too). A statement '..UptoSaid' is the law's where the arguments, and the package variables that the reading takes, are together of bulk at most 1048576: NARROWER than '..Said'. Prove '..Said' where nothing that the law and all that it calls make is longer than what came in: it says more and counts as full. Else prove '..UptoSaid'. A law counts once. -/
mutual
def uptoBulk {H : Type} : DataW H → Nat
  | .lit (.string bytes) => bytes.length + 1
  | .lit _ => 1
  | .nil => 1
  | .ptr d => uptoBulk d + 1
  | .slice elems spare => uptoBulkAll elems + uptoBulkAll spare + 1
  | .agg parts => uptoBulkAll parts + 1
  | .iface _ d => uptoBulk d + 1
  | .map entries => uptoBulkEntries entries + 1
  | .held _ => 1
def uptoBulkAll {H : Type} : List (DataW H) → Nat
  | [] => 0
  | d :: r => uptoBulk d + uptoBulkAll r
def uptoBulkEntries {H : Type} : List (Lit × DataW H) → Nat
  | [] => 0
  | x :: r => uptoBulkEntry x + uptoBulkEntries r
def uptoBulkEntry {H : Type} : Lit × DataW H → Nat
  | (.string bytes, d) => bytes.length + uptoBulk d + 1
  | (_, d) => uptoBulk d + 1
 end
def uptoSmall : (H : Type) → List (DataW H) → Bool := fun _ ds => decide (uptoBulkAll ds ≤ 1048576)
def OpenSpec.upto (s : _root_.Go.ChangeSpec) : _root_.Go.OpenSpec := { _root_.Go.OpenSpec.ofChange s with cond := some uptoSmall }

/-- 'laws.FnExactCheckFunc', WHERE WHAT IT READS IS OF BULK AT MOST 1048576: true; the input reads as it did. -/
def fnExactCheckFuncUptoRow : OpenClaim := { program := "ytghogonibanieaa", sum := "973cce159bfd60897cabd6379504d4b54188d450bd643af0d855ec7a2dfc4c35", func := "loop.example/g00209/laws.FnExactCheckFunc", spec := "fnExactCheckFunc", apart := false, narrowed := true }
def FnExactCheckFuncUptoSaid : Prop := fnExactCheckFuncUptoRow.holds Try.pinned (OpenSpec.upto fnExactCheckFuncSpec)

/-- 'laws.FnExactHighestOf', WHERE WHAT IT READS IS OF BULK AT MOST 1048576: true; the input reads as it did. -/
def fnExactHighestOfUptoRow : OpenClaim := { program := "ytghogonibanieaa", sum := "973cce159bfd60897cabd6379504d4b54188d450bd643af0d855ec7a2dfc4c35", func := "loop.example/g00209/laws.FnExactHighestOf", spec := "fnExactHighestOf", apart := false, narrowed := true }
def FnExactHighestOfUptoSaid : Prop := fnExactHighestOfUptoRow.holds Try.pinned (OpenSpec.upto fnExactHighestOfSpec)

/-- 'laws.FnExactCheckModule', WHERE WHAT IT READS IS OF BULK AT MOST 1048576: true; the input reads as it did. -/
def fnExactCheckModuleUptoRow : OpenClaim := { program := "ytghogonibanieaa", sum := "973cce159bfd60897cabd6379504d4b54188d450bd643af0d855ec7a2dfc4c35", func := "loop.example/g00209/laws.FnExactCheckModule", spec := "fnExactCheckModule", apart := false, narrowed := true }
def FnExactCheckModuleUptoSaid : Prop := fnExactCheckModuleUptoRow.holds Try.pinned (OpenSpec.upto fnExactCheckModuleSpec)

end Rows
end Go.Proofs.Ytghogonibanieaa
