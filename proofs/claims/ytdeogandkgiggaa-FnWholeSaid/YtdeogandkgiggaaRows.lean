/-
  No cell of these rows narrows 'for every input' (looked for: loops, veiled, ifaces, maps, wideKeys, modest, calm, conditions, laid).
  DERIVED. THE GIVEN ROWS OF THIS SEAT. 13 by the template 'for every input the law returns true; each argument reads behind the call as it read before'; 0 by the template 'total and deterministic' (their statements: YtdeogandkgiggaaTotals.lean).
  GIVEN WITH THE SEED: the statements are not yours to turn. If you find one false, say at which input.
  Laid BY PROGRAM, IN A SANDBOX (cutbox-rows.mjs): the forced cells as the released guide's own fill.sh prints them over the translation d8bf2c81af28080b… (all of the seat's roots in one cut). By AI agents, Wed Nov 11 2026. No macro, syntax, notation, axiom, sorry.
-/
import Derived.Test.YtdeogandkgiggaaChecked
import GoSem.Claim
import GoSem.ClaimJoined
import GoSem.ClaimMapViews
import Derived.JoinedTies
import Derived.KernelRfl
namespace Go.Proofs.Ytdeogandkgiggaa
/- THE CELL 'sum', in the pinned program and in every row, IS THE sha256 OF THE DUMP (.gsa) THAT YtdeogandkgiggaaProg.lean LOADS. Nothing in Lean hashes anything: it is a label: what it is worth is what the hold of that sum in a sandbox is worth. -/
noncomputable def Try.pinned : Pinned := { name := "ytdeogandkgiggaa", sum := "d8bf2c81af28080b8ac615146c648e8a5ce764f1d6077fd8c848f460aeea147f", checked := Try.checked }
namespace Rows
def none {H : Type} : Left H := { results := [], args := [] }

/-- 'laws.FnExactFConvert': WHATEVER THE INPUT: true; the input reads as it did. -/
def fnExactFConvertSpec : ChangeSpec := { name := "fnExactFConvert", fn := fun _ => fun
  | [d1, d2, d3] => { results := [.lit (.bool true)], args := [d1, d2, d3] }
  | _ => none }
def fnExactFConvertRow : OpenClaim := { program := "ytdeogandkgiggaa", sum := "d8bf2c81af28080b8ac615146c648e8a5ce764f1d6077fd8c848f460aeea147f", func := "loop.example/g00209/laws.FnExactFConvert", spec := "fnExactFConvert", apart := false }
def FnExactFConvertSaid : Prop := fnExactFConvertRow.holds Try.pinned (OpenSpec.ofChange fnExactFConvertSpec)

/-- ITS FALSE NEIGHBOUR: 'it returns false'. Refute it at one input. -/
def fnExactFConvertWrong : ChangeSpec := { name := "fnExactFConvert", fn := fun _ => fun
  | [d1, d2, d3] => { results := [.lit (.bool false)], args := [d1, d2, d3] }
  | _ => none }
def FnExactFConvertWrongFalsely : Prop := fnExactFConvertRow.holds Try.pinned (OpenSpec.ofChange fnExactFConvertWrong)

/-- 'laws.FnExactFMul': WHATEVER THE INPUT: true; the input reads as it did. -/
def fnExactFMulSpec : ChangeSpec := { name := "fnExactFMul", fn := fun _ => fun
  | [d1, d2, d3] => { results := [.lit (.bool true)], args := [d1, d2, d3] }
  | _ => none }
def fnExactFMulRow : OpenClaim := { program := "ytdeogandkgiggaa", sum := "d8bf2c81af28080b8ac615146c648e8a5ce764f1d6077fd8c848f460aeea147f", func := "loop.example/g00209/laws.FnExactFMul", spec := "fnExactFMul", apart := false }
def FnExactFMulSaid : Prop := fnExactFMulRow.holds Try.pinned (OpenSpec.ofChange fnExactFMulSpec)

/-- ITS FALSE NEIGHBOUR: 'it returns false'. Refute it at one input. -/
def fnExactFMulWrong : ChangeSpec := { name := "fnExactFMul", fn := fun _ => fun
  | [d1, d2, d3] => { results := [.lit (.bool false)], args := [d1, d2, d3] }
  | _ => none }
def FnExactFMulWrongFalsely : Prop := fnExactFMulRow.holds Try.pinned (OpenSpec.ofChange fnExactFMulWrong)

/-- 'laws.FnExactFDiv': WHATEVER THE INPUT: true; the input reads as it did. -/
def fnExactFDivSpec : ChangeSpec := { name := "fnExactFDiv", fn := fun _ => fun
  | [d1, d2, d3] => { results := [.lit (.bool true)], args := [d1, d2, d3] }
  | _ => none }
def fnExactFDivRow : OpenClaim := { program := "ytdeogandkgiggaa", sum := "d8bf2c81af28080b8ac615146c648e8a5ce764f1d6077fd8c848f460aeea147f", func := "loop.example/g00209/laws.FnExactFDiv", spec := "fnExactFDiv", apart := false }
def FnExactFDivSaid : Prop := fnExactFDivRow.holds Try.pinned (OpenSpec.ofChange fnExactFDivSpec)

/-- ITS FALSE NEIGHBOUR: 'it returns false'. Refute it at one input. -/
def fnExactFDivWrong : ChangeSpec := { name := "fnExactFDiv", fn := fun _ => fun
  | [d1, d2, d3] => { results := [.lit (.bool false)], args := [d1, d2, d3] }
  | _ => none }
def FnExactFDivWrongFalsely : Prop := fnExactFDivRow.holds Try.pinned (OpenSpec.ofChange fnExactFDivWrong)

/-- 'laws.FnExactFSqrt': WHATEVER THE INPUT: true; the input reads as it did. -/
def fnExactFSqrtSpec : ChangeSpec := { name := "fnExactFSqrt", fn := fun _ => fun
  | [d1, d2] => { results := [.lit (.bool true)], args := [d1, d2] }
  | _ => none }
def fnExactFSqrtRow : OpenClaim := { program := "ytdeogandkgiggaa", sum := "d8bf2c81af28080b8ac615146c648e8a5ce764f1d6077fd8c848f460aeea147f", func := "loop.example/g00209/laws.FnExactFSqrt", spec := "fnExactFSqrt", apart := false }
def FnExactFSqrtSaid : Prop := fnExactFSqrtRow.holds Try.pinned (OpenSpec.ofChange fnExactFSqrtSpec)

/-- ITS FALSE NEIGHBOUR: 'it returns false'. Refute it at one input. -/
def fnExactFSqrtWrong : ChangeSpec := { name := "fnExactFSqrt", fn := fun _ => fun
  | [d1, d2] => { results := [.lit (.bool false)], args := [d1, d2] }
  | _ => none }
def FnExactFSqrtWrongFalsely : Prop := fnExactFSqrtRow.holds Try.pinned (OpenSpec.ofChange fnExactFSqrtWrong)

/-- 'laws.FnExactFRound': WHATEVER THE INPUT: true; the input reads as it did. -/
def fnExactFRoundSpec : ChangeSpec := { name := "fnExactFRound", fn := fun _ => fun
  | [d1, d2, d3] => { results := [.lit (.bool true)], args := [d1, d2, d3] }
  | _ => none }
def fnExactFRoundRow : OpenClaim := { program := "ytdeogandkgiggaa", sum := "d8bf2c81af28080b8ac615146c648e8a5ce764f1d6077fd8c848f460aeea147f", func := "loop.example/g00209/laws.FnExactFRound", spec := "fnExactFRound", apart := false }
def FnExactFRoundSaid : Prop := fnExactFRoundRow.holds Try.pinned (OpenSpec.ofChange fnExactFRoundSpec)

/-- ITS FALSE NEIGHBOUR: 'it returns false'. Refute it at one input. -/
def fnExactFRoundWrong : ChangeSpec := { name := "fnExactFRound", fn := fun _ => fun
  | [d1, d2, d3] => { results := [.lit (.bool false)], args := [d1, d2, d3] }
  | _ => none }
def FnExactFRoundWrongFalsely : Prop := fnExactFRoundRow.holds Try.pinned (OpenSpec.ofChange fnExactFRoundWrong)

/-- 'laws.FnExactFAdd': WHATEVER THE INPUT: true; the input reads as it did. -/
def fnExactFAddSpec : ChangeSpec := { name := "fnExactFAdd", fn := fun _ => fun
  | [d1, d2, d3] => { results := [.lit (.bool true)], args := [d1, d2, d3] }
  | _ => none }
def fnExactFAddRow : OpenClaim := { program := "ytdeogandkgiggaa", sum := "d8bf2c81af28080b8ac615146c648e8a5ce764f1d6077fd8c848f460aeea147f", func := "loop.example/g00209/laws.FnExactFAdd", spec := "fnExactFAdd", recurses := true, apart := false }
def FnExactFAddSaid : Prop := fnExactFAddRow.holds Try.pinned (OpenSpec.ofChange fnExactFAddSpec)

/-- ITS FALSE NEIGHBOUR: 'it returns false'. Refute it at one input. -/
def fnExactFAddWrong : ChangeSpec := { name := "fnExactFAdd", fn := fun _ => fun
  | [d1, d2, d3] => { results := [.lit (.bool false)], args := [d1, d2, d3] }
  | _ => none }
def FnExactFAddWrongFalsely : Prop := fnExactFAddRow.holds Try.pinned (OpenSpec.ofChange fnExactFAddWrong)

/-- 'laws.FnExactFToInt': WHATEVER THE INPUT: true; the input reads as it did. -/
def fnExactFToIntSpec : ChangeSpec := { name := "fnExactFToInt", fn := fun _ => fun
  | [d1, d2, d3, d4] => { results := [.lit (.bool true)], args := [d1, d2, d3, d4] }
  | _ => none }
def fnExactFToIntRow : OpenClaim := { program := "ytdeogandkgiggaa", sum := "d8bf2c81af28080b8ac615146c648e8a5ce764f1d6077fd8c848f460aeea147f", func := "loop.example/g00209/laws.FnExactFToInt", spec := "fnExactFToInt", apart := false }
def FnExactFToIntSaid : Prop := fnExactFToIntRow.holds Try.pinned (OpenSpec.ofChange fnExactFToIntSpec)

/-- ITS FALSE NEIGHBOUR: 'it returns false'. Refute it at one input. -/
def fnExactFToIntWrong : ChangeSpec := { name := "fnExactFToInt", fn := fun _ => fun
  | [d1, d2, d3, d4] => { results := [.lit (.bool false)], args := [d1, d2, d3, d4] }
  | _ => none }
def FnExactFToIntWrongFalsely : Prop := fnExactFToIntRow.holds Try.pinned (OpenSpec.ofChange fnExactFToIntWrong)

/-- 'laws.FnExactFSub': WHATEVER THE INPUT: true; the input reads as it did. -/
def fnExactFSubSpec : ChangeSpec := { name := "fnExactFSub", fn := fun _ => fun
  | [d1, d2, d3] => { results := [.lit (.bool true)], args := [d1, d2, d3] }
  | _ => none }
def fnExactFSubRow : OpenClaim := { program := "ytdeogandkgiggaa", sum := "d8bf2c81af28080b8ac615146c648e8a5ce764f1d6077fd8c848f460aeea147f", func := "loop.example/g00209/laws.FnExactFSub", spec := "fnExactFSub", recurses := true, apart := false }
def FnExactFSubSaid : Prop := fnExactFSubRow.holds Try.pinned (OpenSpec.ofChange fnExactFSubSpec)

/-- ITS FALSE NEIGHBOUR: 'it returns false'. Refute it at one input. -/
def fnExactFSubWrong : ChangeSpec := { name := "fnExactFSub", fn := fun _ => fun
  | [d1, d2, d3] => { results := [.lit (.bool false)], args := [d1, d2, d3] }
  | _ => none }
def FnExactFSubWrongFalsely : Prop := fnExactFSubRow.holds Try.pinned (OpenSpec.ofChange fnExactFSubWrong)

/-- 'laws.FnConverted': WHATEVER THE INPUT: true; the input reads as it did. -/
def fnConvertedSpec : ChangeSpec := { name := "fnConverted", fn := fun _ => fun
  | [d] => { results := [.lit (.bool true)], args := [d] }
  | _ => none }
def fnConvertedRow : OpenClaim := { program := "ytdeogandkgiggaa", sum := "d8bf2c81af28080b8ac615146c648e8a5ce764f1d6077fd8c848f460aeea147f", func := "loop.example/g00209/laws.FnConverted", spec := "fnConverted", apart := false }
def FnConvertedSaid : Prop := fnConvertedRow.holds Try.pinned (OpenSpec.ofChange fnConvertedSpec)

/-- ITS FALSE NEIGHBOUR: 'it returns false'. Refute it at one input. -/
def fnConvertedWrong : ChangeSpec := { name := "fnConverted", fn := fun _ => fun
  | [d] => { results := [.lit (.bool false)], args := [d] }
  | _ => none }
def FnConvertedWrongFalsely : Prop := fnConvertedRow.holds Try.pinned (OpenSpec.ofChange fnConvertedWrong)

/-- 'laws.FnCompared': WHATEVER THE INPUT: true; the input reads as it did. -/
def fnComparedSpec : ChangeSpec := { name := "fnCompared", fn := fun _ => fun
  | [d] => { results := [.lit (.bool true)], args := [d] }
  | _ => none }
def fnComparedRow : OpenClaim := { program := "ytdeogandkgiggaa", sum := "d8bf2c81af28080b8ac615146c648e8a5ce764f1d6077fd8c848f460aeea147f", func := "loop.example/g00209/laws.FnCompared", spec := "fnCompared", apart := false }
def FnComparedSaid : Prop := fnComparedRow.holds Try.pinned (OpenSpec.ofChange fnComparedSpec)

/-- ITS FALSE NEIGHBOUR: 'it returns false'. Refute it at one input. -/
def fnComparedWrong : ChangeSpec := { name := "fnCompared", fn := fun _ => fun
  | [d] => { results := [.lit (.bool false)], args := [d] }
  | _ => none }
def FnComparedWrongFalsely : Prop := fnComparedRow.holds Try.pinned (OpenSpec.ofChange fnComparedWrong)

/-- 'laws.FnTwoSum': WHATEVER THE INPUT: true; the input reads as it did. -/
def fnTwoSumSpec : ChangeSpec := { name := "fnTwoSum", fn := fun _ => fun
  | [d] => { results := [.lit (.bool true)], args := [d] }
  | _ => none }
def fnTwoSumRow : OpenClaim := { program := "ytdeogandkgiggaa", sum := "d8bf2c81af28080b8ac615146c648e8a5ce764f1d6077fd8c848f460aeea147f", func := "loop.example/g00209/laws.FnTwoSum", spec := "fnTwoSum", recurses := true, apart := false }
def FnTwoSumSaid : Prop := fnTwoSumRow.holds Try.pinned (OpenSpec.ofChange fnTwoSumSpec)

/-- ITS FALSE NEIGHBOUR: 'it returns false'. Refute it at one input. -/
def fnTwoSumWrong : ChangeSpec := { name := "fnTwoSum", fn := fun _ => fun
  | [d] => { results := [.lit (.bool false)], args := [d] }
  | _ => none }
def FnTwoSumWrongFalsely : Prop := fnTwoSumRow.holds Try.pinned (OpenSpec.ofChange fnTwoSumWrong)

/-- 'laws.FnSterbenz': WHATEVER THE INPUT: true; the input reads as it did. -/
def fnSterbenzSpec : ChangeSpec := { name := "fnSterbenz", fn := fun _ => fun
  | [d] => { results := [.lit (.bool true)], args := [d] }
  | _ => none }
def fnSterbenzRow : OpenClaim := { program := "ytdeogandkgiggaa", sum := "d8bf2c81af28080b8ac615146c648e8a5ce764f1d6077fd8c848f460aeea147f", func := "loop.example/g00209/laws.FnSterbenz", spec := "fnSterbenz", recurses := true, apart := false }
def FnSterbenzSaid : Prop := fnSterbenzRow.holds Try.pinned (OpenSpec.ofChange fnSterbenzSpec)

/-- ITS FALSE NEIGHBOUR: 'it returns false'. Refute it at one input. -/
def fnSterbenzWrong : ChangeSpec := { name := "fnSterbenz", fn := fun _ => fun
  | [d] => { results := [.lit (.bool false)], args := [d] }
  | _ => none }
def FnSterbenzWrongFalsely : Prop := fnSterbenzRow.holds Try.pinned (OpenSpec.ofChange fnSterbenzWrong)

/-- 'laws.FnWhole': WHATEVER THE INPUT: true; the input reads as it did. -/
def fnWholeSpec : ChangeSpec := { name := "fnWhole", fn := fun _ => fun
  | [d1, d2] => { results := [.lit (.bool true)], args := [d1, d2] }
  | _ => none }
def fnWholeRow : OpenClaim := { program := "ytdeogandkgiggaa", sum := "d8bf2c81af28080b8ac615146c648e8a5ce764f1d6077fd8c848f460aeea147f", func := "loop.example/g00209/laws.FnWhole", spec := "fnWhole", apart := false }
def FnWholeSaid : Prop := fnWholeRow.holds Try.pinned (OpenSpec.ofChange fnWholeSpec)

/-- ITS FALSE NEIGHBOUR: 'it returns false'. Refute it at one input. -/
def fnWholeWrong : ChangeSpec := { name := "fnWhole", fn := fun _ => fun
  | [d1, d2] => { results := [.lit (.bool false)], args := [d1, d2] }
  | _ => none }
def FnWholeWrongFalsely : Prop := fnWholeRow.holds Try.pinned (OpenSpec.ofChange fnWholeWrong)

/- THE SECOND FORM. 'bulk': how many values and letters a reading holds, each counted each time it is reached (what is shared counts as often as it is met; a slice's spare places count too). A statement '..UptoSaid' is the law's where the arguments, and the package variables that the reading takes, are together of bulk at most 1048576: NARROWER than '..Said'. Prove '..Said' where nothing that the law and all that it calls make is longer than what came in: it says more and counts as full. Else prove '..UptoSaid'. A law counts once. -/
mutual
def uptoBulk {H : Type} : DataW H → Nat
  | .lit (.string bytes) => bytes.length + 1
  | .lit _ => 1
  | .nil => 1
  | .ptr d => uptoBulk d + 1
  | .slice elems spare => uptoBulkAll elems + uptoBulkAll spare + 1
  | .agg parts => uptoBulkAll parts + 1
  | .iface _ d => uptoBulk d + 1
  | .map entries => uptoBulkEntries entries + 1
  | .held _ => 1
def uptoBulkAll {H : Type} : List (DataW H) → Nat
  | [] => 0
  | d :: r => uptoBulk d + uptoBulkAll r
def uptoBulkEntries {H : Type} : List (Lit × DataW H) → Nat
  | [] => 0
  | x :: r => uptoBulkEntry x + uptoBulkEntries r
def uptoBulkEntry {H : Type} : Lit × DataW H → Nat
  | (.string bytes, d) => bytes.length + uptoBulk d + 1
  | (_, d) => uptoBulk d + 1
 end
def uptoSmall : (H : Type) → List (DataW H) → Bool := fun _ ds => decide (uptoBulkAll ds ≤ 1048576)
def OpenSpec.upto (s : _root_.Go.ChangeSpec) : _root_.Go.OpenSpec := { _root_.Go.OpenSpec.ofChange s with cond := some uptoSmall }

/-- 'laws.FnExactFConvert', WHERE WHAT IT READS IS OF BULK AT MOST 1048576: true; the input reads as it did. -/
def fnExactFConvertUptoRow : OpenClaim := { program := "ytdeogandkgiggaa", sum := "d8bf2c81af28080b8ac615146c648e8a5ce764f1d6077fd8c848f460aeea147f", func := "loop.example/g00209/laws.FnExactFConvert", spec := "fnExactFConvert", apart := false, narrowed := true }
def FnExactFConvertUptoSaid : Prop := fnExactFConvertUptoRow.holds Try.pinned (OpenSpec.upto fnExactFConvertSpec)

/-- 'laws.FnExactFMul', WHERE WHAT IT READS IS OF BULK AT MOST 1048576: true; the input reads as it did. -/
def fnExactFMulUptoRow : OpenClaim := { program := "ytdeogandkgiggaa", sum := "d8bf2c81af28080b8ac615146c648e8a5ce764f1d6077fd8c848f460aeea147f", func := "loop.example/g00209/laws.FnExactFMul", spec := "fnExactFMul", apart := false, narrowed := true }
def FnExactFMulUptoSaid : Prop := fnExactFMulUptoRow.holds Try.pinned (OpenSpec.upto fnExactFMulSpec)

/-- 'laws.FnExactFDiv', WHERE WHAT IT READS IS OF BULK AT MOST 1048576: true; the input reads as it did. -/
def fnExactFDivUptoRow : OpenClaim := { program := "ytdeogandkgiggaa", sum := "d8bf2c81af28080b8ac615146c648e8a5ce764f1d6077fd8c848f460aeea147f", func := "loop.example/g00209/laws.FnExactFDiv", spec := "fnExactFDiv", apart := false, narrowed := true }
def FnExactFDivUptoSaid : Prop := fnExactFDivUptoRow.holds Try.pinned (OpenSpec.upto fnExactFDivSpec)

/-- 'laws.FnExactFSqrt', WHERE WHAT IT READS IS OF BULK AT MOST 1048576: true; the input reads as it did. -/
def fnExactFSqrtUptoRow : OpenClaim := { program := "ytdeogandkgiggaa", sum := "d8bf2c81af28080b8ac615146c648e8a5ce764f1d6077fd8c848f460aeea147f", func := "loop.example/g00209/laws.FnExactFSqrt", spec := "fnExactFSqrt", apart := false, narrowed := true }
def FnExactFSqrtUptoSaid : Prop := fnExactFSqrtUptoRow.holds Try.pinned (OpenSpec.upto fnExactFSqrtSpec)

/-- 'laws.FnExactFRound', WHERE WHAT IT READS IS OF BULK AT MOST 1048576: true; the input reads as it did. -/
def fnExactFRoundUptoRow : OpenClaim := { program := "ytdeogandkgiggaa", sum := "d8bf2c81af28080b8ac615146c648e8a5ce764f1d6077fd8c848f460aeea147f", func := "loop.example/g00209/laws.FnExactFRound", spec := "fnExactFRound", apart := false, narrowed := true }
def FnExactFRoundUptoSaid : Prop := fnExactFRoundUptoRow.holds Try.pinned (OpenSpec.upto fnExactFRoundSpec)

/-- 'laws.FnExactFAdd', WHERE WHAT IT READS IS OF BULK AT MOST 1048576: true; the input reads as it did. -/
def fnExactFAddUptoRow : OpenClaim := { program := "ytdeogandkgiggaa", sum := "d8bf2c81af28080b8ac615146c648e8a5ce764f1d6077fd8c848f460aeea147f", func := "loop.example/g00209/laws.FnExactFAdd", spec := "fnExactFAdd", recurses := true, apart := false, narrowed := true }
def FnExactFAddUptoSaid : Prop := fnExactFAddUptoRow.holds Try.pinned (OpenSpec.upto fnExactFAddSpec)

/-- 'laws.FnExactFToInt', WHERE WHAT IT READS IS OF BULK AT MOST 1048576: true; the input reads as it did. -/
def fnExactFToIntUptoRow : OpenClaim := { program := "ytdeogandkgiggaa", sum := "d8bf2c81af28080b8ac615146c648e8a5ce764f1d6077fd8c848f460aeea147f", func := "loop.example/g00209/laws.FnExactFToInt", spec := "fnExactFToInt", apart := false, narrowed := true }
def FnExactFToIntUptoSaid : Prop := fnExactFToIntUptoRow.holds Try.pinned (OpenSpec.upto fnExactFToIntSpec)

/-- 'laws.FnExactFSub', WHERE WHAT IT READS IS OF BULK AT MOST 1048576: true; the input reads as it did. -/
def fnExactFSubUptoRow : OpenClaim := { program := "ytdeogandkgiggaa", sum := "d8bf2c81af28080b8ac615146c648e8a5ce764f1d6077fd8c848f460aeea147f", func := "loop.example/g00209/laws.FnExactFSub", spec := "fnExactFSub", recurses := true, apart := false, narrowed := true }
def FnExactFSubUptoSaid : Prop := fnExactFSubUptoRow.holds Try.pinned (OpenSpec.upto fnExactFSubSpec)

/-- 'laws.FnConverted', WHERE WHAT IT READS IS OF BULK AT MOST 1048576: true; the input reads as it did. -/
def fnConvertedUptoRow : OpenClaim := { program := "ytdeogandkgiggaa", sum := "d8bf2c81af28080b8ac615146c648e8a5ce764f1d6077fd8c848f460aeea147f", func := "loop.example/g00209/laws.FnConverted", spec := "fnConverted", apart := false, narrowed := true }
def FnConvertedUptoSaid : Prop := fnConvertedUptoRow.holds Try.pinned (OpenSpec.upto fnConvertedSpec)

/-- 'laws.FnCompared', WHERE WHAT IT READS IS OF BULK AT MOST 1048576: true; the input reads as it did. -/
def fnComparedUptoRow : OpenClaim := { program := "ytdeogandkgiggaa", sum := "d8bf2c81af28080b8ac615146c648e8a5ce764f1d6077fd8c848f460aeea147f", func := "loop.example/g00209/laws.FnCompared", spec := "fnCompared", apart := false, narrowed := true }
def FnComparedUptoSaid : Prop := fnComparedUptoRow.holds Try.pinned (OpenSpec.upto fnComparedSpec)

/-- 'laws.FnTwoSum', WHERE WHAT IT READS IS OF BULK AT MOST 1048576: true; the input reads as it did. -/
def fnTwoSumUptoRow : OpenClaim := { program := "ytdeogandkgiggaa", sum := "d8bf2c81af28080b8ac615146c648e8a5ce764f1d6077fd8c848f460aeea147f", func := "loop.example/g00209/laws.FnTwoSum", spec := "fnTwoSum", recurses := true, apart := false, narrowed := true }
def FnTwoSumUptoSaid : Prop := fnTwoSumUptoRow.holds Try.pinned (OpenSpec.upto fnTwoSumSpec)

/-- 'laws.FnSterbenz', WHERE WHAT IT READS IS OF BULK AT MOST 1048576: true; the input reads as it did. -/
def fnSterbenzUptoRow : OpenClaim := { program := "ytdeogandkgiggaa", sum := "d8bf2c81af28080b8ac615146c648e8a5ce764f1d6077fd8c848f460aeea147f", func := "loop.example/g00209/laws.FnSterbenz", spec := "fnSterbenz", recurses := true, apart := false, narrowed := true }
def FnSterbenzUptoSaid : Prop := fnSterbenzUptoRow.holds Try.pinned (OpenSpec.upto fnSterbenzSpec)

/-- 'laws.FnWhole', WHERE WHAT IT READS IS OF BULK AT MOST 1048576: true; the input reads as it did. -/
def fnWholeUptoRow : OpenClaim := { program := "ytdeogandkgiggaa", sum := "d8bf2c81af28080b8ac615146c648e8a5ce764f1d6077fd8c848f460aeea147f", func := "loop.example/g00209/laws.FnWhole", spec := "fnWhole", apart := false, narrowed := true }
def FnWholeUptoSaid : Prop := fnWholeUptoRow.holds Try.pinned (OpenSpec.upto fnWholeSpec)

end Rows
end Go.Proofs.Ytdeogandkgiggaa
