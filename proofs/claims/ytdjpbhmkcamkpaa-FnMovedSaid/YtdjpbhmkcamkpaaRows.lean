/-
  No cell of these rows narrows 'for every input' (looked for: loops, veiled, ifaces, maps, wideKeys, modest, calm, conditions, laid).
  DERIVED. THE GIVEN ROWS OF THIS SEAT. 11 by the template 'for every input the law returns true; each argument reads behind the call as it read before'; 0 by the template 'total and deterministic' (their statements: YtdjpbhmkcamkpaaTotals.lean).
  GIVEN WITH THE SEED: the statements are not yours to turn. If you find one false, say at which input.
  Laid BY PROGRAM, IN A SANDBOX (cutbox-rows.mjs): the forced cells as the released guide's own fill.sh prints them over the translation 1e011a4acdfa2783… (all of the seat's roots in one cut). By AI agents, Wed Nov 11 2026. No macro, syntax, notation, axiom, sorry.
-/
import Derived.Test.YtdjpbhmkcamkpaaChecked
import GoSem.Claim
import GoSem.ClaimJoined
import GoSem.ClaimMapViews
import Derived.JoinedTies
import Derived.KernelRfl
namespace Go.Proofs.Ytdjpbhmkcamkpaa
/- THE CELL 'sum', in the pinned program and in every row, IS THE sha256 OF THE DUMP (.gsa) THAT YtdjpbhmkcamkpaaProg.lean LOADS. Nothing in Lean hashes anything: it is a label: what it is worth is what the hold of that sum in a sandbox is worth. -/
noncomputable def Try.pinned : Pinned := { name := "ytdjpbhmkcamkpaa", sum := "1e011a4acdfa278376d797562a222dc9b854e1911c5f5613b0b04047fb11b063", checked := Try.checked }
namespace Rows
def none {H : Type} : Left H := { results := [], args := [] }

/-- 'laws.FnExactGoodHeap': WHATEVER THE INPUT: true; the input reads as it did. -/
def fnExactGoodHeapSpec : ChangeSpec := { name := "fnExactGoodHeap", fn := fun _ => fun
  | [d] => { results := [.lit (.bool true)], args := [d] }
  | _ => none }
def fnExactGoodHeapRow : OpenClaim := { program := "ytdjpbhmkcamkpaa", sum := "1e011a4acdfa278376d797562a222dc9b854e1911c5f5613b0b04047fb11b063", func := "loop.example/g00209/laws.FnExactGoodHeap", spec := "fnExactGoodHeap", apart := false }
def FnExactGoodHeapSaid : Prop := fnExactGoodHeapRow.holds Try.pinned (OpenSpec.ofChange fnExactGoodHeapSpec)

/-- ITS FALSE NEIGHBOUR: 'it returns false'. Refute it at one input. -/
def fnExactGoodHeapWrong : ChangeSpec := { name := "fnExactGoodHeap", fn := fun _ => fun
  | [d] => { results := [.lit (.bool false)], args := [d] }
  | _ => none }
def FnExactGoodHeapWrongFalsely : Prop := fnExactGoodHeapRow.holds Try.pinned (OpenSpec.ofChange fnExactGoodHeapWrong)

/-- 'laws.FnExactWordAs': WHATEVER THE INPUT: true; the input reads as it did. -/
def fnExactWordAsSpec : ChangeSpec := { name := "fnExactWordAs", fn := fun _ => fun
  | [d1, d2] => { results := [.lit (.bool true)], args := [d1, d2] }
  | _ => none }
def fnExactWordAsRow : OpenClaim := { program := "ytdjpbhmkcamkpaa", sum := "1e011a4acdfa278376d797562a222dc9b854e1911c5f5613b0b04047fb11b063", func := "loop.example/g00209/laws.FnExactWordAs", spec := "fnExactWordAs", apart := false }
def FnExactWordAsSaid : Prop := fnExactWordAsRow.holds Try.pinned (OpenSpec.ofChange fnExactWordAsSpec)

/-- ITS FALSE NEIGHBOUR: 'it returns false'. Refute it at one input. -/
def fnExactWordAsWrong : ChangeSpec := { name := "fnExactWordAs", fn := fun _ => fun
  | [d1, d2] => { results := [.lit (.bool false)], args := [d1, d2] }
  | _ => none }
def FnExactWordAsWrongFalsely : Prop := fnExactWordAsRow.holds Try.pinned (OpenSpec.ofChange fnExactWordAsWrong)

/-- 'laws.FnExactWordFrom': WHATEVER THE INPUT: true; the input reads as it did. -/
def fnExactWordFromSpec : ChangeSpec := { name := "fnExactWordFrom", fn := fun _ => fun
  | [d1, d2] => { results := [.lit (.bool true)], args := [d1, d2] }
  | _ => none }
def fnExactWordFromRow : OpenClaim := { program := "ytdjpbhmkcamkpaa", sum := "1e011a4acdfa278376d797562a222dc9b854e1911c5f5613b0b04047fb11b063", func := "loop.example/g00209/laws.FnExactWordFrom", spec := "fnExactWordFrom", apart := false }
def FnExactWordFromSaid : Prop := fnExactWordFromRow.holds Try.pinned (OpenSpec.ofChange fnExactWordFromSpec)

/-- ITS FALSE NEIGHBOUR: 'it returns false'. Refute it at one input. -/
def fnExactWordFromWrong : ChangeSpec := { name := "fnExactWordFrom", fn := fun _ => fun
  | [d1, d2] => { results := [.lit (.bool false)], args := [d1, d2] }
  | _ => none }
def FnExactWordFromWrongFalsely : Prop := fnExactWordFromRow.holds Try.pinned (OpenSpec.ofChange fnExactWordFromWrong)

/-- 'laws.FnExactLoadInt': WHATEVER THE INPUT: true; the input reads as it did. -/
def fnExactLoadIntSpec : ChangeSpec := { name := "fnExactLoadInt", fn := fun _ => fun
  | [d1, d2, d3, d4] => { results := [.lit (.bool true)], args := [d1, d2, d3, d4] }
  | _ => none }
def fnExactLoadIntRow : OpenClaim := { program := "ytdjpbhmkcamkpaa", sum := "1e011a4acdfa278376d797562a222dc9b854e1911c5f5613b0b04047fb11b063", func := "loop.example/g00209/laws.FnExactLoadInt", spec := "fnExactLoadInt", apart := false }
def FnExactLoadIntSaid : Prop := fnExactLoadIntRow.holds Try.pinned (OpenSpec.ofChange fnExactLoadIntSpec)

/-- ITS FALSE NEIGHBOUR: 'it returns false'. Refute it at one input. -/
def fnExactLoadIntWrong : ChangeSpec := { name := "fnExactLoadInt", fn := fun _ => fun
  | [d1, d2, d3, d4] => { results := [.lit (.bool false)], args := [d1, d2, d3, d4] }
  | _ => none }
def FnExactLoadIntWrongFalsely : Prop := fnExactLoadIntRow.holds Try.pinned (OpenSpec.ofChange fnExactLoadIntWrong)

/-- 'laws.FnExactTakeRoom': WHATEVER THE INPUT: true; the input reads as it did. -/
def fnExactTakeRoomSpec : ChangeSpec := { name := "fnExactTakeRoom", fn := fun _ => fun
  | [d1, d2, d3] => { results := [.lit (.bool true)], args := [d1, d2, d3] }
  | _ => none }
def fnExactTakeRoomRow : OpenClaim := { program := "ytdjpbhmkcamkpaa", sum := "1e011a4acdfa278376d797562a222dc9b854e1911c5f5613b0b04047fb11b063", func := "loop.example/g00209/laws.FnExactTakeRoom", spec := "fnExactTakeRoom", apart := false }
def FnExactTakeRoomSaid : Prop := fnExactTakeRoomRow.holds Try.pinned (OpenSpec.ofChange fnExactTakeRoomSpec)

/-- ITS FALSE NEIGHBOUR: 'it returns false'. Refute it at one input. -/
def fnExactTakeRoomWrong : ChangeSpec := { name := "fnExactTakeRoom", fn := fun _ => fun
  | [d1, d2, d3] => { results := [.lit (.bool false)], args := [d1, d2, d3] }
  | _ => none }
def FnExactTakeRoomWrongFalsely : Prop := fnExactTakeRoomRow.holds Try.pinned (OpenSpec.ofChange fnExactTakeRoomWrong)

/-- 'laws.FnSlots': WHATEVER THE INPUT: true; the input reads as it did. -/
def fnSlotsSpec : ChangeSpec := { name := "fnSlots", fn := fun _ => fun
  | [d1, d2] => { results := [.lit (.bool true)], args := [d1, d2] }
  | _ => none }
def fnSlotsRow : OpenClaim := { program := "ytdjpbhmkcamkpaa", sum := "1e011a4acdfa278376d797562a222dc9b854e1911c5f5613b0b04047fb11b063", func := "loop.example/g00209/laws.FnSlots", spec := "fnSlots", apart := false }
def FnSlotsSaid : Prop := fnSlotsRow.holds Try.pinned (OpenSpec.ofChange fnSlotsSpec)

/-- ITS FALSE NEIGHBOUR: 'it returns false'. Refute it at one input. -/
def fnSlotsWrong : ChangeSpec := { name := "fnSlots", fn := fun _ => fun
  | [d1, d2] => { results := [.lit (.bool false)], args := [d1, d2] }
  | _ => none }
def FnSlotsWrongFalsely : Prop := fnSlotsRow.holds Try.pinned (OpenSpec.ofChange fnSlotsWrong)

/-- 'laws.FnWide': WHATEVER THE INPUT: true; the input reads as it did. -/
def fnWideSpec : ChangeSpec := { name := "fnWide", fn := fun _ => fun
  | [d1, d2] => { results := [.lit (.bool true)], args := [d1, d2] }
  | _ => none }
def fnWideRow : OpenClaim := { program := "ytdjpbhmkcamkpaa", sum := "1e011a4acdfa278376d797562a222dc9b854e1911c5f5613b0b04047fb11b063", func := "loop.example/g00209/laws.FnWide", spec := "fnWide", named := ["math/bits.divideError", "math/bits.overflowError"], apart := false }
def FnWideSaid : Prop := fnWideRow.holds Try.pinned (OpenSpec.ofChange fnWideSpec)

/-- ITS FALSE NEIGHBOUR: 'it returns false'. Refute it at one input. -/
def fnWideWrong : ChangeSpec := { name := "fnWide", fn := fun _ => fun
  | [d1, d2] => { results := [.lit (.bool false)], args := [d1, d2] }
  | _ => none }
def FnWideWrongFalsely : Prop := fnWideRow.holds Try.pinned (OpenSpec.ofChange fnWideWrong)

/-- 'laws.FnTurned': WHATEVER THE INPUT: true; the input reads as it did. -/
def fnTurnedSpec : ChangeSpec := { name := "fnTurned", fn := fun _ => fun
  | [d] => { results := [.lit (.bool true)], args := [d] }
  | _ => none }
def fnTurnedRow : OpenClaim := { program := "ytdjpbhmkcamkpaa", sum := "1e011a4acdfa278376d797562a222dc9b854e1911c5f5613b0b04047fb11b063", func := "loop.example/g00209/laws.FnTurned", spec := "fnTurned", apart := false }
def FnTurnedSaid : Prop := fnTurnedRow.holds Try.pinned (OpenSpec.ofChange fnTurnedSpec)

/-- ITS FALSE NEIGHBOUR: 'it returns false'. Refute it at one input. -/
def fnTurnedWrong : ChangeSpec := { name := "fnTurned", fn := fun _ => fun
  | [d] => { results := [.lit (.bool false)], args := [d] }
  | _ => none }
def FnTurnedWrongFalsely : Prop := fnTurnedRow.holds Try.pinned (OpenSpec.ofChange fnTurnedWrong)

/-- 'laws.FnDivided': WHATEVER THE INPUT: true; the input reads as it did. -/
def fnDividedSpec : ChangeSpec := { name := "fnDivided", fn := fun _ => fun
  | [d] => { results := [.lit (.bool true)], args := [d] }
  | _ => none }
def fnDividedRow : OpenClaim := { program := "ytdjpbhmkcamkpaa", sum := "1e011a4acdfa278376d797562a222dc9b854e1911c5f5613b0b04047fb11b063", func := "loop.example/g00209/laws.FnDivided", spec := "fnDivided", apart := false }
def FnDividedSaid : Prop := fnDividedRow.holds Try.pinned (OpenSpec.ofChange fnDividedSpec)

/-- ITS FALSE NEIGHBOUR: 'it returns false'. Refute it at one input. -/
def fnDividedWrong : ChangeSpec := { name := "fnDivided", fn := fun _ => fun
  | [d] => { results := [.lit (.bool false)], args := [d] }
  | _ => none }
def FnDividedWrongFalsely : Prop := fnDividedRow.holds Try.pinned (OpenSpec.ofChange fnDividedWrong)

/-- 'laws.FnLoaded': WHATEVER THE INPUT: true; the input reads as it did. -/
def fnLoadedSpec : ChangeSpec := { name := "fnLoaded", fn := fun _ => fun
  | [d1, d2] => { results := [.lit (.bool true)], args := [d1, d2] }
  | _ => none }
def fnLoadedRow : OpenClaim := { program := "ytdjpbhmkcamkpaa", sum := "1e011a4acdfa278376d797562a222dc9b854e1911c5f5613b0b04047fb11b063", func := "loop.example/g00209/laws.FnLoaded", spec := "fnLoaded", apart := false }
def FnLoadedSaid : Prop := fnLoadedRow.holds Try.pinned (OpenSpec.ofChange fnLoadedSpec)

/-- ITS FALSE NEIGHBOUR: 'it returns false'. Refute it at one input. -/
def fnLoadedWrong : ChangeSpec := { name := "fnLoaded", fn := fun _ => fun
  | [d1, d2] => { results := [.lit (.bool false)], args := [d1, d2] }
  | _ => none }
def FnLoadedWrongFalsely : Prop := fnLoadedRow.holds Try.pinned (OpenSpec.ofChange fnLoadedWrong)

/-- 'laws.FnMoved': WHATEVER THE INPUT: true; the input reads as it did. -/
def fnMovedSpec : ChangeSpec := { name := "fnMoved", fn := fun _ => fun
  | [d1, d2] => { results := [.lit (.bool true)], args := [d1, d2] }
  | _ => none }
def fnMovedRow : OpenClaim := { program := "ytdjpbhmkcamkpaa", sum := "1e011a4acdfa278376d797562a222dc9b854e1911c5f5613b0b04047fb11b063", func := "loop.example/g00209/laws.FnMoved", spec := "fnMoved", inPlace := ["internal/abi.NoEscape", "internal/bytealg.MakeNoZero"], apart := false }
def FnMovedSaid : Prop := fnMovedRow.holds Try.pinned (OpenSpec.ofChange fnMovedSpec)

/-- ITS FALSE NEIGHBOUR: 'it returns false'. Refute it at one input. -/
def fnMovedWrong : ChangeSpec := { name := "fnMoved", fn := fun _ => fun
  | [d1, d2] => { results := [.lit (.bool false)], args := [d1, d2] }
  | _ => none }
def FnMovedWrongFalsely : Prop := fnMovedRow.holds Try.pinned (OpenSpec.ofChange fnMovedWrong)

/- THE SECOND FORM. 'bulk': how many values and letters a reading holds, each counted each time it is reached (what is shared counts as often as it is met; a slice's spare places count too). A statement '..UptoSaid' is the law's where the arguments, and the package variables that the reading takes, are together of bulk at most 1048576: NARROWER than '..Said'. Prove '..Said' where nothing that the law and all that it calls make is longer than what came in: it says more and counts as full. Else prove '..UptoSaid'. A law counts once. -/
mutual
def uptoBulk {H : Type} : DataW H → Nat
  | .lit (.string bytes) => bytes.length + 1
  | .lit _ => 1
  | .nil => 1
  | .ptr d => uptoBulk d + 1
  | .slice elems spare => uptoBulkAll elems + uptoBulkAll spare + 1
  | .agg parts => uptoBulkAll parts + 1
  | .iface _ d => uptoBulk d + 1
  | .map entries => uptoBulkEntries entries + 1
  | .held _ => 1
def uptoBulkAll {H : Type} : List (DataW H) → Nat
  | [] => 0
  | d :: r => uptoBulk d + uptoBulkAll r
def uptoBulkEntries {H : Type} : List (Lit × DataW H) → Nat
  | [] => 0
  | x :: r => uptoBulkEntry x + uptoBulkEntries r
def uptoBulkEntry {H : Type} : Lit × DataW H → Nat
  | (.string bytes, d) => bytes.length + uptoBulk d + 1
  | (_, d) => uptoBulk d + 1
 end
def uptoSmall : (H : Type) → List (DataW H) → Bool := fun _ ds => decide (uptoBulkAll ds ≤ 1048576)
def OpenSpec.upto (s : _root_.Go.ChangeSpec) : _root_.Go.OpenSpec := { _root_.Go.OpenSpec.ofChange s with cond := some uptoSmall }

/-- 'laws.FnExactGoodHeap', WHERE WHAT IT READS IS OF BULK AT MOST 1048576: true; the input reads as it did. -/
def fnExactGoodHeapUptoRow : OpenClaim := { program := "ytdjpbhmkcamkpaa", sum := "1e011a4acdfa278376d797562a222dc9b854e1911c5f5613b0b04047fb11b063", func := "loop.example/g00209/laws.FnExactGoodHeap", spec := "fnExactGoodHeap", apart := false, narrowed := true }
def FnExactGoodHeapUptoSaid : Prop := fnExactGoodHeapUptoRow.holds Try.pinned (OpenSpec.upto fnExactGoodHeapSpec)

/-- 'laws.FnExactWordAs', WHERE WHAT IT READS IS OF BULK AT MOST 1048576: true; the input reads as it did. -/
def fnExactWordAsUptoRow : OpenClaim := { program := "ytdjpbhmkcamkpaa", sum := "1e011a4acdfa278376d797562a222dc9b854e1911c5f5613b0b04047fb11b063", func := "loop.example/g00209/laws.FnExactWordAs", spec := "fnExactWordAs", apart := false, narrowed := true }
def FnExactWordAsUptoSaid : Prop := fnExactWordAsUptoRow.holds Try.pinned (OpenSpec.upto fnExactWordAsSpec)

/-- 'laws.FnExactWordFrom', WHERE WHAT IT READS IS OF BULK AT MOST 1048576: true; the input reads as it did. -/
def fnExactWordFromUptoRow : OpenClaim := { program := "ytdjpbhmkcamkpaa", sum := "1e011a4acdfa278376d797562a222dc9b854e1911c5f5613b0b04047fb11b063", func := "loop.example/g00209/laws.FnExactWordFrom", spec := "fnExactWordFrom", apart := false, narrowed := true }
def FnExactWordFromUptoSaid : Prop := fnExactWordFromUptoRow.holds Try.pinned (OpenSpec.upto fnExactWordFromSpec)

/-- 'laws.FnExactLoadInt', WHERE WHAT IT READS IS OF BULK AT MOST 1048576: true; the input reads as it did. -/
def fnExactLoadIntUptoRow : OpenClaim := { program := "ytdjpbhmkcamkpaa", sum := "1e011a4acdfa278376d797562a222dc9b854e1911c5f5613b0b04047fb11b063", func := "loop.example/g00209/laws.FnExactLoadInt", spec := "fnExactLoadInt", apart := false, narrowed := true }
def FnExactLoadIntUptoSaid : Prop := fnExactLoadIntUptoRow.holds Try.pinned (OpenSpec.upto fnExactLoadIntSpec)

/-- 'laws.FnExactTakeRoom', WHERE WHAT IT READS IS OF BULK AT MOST 1048576: true; the input reads as it did. -/
def fnExactTakeRoomUptoRow : OpenClaim := { program := "ytdjpbhmkcamkpaa", sum := "1e011a4acdfa278376d797562a222dc9b854e1911c5f5613b0b04047fb11b063", func := "loop.example/g00209/laws.FnExactTakeRoom", spec := "fnExactTakeRoom", apart := false, narrowed := true }
def FnExactTakeRoomUptoSaid : Prop := fnExactTakeRoomUptoRow.holds Try.pinned (OpenSpec.upto fnExactTakeRoomSpec)

/-- 'laws.FnSlots', WHERE WHAT IT READS IS OF BULK AT MOST 1048576: true; the input reads as it did. -/
def fnSlotsUptoRow : OpenClaim := { program := "ytdjpbhmkcamkpaa", sum := "1e011a4acdfa278376d797562a222dc9b854e1911c5f5613b0b04047fb11b063", func := "loop.example/g00209/laws.FnSlots", spec := "fnSlots", apart := false, narrowed := true }
def FnSlotsUptoSaid : Prop := fnSlotsUptoRow.holds Try.pinned (OpenSpec.upto fnSlotsSpec)

/-- 'laws.FnWide', WHERE WHAT IT READS IS OF BULK AT MOST 1048576: true; the input reads as it did. -/
def fnWideUptoRow : OpenClaim := { program := "ytdjpbhmkcamkpaa", sum := "1e011a4acdfa278376d797562a222dc9b854e1911c5f5613b0b04047fb11b063", func := "loop.example/g00209/laws.FnWide", spec := "fnWide", named := ["math/bits.divideError", "math/bits.overflowError"], apart := false, narrowed := true }
def FnWideUptoSaid : Prop := fnWideUptoRow.holds Try.pinned (OpenSpec.upto fnWideSpec)

/-- 'laws.FnTurned', WHERE WHAT IT READS IS OF BULK AT MOST 1048576: true; the input reads as it did. -/
def fnTurnedUptoRow : OpenClaim := { program := "ytdjpbhmkcamkpaa", sum := "1e011a4acdfa278376d797562a222dc9b854e1911c5f5613b0b04047fb11b063", func := "loop.example/g00209/laws.FnTurned", spec := "fnTurned", apart := false, narrowed := true }
def FnTurnedUptoSaid : Prop := fnTurnedUptoRow.holds Try.pinned (OpenSpec.upto fnTurnedSpec)

/-- 'laws.FnDivided', WHERE WHAT IT READS IS OF BULK AT MOST 1048576: true; the input reads as it did. -/
def fnDividedUptoRow : OpenClaim := { program := "ytdjpbhmkcamkpaa", sum := "1e011a4acdfa278376d797562a222dc9b854e1911c5f5613b0b04047fb11b063", func := "loop.example/g00209/laws.FnDivided", spec := "fnDivided", apart := false, narrowed := true }
def FnDividedUptoSaid : Prop := fnDividedUptoRow.holds Try.pinned (OpenSpec.upto fnDividedSpec)

/-- 'laws.FnLoaded', WHERE WHAT IT READS IS OF BULK AT MOST 1048576: true; the input reads as it did. -/
def fnLoadedUptoRow : OpenClaim := { program := "ytdjpbhmkcamkpaa", sum := "1e011a4acdfa278376d797562a222dc9b854e1911c5f5613b0b04047fb11b063", func := "loop.example/g00209/laws.FnLoaded", spec := "fnLoaded", apart := false, narrowed := true }
def FnLoadedUptoSaid : Prop := fnLoadedUptoRow.holds Try.pinned (OpenSpec.upto fnLoadedSpec)

/-- 'laws.FnMoved', WHERE WHAT IT READS IS OF BULK AT MOST 1048576: true; the input reads as it did. -/
def fnMovedUptoRow : OpenClaim := { program := "ytdjpbhmkcamkpaa", sum := "1e011a4acdfa278376d797562a222dc9b854e1911c5f5613b0b04047fb11b063", func := "loop.example/g00209/laws.FnMoved", spec := "fnMoved", inPlace := ["internal/abi.NoEscape", "internal/bytealg.MakeNoZero"], apart := false, narrowed := true }
def FnMovedUptoSaid : Prop := fnMovedUptoRow.holds Try.pinned (OpenSpec.upto fnMovedSpec)

end Rows
end Go.Proofs.Ytdjpbhmkcamkpaa
