/-
  No cell of these rows narrows 'for every input' (looked for: loops, veiled, ifaces, maps, wideKeys, modest, calm, conditions, laid).
  DERIVED. THE GIVEN ROWS OF THIS SEAT. 8 by the template 'for every input the law returns true; each argument reads behind the call as it read before'; 0 by the template 'total and deterministic' (their statements: YtlgegdgilkaldaaTotals.lean).
  GIVEN WITH THE SEED: the statements are not yours to turn. If you find one false, say at which input.
  Laid BY PROGRAM, IN A SANDBOX (cutbox-rows.mjs): the forced cells as the released guide's own fill.sh prints them over the translation 659a039a3a994b79… (all of the seat's roots in one cut). By AI agents, Wed Nov 11 2026. No macro, syntax, notation, axiom, sorry.
-/
import Derived.Test.YtlgegdgilkaldaaChecked
import GoSem.Claim
import GoSem.ClaimJoined
import GoSem.ClaimMapViews
import Derived.JoinedTies
import Derived.KernelRfl
namespace Go.Proofs.Ytlgegdgilkaldaa
/- THE CELL 'sum', in the pinned program and in every row, IS THE sha256 OF THE DUMP (.gsa) THAT YtlgegdgilkaldaaProg.lean LOADS. Nothing in Lean hashes anything: it is a label: what it is worth is what the hold of that sum in a sandbox is worth. -/
noncomputable def Try.pinned : Pinned := { name := "ytlgegdgilkaldaa", sum := "659a039a3a994b79c1cac4f4d0ceac22bc7b33a2f18721b29f873fa41f53de45", checked := Try.checked }
namespace Rows
def none {H : Type} : Left H := { results := [], args := [] }

/-- 'laws.FnExactHasHandles': WHATEVER THE INPUT: true; the input reads as it did. -/
def fnExactHasHandlesSpec : ChangeSpec := { name := "fnExactHasHandles", fn := fun _ => fun
  | [d] => { results := [.lit (.bool true)], args := [d] }
  | _ => none }
def fnExactHasHandlesRow : OpenClaim := { program := "ytlgegdgilkaldaa", sum := "659a039a3a994b79c1cac4f4d0ceac22bc7b33a2f18721b29f873fa41f53de45", func := "loop.example/g00209/laws.FnExactHasHandles", spec := "fnExactHasHandles", unfollowed := true, recurses := true, apart := false }
def FnExactHasHandlesSaid : Prop := fnExactHasHandlesRow.holds Try.pinned (OpenSpec.ofChange fnExactHasHandlesSpec)

/-- ITS FALSE NEIGHBOUR: 'it returns false'. Refute it at one input. -/
def fnExactHasHandlesWrong : ChangeSpec := { name := "fnExactHasHandles", fn := fun _ => fun
  | [d] => { results := [.lit (.bool false)], args := [d] }
  | _ => none }
def FnExactHasHandlesWrongFalsely : Prop := fnExactHasHandlesRow.holds Try.pinned (OpenSpec.ofChange fnExactHasHandlesWrong)

/-- 'laws.FnExactFlatFits': WHATEVER THE INPUT: true; the input reads as it did. -/
def fnExactFlatFitsSpec : ChangeSpec := { name := "fnExactFlatFits", fn := fun _ => fun
  | [d] => { results := [.lit (.bool true)], args := [d] }
  | _ => none }
def fnExactFlatFitsRow : OpenClaim := { program := "ytlgegdgilkaldaa", sum := "659a039a3a994b79c1cac4f4d0ceac22bc7b33a2f18721b29f873fa41f53de45", func := "loop.example/g00209/laws.FnExactFlatFits", spec := "fnExactFlatFits", recurses := true, apart := false }
def FnExactFlatFitsSaid : Prop := fnExactFlatFitsRow.holds Try.pinned (OpenSpec.ofChange fnExactFlatFitsSpec)

/-- ITS FALSE NEIGHBOUR: 'it returns false'. Refute it at one input. -/
def fnExactFlatFitsWrong : ChangeSpec := { name := "fnExactFlatFits", fn := fun _ => fun
  | [d] => { results := [.lit (.bool false)], args := [d] }
  | _ => none }
def FnExactFlatFitsWrongFalsely : Prop := fnExactFlatFitsRow.holds Try.pinned (OpenSpec.ofChange fnExactFlatFitsWrong)

/-- 'laws.FnExactAlignOf': WHATEVER THE INPUT: true; the input reads as it did. -/
def fnExactAlignOfSpec : ChangeSpec := { name := "fnExactAlignOf", fn := fun _ => fun
  | [d] => { results := [.lit (.bool true)], args := [d] }
  | _ => none }
def fnExactAlignOfRow : OpenClaim := { program := "ytlgegdgilkaldaa", sum := "659a039a3a994b79c1cac4f4d0ceac22bc7b33a2f18721b29f873fa41f53de45", func := "loop.example/g00209/laws.FnExactAlignOf", spec := "fnExactAlignOf", recurses := true, apart := false }
def FnExactAlignOfSaid : Prop := fnExactAlignOfRow.holds Try.pinned (OpenSpec.ofChange fnExactAlignOfSpec)

/-- ITS FALSE NEIGHBOUR: 'it returns false'. Refute it at one input. -/
def fnExactAlignOfWrong : ChangeSpec := { name := "fnExactAlignOf", fn := fun _ => fun
  | [d] => { results := [.lit (.bool false)], args := [d] }
  | _ => none }
def FnExactAlignOfWrongFalsely : Prop := fnExactAlignOfRow.holds Try.pinned (OpenSpec.ofChange fnExactAlignOfWrong)

/-- 'laws.FnExactSizeOf': WHATEVER THE INPUT: true; the input reads as it did. -/
def fnExactSizeOfSpec : ChangeSpec := { name := "fnExactSizeOf", fn := fun _ => fun
  | [d] => { results := [.lit (.bool true)], args := [d] }
  | _ => none }
def fnExactSizeOfRow : OpenClaim := { program := "ytlgegdgilkaldaa", sum := "659a039a3a994b79c1cac4f4d0ceac22bc7b33a2f18721b29f873fa41f53de45", func := "loop.example/g00209/laws.FnExactSizeOf", spec := "fnExactSizeOf", recurses := true, apart := false }
def FnExactSizeOfSaid : Prop := fnExactSizeOfRow.holds Try.pinned (OpenSpec.ofChange fnExactSizeOfSpec)

/-- ITS FALSE NEIGHBOUR: 'it returns false'. Refute it at one input. -/
def fnExactSizeOfWrong : ChangeSpec := { name := "fnExactSizeOf", fn := fun _ => fun
  | [d] => { results := [.lit (.bool false)], args := [d] }
  | _ => none }
def FnExactSizeOfWrongFalsely : Prop := fnExactSizeOfRow.holds Try.pinned (OpenSpec.ofChange fnExactSizeOfWrong)

/-- 'laws.FnExactZeroOf': WHATEVER THE INPUT: true; the input reads as it did. -/
def fnExactZeroOfSpec : ChangeSpec := { name := "fnExactZeroOf", fn := fun _ => fun
  | [d] => { results := [.lit (.bool true)], args := [d] }
  | _ => none }
def fnExactZeroOfRow : OpenClaim := { program := "ytlgegdgilkaldaa", sum := "659a039a3a994b79c1cac4f4d0ceac22bc7b33a2f18721b29f873fa41f53de45", func := "loop.example/g00209/laws.FnExactZeroOf", spec := "fnExactZeroOf", recurses := true, apart := false }
def FnExactZeroOfSaid : Prop := fnExactZeroOfRow.holds Try.pinned (OpenSpec.ofChange fnExactZeroOfSpec)

/-- ITS FALSE NEIGHBOUR: 'it returns false'. Refute it at one input. -/
def fnExactZeroOfWrong : ChangeSpec := { name := "fnExactZeroOf", fn := fun _ => fun
  | [d] => { results := [.lit (.bool false)], args := [d] }
  | _ => none }
def FnExactZeroOfWrongFalsely : Prop := fnExactZeroOfRow.holds Try.pinned (OpenSpec.ofChange fnExactZeroOfWrong)

/-- 'laws.FnExactFlatOf': WHATEVER THE INPUT: true; the input reads as it did. -/
def fnExactFlatOfSpec : ChangeSpec := { name := "fnExactFlatOf", fn := fun _ => fun
  | [d] => { results := [.lit (.bool true)], args := [d] }
  | _ => none }
def fnExactFlatOfRow : OpenClaim := { program := "ytlgegdgilkaldaa", sum := "659a039a3a994b79c1cac4f4d0ceac22bc7b33a2f18721b29f873fa41f53de45", func := "loop.example/g00209/laws.FnExactFlatOf", spec := "fnExactFlatOf", recurses := true, apart := false }
def FnExactFlatOfSaid : Prop := fnExactFlatOfRow.holds Try.pinned (OpenSpec.ofChange fnExactFlatOfSpec)

/-- ITS FALSE NEIGHBOUR: 'it returns false'. Refute it at one input. -/
def fnExactFlatOfWrong : ChangeSpec := { name := "fnExactFlatOf", fn := fun _ => fun
  | [d] => { results := [.lit (.bool false)], args := [d] }
  | _ => none }
def FnExactFlatOfWrongFalsely : Prop := fnExactFlatOfRow.holds Try.pinned (OpenSpec.ofChange fnExactFlatOfWrong)

/-- 'laws.FnExactOffsetsOf': WHATEVER THE INPUT: true; the input reads as it did. -/
def fnExactOffsetsOfSpec : ChangeSpec := { name := "fnExactOffsetsOf", fn := fun _ => fun
  | [d] => { results := [.lit (.bool true)], args := [d] }
  | _ => none }
def fnExactOffsetsOfRow : OpenClaim := { program := "ytlgegdgilkaldaa", sum := "659a039a3a994b79c1cac4f4d0ceac22bc7b33a2f18721b29f873fa41f53de45", func := "loop.example/g00209/laws.FnExactOffsetsOf", spec := "fnExactOffsetsOf", recurses := true, apart := false }
def FnExactOffsetsOfSaid : Prop := fnExactOffsetsOfRow.holds Try.pinned (OpenSpec.ofChange fnExactOffsetsOfSpec)

/-- ITS FALSE NEIGHBOUR: 'it returns false'. Refute it at one input. -/
def fnExactOffsetsOfWrong : ChangeSpec := { name := "fnExactOffsetsOf", fn := fun _ => fun
  | [d] => { results := [.lit (.bool false)], args := [d] }
  | _ => none }
def FnExactOffsetsOfWrongFalsely : Prop := fnExactOffsetsOfRow.holds Try.pinned (OpenSpec.ofChange fnExactOffsetsOfWrong)

/-- 'laws.FnRoom': WHATEVER THE INPUT: true; the input reads as it did. -/
def fnRoomSpec : ChangeSpec := { name := "fnRoom", fn := fun _ => fun
  | [d] => { results := [.lit (.bool true)], args := [d] }
  | _ => none }
def fnRoomRow : OpenClaim := { program := "ytlgegdgilkaldaa", sum := "659a039a3a994b79c1cac4f4d0ceac22bc7b33a2f18721b29f873fa41f53de45", func := "loop.example/g00209/laws.FnRoom", spec := "fnRoom", recurses := true, apart := false }
def FnRoomSaid : Prop := fnRoomRow.holds Try.pinned (OpenSpec.ofChange fnRoomSpec)

/-- ITS FALSE NEIGHBOUR: 'it returns false'. Refute it at one input. -/
def fnRoomWrong : ChangeSpec := { name := "fnRoom", fn := fun _ => fun
  | [d] => { results := [.lit (.bool false)], args := [d] }
  | _ => none }
def FnRoomWrongFalsely : Prop := fnRoomRow.holds Try.pinned (OpenSpec.ofChange fnRoomWrong)

/- THE SECOND FORM. 'bulk': how many values and letters a reading holds, each counted each time it is reached (what is shared counts as often as it is met; a slice's spare places count too). A statement '..UptoSaid' is the law's where the arguments, and the package variables that the reading takes, are together of bulk at most 1048576: NARROWER than '..Said'. Prove '..Said' where nothing that the law and all that it calls make is longer than what came in: it says more and counts as full. Else prove '..UptoSaid'. A law counts once. -/
mutual
def uptoBulk {H : Type} : DataW H → Nat
  | .lit (.string bytes) => bytes.length + 1
  | .lit _ => 1
  | .nil => 1
  | .ptr d => uptoBulk d + 1
  | .slice elems spare => uptoBulkAll elems + uptoBulkAll spare + 1
  | .agg parts => uptoBulkAll parts + 1
  | .iface _ d => uptoBulk d + 1
  | .map entries => uptoBulkEntries entries + 1
  | .held _ => 1
def uptoBulkAll {H : Type} : List (DataW H) → Nat
  | [] => 0
  | d :: r => uptoBulk d + uptoBulkAll r
def uptoBulkEntries {H : Type} : List (Lit × DataW H) → Nat
  | [] => 0
  | x :: r => uptoBulkEntry x + uptoBulkEntries r
def uptoBulkEntry {H : Type} : Lit × DataW H → Nat
  | (.string bytes, d) => bytes.length + uptoBulk d + 1
  | (_, d) => uptoBulk d + 1
 end
def uptoSmall : (H : Type) → List (DataW H) → Bool := fun _ ds => decide (uptoBulkAll ds ≤ 1048576)
def OpenSpec.upto (s : _root_.Go.ChangeSpec) : _root_.Go.OpenSpec := { _root_.Go.OpenSpec.ofChange s with cond := some uptoSmall }

/-- 'laws.FnExactHasHandles', WHERE WHAT IT READS IS OF BULK AT MOST 1048576: true; the input reads as it did. -/
def fnExactHasHandlesUptoRow : OpenClaim := { program := "ytlgegdgilkaldaa", sum := "659a039a3a994b79c1cac4f4d0ceac22bc7b33a2f18721b29f873fa41f53de45", func := "loop.example/g00209/laws.FnExactHasHandles", spec := "fnExactHasHandles", unfollowed := true, recurses := true, apart := false, narrowed := true }
def FnExactHasHandlesUptoSaid : Prop := fnExactHasHandlesUptoRow.holds Try.pinned (OpenSpec.upto fnExactHasHandlesSpec)

/-- 'laws.FnExactFlatFits', WHERE WHAT IT READS IS OF BULK AT MOST 1048576: true; the input reads as it did. -/
def fnExactFlatFitsUptoRow : OpenClaim := { program := "ytlgegdgilkaldaa", sum := "659a039a3a994b79c1cac4f4d0ceac22bc7b33a2f18721b29f873fa41f53de45", func := "loop.example/g00209/laws.FnExactFlatFits", spec := "fnExactFlatFits", recurses := true, apart := false, narrowed := true }
def FnExactFlatFitsUptoSaid : Prop := fnExactFlatFitsUptoRow.holds Try.pinned (OpenSpec.upto fnExactFlatFitsSpec)

/-- 'laws.FnExactAlignOf', WHERE WHAT IT READS IS OF BULK AT MOST 1048576: true; the input reads as it did. -/
def fnExactAlignOfUptoRow : OpenClaim := { program := "ytlgegdgilkaldaa", sum := "659a039a3a994b79c1cac4f4d0ceac22bc7b33a2f18721b29f873fa41f53de45", func := "loop.example/g00209/laws.FnExactAlignOf", spec := "fnExactAlignOf", recurses := true, apart := false, narrowed := true }
def FnExactAlignOfUptoSaid : Prop := fnExactAlignOfUptoRow.holds Try.pinned (OpenSpec.upto fnExactAlignOfSpec)

/-- 'laws.FnExactSizeOf', WHERE WHAT IT READS IS OF BULK AT MOST 1048576: true; the input reads as it did. -/
def fnExactSizeOfUptoRow : OpenClaim := { program := "ytlgegdgilkaldaa", sum := "659a039a3a994b79c1cac4f4d0ceac22bc7b33a2f18721b29f873fa41f53de45", func := "loop.example/g00209/laws.FnExactSizeOf", spec := "fnExactSizeOf", recurses := true, apart := false, narrowed := true }
def FnExactSizeOfUptoSaid : Prop := fnExactSizeOfUptoRow.holds Try.pinned (OpenSpec.upto fnExactSizeOfSpec)

/-- 'laws.FnExactZeroOf', WHERE WHAT IT READS IS OF BULK AT MOST 1048576: true; the input reads as it did. -/
def fnExactZeroOfUptoRow : OpenClaim := { program := "ytlgegdgilkaldaa", sum := "659a039a3a994b79c1cac4f4d0ceac22bc7b33a2f18721b29f873fa41f53de45", func := "loop.example/g00209/laws.FnExactZeroOf", spec := "fnExactZeroOf", recurses := true, apart := false, narrowed := true }
def FnExactZeroOfUptoSaid : Prop := fnExactZeroOfUptoRow.holds Try.pinned (OpenSpec.upto fnExactZeroOfSpec)

/-- 'laws.FnExactFlatOf', WHERE WHAT IT READS IS OF BULK AT MOST 1048576: true; the input reads as it did. -/
def fnExactFlatOfUptoRow : OpenClaim := { program := "ytlgegdgilkaldaa", sum := "659a039a3a994b79c1cac4f4d0ceac22bc7b33a2f18721b29f873fa41f53de45", func := "loop.example/g00209/laws.FnExactFlatOf", spec := "fnExactFlatOf", recurses := true, apart := false, narrowed := true }
def FnExactFlatOfUptoSaid : Prop := fnExactFlatOfUptoRow.holds Try.pinned (OpenSpec.upto fnExactFlatOfSpec)

/-- 'laws.FnExactOffsetsOf', WHERE WHAT IT READS IS OF BULK AT MOST 1048576: true; the input reads as it did. -/
def fnExactOffsetsOfUptoRow : OpenClaim := { program := "ytlgegdgilkaldaa", sum := "659a039a3a994b79c1cac4f4d0ceac22bc7b33a2f18721b29f873fa41f53de45", func := "loop.example/g00209/laws.FnExactOffsetsOf", spec := "fnExactOffsetsOf", recurses := true, apart := false, narrowed := true }
def FnExactOffsetsOfUptoSaid : Prop := fnExactOffsetsOfUptoRow.holds Try.pinned (OpenSpec.upto fnExactOffsetsOfSpec)

/-- 'laws.FnRoom', WHERE WHAT IT READS IS OF BULK AT MOST 1048576: true; the input reads as it did. -/
def fnRoomUptoRow : OpenClaim := { program := "ytlgegdgilkaldaa", sum := "659a039a3a994b79c1cac4f4d0ceac22bc7b33a2f18721b29f873fa41f53de45", func := "loop.example/g00209/laws.FnRoom", spec := "fnRoom", recurses := true, apart := false, narrowed := true }
def FnRoomUptoSaid : Prop := fnRoomUptoRow.holds Try.pinned (OpenSpec.upto fnRoomSpec)

end Rows
end Go.Proofs.Ytlgegdgilkaldaa
