/-
  No cell of these rows narrows 'for every input' (looked for: loops, veiled, ifaces, maps, wideKeys, modest, calm, conditions, laid).
  DERIVED. THE GIVEN ROWS OF THIS SEAT. 6 by the template 'for every input the law returns true; each argument reads behind the call as it read before'; 0 by the template 'total and deterministic' (their statements: YtaemaloelmgblaaTotals.lean).
  GIVEN WITH THE SEED: the statements are not yours to turn. If you find one false, say at which input.
  Laid BY PROGRAM, IN A SANDBOX (cutbox-rows.mjs): the forced cells as the released guide's own fill.sh prints them over the translation c1a7c88c4be67e48… (all of the seat's roots in one cut). By AI agents, Wed Nov 11 2026. No macro, syntax, notation, axiom, sorry.
-/
import Derived.Test.YtaemaloelmgblaaChecked
import GoSem.Claim
import GoSem.ClaimJoined
import GoSem.ClaimMapViews
import Derived.JoinedTies
import Derived.KernelRfl
namespace Go.Proofs.Ytaemaloelmgblaa
/- THE CELL 'sum', in the pinned program and in every row, IS THE sha256 OF THE DUMP (.gsa) THAT YtaemaloelmgblaaProg.lean LOADS. Nothing in Lean hashes anything: it is a label: what it is worth is what the hold of that sum in a sandbox is worth. -/
noncomputable def Try.pinned : Pinned := { name := "ytaemaloelmgblaa", sum := "c1a7c88c4be67e48e16744aef75e9434da1f5ac7fb133605ccba0925fa3d98a9", checked := Try.checked }
namespace Rows
def none {H : Type} : Left H := { results := [], args := [] }

/-- 'laws.FnExactSquareIn': WHATEVER THE INPUT: true; the input reads as it did. -/
def fnExactSquareInSpec : ChangeSpec := { name := "fnExactSquareIn", fn := fun _ => fun
  | [d] => { results := [.lit (.bool true)], args := [d] }
  | _ => none }
def fnExactSquareInRow : OpenClaim := { program := "ytaemaloelmgblaa", sum := "c1a7c88c4be67e48e16744aef75e9434da1f5ac7fb133605ccba0925fa3d98a9", func := "loop.example/nineplanes/laws.FnExactSquareIn", spec := "fnExactSquareIn", unfollowed := true, recurses := true, apart := false }
def FnExactSquareInSaid : Prop := fnExactSquareInRow.holds Try.pinned (OpenSpec.ofChange fnExactSquareInSpec)

/-- ITS FALSE NEIGHBOUR: 'it returns false'. Refute it at one input. -/
def fnExactSquareInWrong : ChangeSpec := { name := "fnExactSquareIn", fn := fun _ => fun
  | [d] => { results := [.lit (.bool false)], args := [d] }
  | _ => none }
def FnExactSquareInWrongFalsely : Prop := fnExactSquareInRow.holds Try.pinned (OpenSpec.ofChange fnExactSquareInWrong)

/-- 'laws.FnExactLeafIn': WHATEVER THE INPUT: true; the input reads as it did. -/
def fnExactLeafInSpec : ChangeSpec := { name := "fnExactLeafIn", fn := fun _ => fun
  | [d] => { results := [.lit (.bool true)], args := [d] }
  | _ => none }
def fnExactLeafInRow : OpenClaim := { program := "ytaemaloelmgblaa", sum := "c1a7c88c4be67e48e16744aef75e9434da1f5ac7fb133605ccba0925fa3d98a9", func := "loop.example/nineplanes/laws.FnExactLeafIn", spec := "fnExactLeafIn", apart := false }
def FnExactLeafInSaid : Prop := fnExactLeafInRow.holds Try.pinned (OpenSpec.ofChange fnExactLeafInSpec)

/-- ITS FALSE NEIGHBOUR: 'it returns false'. Refute it at one input. -/
def fnExactLeafInWrong : ChangeSpec := { name := "fnExactLeafIn", fn := fun _ => fun
  | [d] => { results := [.lit (.bool false)], args := [d] }
  | _ => none }
def FnExactLeafInWrongFalsely : Prop := fnExactLeafInRow.holds Try.pinned (OpenSpec.ofChange fnExactLeafInWrong)

/-- 'laws.FnExactSquareApart': WHATEVER THE INPUT: true; the input reads as it did. -/
def fnExactSquareApartSpec : ChangeSpec := { name := "fnExactSquareApart", fn := fun _ => fun
  | [d1, d2] => { results := [.lit (.bool true)], args := [d1, d2] }
  | _ => none }
def fnExactSquareApartRow : OpenClaim := { program := "ytaemaloelmgblaa", sum := "c1a7c88c4be67e48e16744aef75e9434da1f5ac7fb133605ccba0925fa3d98a9", func := "loop.example/nineplanes/laws.FnExactSquareApart", spec := "fnExactSquareApart", unfollowed := true, recurses := true, apart := false }
def FnExactSquareApartSaid : Prop := fnExactSquareApartRow.holds Try.pinned (OpenSpec.ofChange fnExactSquareApartSpec)

/-- ITS FALSE NEIGHBOUR: 'it returns false'. Refute it at one input. -/
def fnExactSquareApartWrong : ChangeSpec := { name := "fnExactSquareApart", fn := fun _ => fun
  | [d1, d2] => { results := [.lit (.bool false)], args := [d1, d2] }
  | _ => none }
def FnExactSquareApartWrongFalsely : Prop := fnExactSquareApartRow.holds Try.pinned (OpenSpec.ofChange fnExactSquareApartWrong)

/-- 'laws.FnExactSquareTurned': WHATEVER THE INPUT: true; the input reads as it did. -/
def fnExactSquareTurnedSpec : ChangeSpec := { name := "fnExactSquareTurned", fn := fun _ => fun
  | [d] => { results := [.lit (.bool true)], args := [d] }
  | _ => none }
def fnExactSquareTurnedRow : OpenClaim := { program := "ytaemaloelmgblaa", sum := "c1a7c88c4be67e48e16744aef75e9434da1f5ac7fb133605ccba0925fa3d98a9", func := "loop.example/nineplanes/laws.FnExactSquareTurned", spec := "fnExactSquareTurned", unfollowed := true, recurses := true, apart := false }
def FnExactSquareTurnedSaid : Prop := fnExactSquareTurnedRow.holds Try.pinned (OpenSpec.ofChange fnExactSquareTurnedSpec)

/-- ITS FALSE NEIGHBOUR: 'it returns false'. Refute it at one input. -/
def fnExactSquareTurnedWrong : ChangeSpec := { name := "fnExactSquareTurned", fn := fun _ => fun
  | [d] => { results := [.lit (.bool false)], args := [d] }
  | _ => none }
def FnExactSquareTurnedWrongFalsely : Prop := fnExactSquareTurnedRow.holds Try.pinned (OpenSpec.ofChange fnExactSquareTurnedWrong)

/-- 'laws.FnExactSquareOf': WHATEVER THE INPUT: true; the input reads as it did. -/
def fnExactSquareOfSpec : ChangeSpec := { name := "fnExactSquareOf", fn := fun _ => fun
  | [d1, d2] => { results := [.lit (.bool true)], args := [d1, d2] }
  | _ => none }
def fnExactSquareOfRow : OpenClaim := { program := "ytaemaloelmgblaa", sum := "c1a7c88c4be67e48e16744aef75e9434da1f5ac7fb133605ccba0925fa3d98a9", func := "loop.example/nineplanes/laws.FnExactSquareOf", spec := "fnExactSquareOf", unfollowed := true, recurses := true, apart := false }
def FnExactSquareOfSaid : Prop := fnExactSquareOfRow.holds Try.pinned (OpenSpec.ofChange fnExactSquareOfSpec)

/-- ITS FALSE NEIGHBOUR: 'it returns false'. Refute it at one input. -/
def fnExactSquareOfWrong : ChangeSpec := { name := "fnExactSquareOf", fn := fun _ => fun
  | [d1, d2] => { results := [.lit (.bool false)], args := [d1, d2] }
  | _ => none }
def FnExactSquareOfWrongFalsely : Prop := fnExactSquareOfRow.holds Try.pinned (OpenSpec.ofChange fnExactSquareOfWrong)

/-- 'laws.FnExactMoveShift': WHATEVER THE INPUT: true; the input reads as it did. -/
def fnExactMoveShiftSpec : ChangeSpec := { name := "fnExactMoveShift", fn := fun _ => fun
  | [d1, d2, d3] => { results := [.lit (.bool true)], args := [d1, d2, d3] }
  | _ => none }
def fnExactMoveShiftRow : OpenClaim := { program := "ytaemaloelmgblaa", sum := "c1a7c88c4be67e48e16744aef75e9434da1f5ac7fb133605ccba0925fa3d98a9", func := "loop.example/nineplanes/laws.FnExactMoveShift", spec := "fnExactMoveShift", unfollowed := true, recurses := true, apart := false }
def FnExactMoveShiftSaid : Prop := fnExactMoveShiftRow.holds Try.pinned (OpenSpec.ofChange fnExactMoveShiftSpec)

/-- ITS FALSE NEIGHBOUR: 'it returns false'. Refute it at one input. -/
def fnExactMoveShiftWrong : ChangeSpec := { name := "fnExactMoveShift", fn := fun _ => fun
  | [d1, d2, d3] => { results := [.lit (.bool false)], args := [d1, d2, d3] }
  | _ => none }
def FnExactMoveShiftWrongFalsely : Prop := fnExactMoveShiftRow.holds Try.pinned (OpenSpec.ofChange fnExactMoveShiftWrong)

/- THE SECOND FORM. 'bulk': how many values and letters a reading holds, each counted each time it is reached (what is shared counts as often as it is met; a slice's spare places count too). A statement '..UptoSaid' is the law's where the arguments, and the package variables that the reading takes, are together of bulk at most 1048576: NARROWER than '..Said'. Prove '..Said' where nothing that the law and all that it calls make is longer than what came in: it says more and counts as full. Else prove '..UptoSaid'. A law counts once. -/
mutual
def uptoBulk {H : Type} : DataW H → Nat
  | .lit (.string bytes) => bytes.length + 1
  | .lit _ => 1
  | .nil => 1
  | .ptr d => uptoBulk d + 1
  | .slice elems spare => uptoBulkAll elems + uptoBulkAll spare + 1
  | .agg parts => uptoBulkAll parts + 1
  | .iface _ d => uptoBulk d + 1
  | .map entries => uptoBulkEntries entries + 1
  | .held _ => 1
def uptoBulkAll {H : Type} : List (DataW H) → Nat
  | [] => 0
  | d :: r => uptoBulk d + uptoBulkAll r
def uptoBulkEntries {H : Type} : List (Lit × DataW H) → Nat
  | [] => 0
  | x :: r => uptoBulkEntry x + uptoBulkEntries r
def uptoBulkEntry {H : Type} : Lit × DataW H → Nat
  | (.string bytes, d) => bytes.length + uptoBulk d + 1
  | (_, d) => uptoBulk d + 1
 end
def uptoSmall : (H : Type) → List (DataW H) → Bool := fun _ ds => decide (uptoBulkAll ds ≤ 1048576)
def OpenSpec.upto (s : _root_.Go.ChangeSpec) : _root_.Go.OpenSpec := { _root_.Go.OpenSpec.ofChange s with cond := some uptoSmall }

/-- 'laws.FnExactSquareIn', WHERE WHAT IT READS IS OF BULK AT MOST 1048576: true; the input reads as it did. -/
def fnExactSquareInUptoRow : OpenClaim := { program := "ytaemaloelmgblaa", sum := "c1a7c88c4be67e48e16744aef75e9434da1f5ac7fb133605ccba0925fa3d98a9", func := "loop.example/nineplanes/laws.FnExactSquareIn", spec := "fnExactSquareIn", unfollowed := true, recurses := true, apart := false, narrowed := true }
def FnExactSquareInUptoSaid : Prop := fnExactSquareInUptoRow.holds Try.pinned (OpenSpec.upto fnExactSquareInSpec)

/-- 'laws.FnExactLeafIn', WHERE WHAT IT READS IS OF BULK AT MOST 1048576: true; the input reads as it did. -/
def fnExactLeafInUptoRow : OpenClaim := { program := "ytaemaloelmgblaa", sum := "c1a7c88c4be67e48e16744aef75e9434da1f5ac7fb133605ccba0925fa3d98a9", func := "loop.example/nineplanes/laws.FnExactLeafIn", spec := "fnExactLeafIn", apart := false, narrowed := true }
def FnExactLeafInUptoSaid : Prop := fnExactLeafInUptoRow.holds Try.pinned (OpenSpec.upto fnExactLeafInSpec)

/-- 'laws.FnExactSquareApart', WHERE WHAT IT READS IS OF BULK AT MOST 1048576: true; the input reads as it did. -/
def fnExactSquareApartUptoRow : OpenClaim := { program := "ytaemaloelmgblaa", sum := "c1a7c88c4be67e48e16744aef75e9434da1f5ac7fb133605ccba0925fa3d98a9", func := "loop.example/nineplanes/laws.FnExactSquareApart", spec := "fnExactSquareApart", unfollowed := true, recurses := true, apart := false, narrowed := true }
def FnExactSquareApartUptoSaid : Prop := fnExactSquareApartUptoRow.holds Try.pinned (OpenSpec.upto fnExactSquareApartSpec)

/-- 'laws.FnExactSquareTurned', WHERE WHAT IT READS IS OF BULK AT MOST 1048576: true; the input reads as it did. -/
def fnExactSquareTurnedUptoRow : OpenClaim := { program := "ytaemaloelmgblaa", sum := "c1a7c88c4be67e48e16744aef75e9434da1f5ac7fb133605ccba0925fa3d98a9", func := "loop.example/nineplanes/laws.FnExactSquareTurned", spec := "fnExactSquareTurned", unfollowed := true, recurses := true, apart := false, narrowed := true }
def FnExactSquareTurnedUptoSaid : Prop := fnExactSquareTurnedUptoRow.holds Try.pinned (OpenSpec.upto fnExactSquareTurnedSpec)

/-- 'laws.FnExactSquareOf', WHERE WHAT IT READS IS OF BULK AT MOST 1048576: true; the input reads as it did. -/
def fnExactSquareOfUptoRow : OpenClaim := { program := "ytaemaloelmgblaa", sum := "c1a7c88c4be67e48e16744aef75e9434da1f5ac7fb133605ccba0925fa3d98a9", func := "loop.example/nineplanes/laws.FnExactSquareOf", spec := "fnExactSquareOf", unfollowed := true, recurses := true, apart := false, narrowed := true }
def FnExactSquareOfUptoSaid : Prop := fnExactSquareOfUptoRow.holds Try.pinned (OpenSpec.upto fnExactSquareOfSpec)

/-- 'laws.FnExactMoveShift', WHERE WHAT IT READS IS OF BULK AT MOST 1048576: true; the input reads as it did. -/
def fnExactMoveShiftUptoRow : OpenClaim := { program := "ytaemaloelmgblaa", sum := "c1a7c88c4be67e48e16744aef75e9434da1f5ac7fb133605ccba0925fa3d98a9", func := "loop.example/nineplanes/laws.FnExactMoveShift", spec := "fnExactMoveShift", unfollowed := true, recurses := true, apart := false, narrowed := true }
def FnExactMoveShiftUptoSaid : Prop := fnExactMoveShiftUptoRow.holds Try.pinned (OpenSpec.upto fnExactMoveShiftSpec)

end Rows
end Go.Proofs.Ytaemaloelmgblaa
