/-
  No cell of these rows narrows 'for every input' (looked for: loops, veiled, ifaces, maps, wideKeys, modest, calm, conditions, laid).
  DERIVED. THE GIVEN ROWS OF THIS SEAT. 12 by the template 'for every input the law returns true; each argument reads behind the call as it read before'; 0 by the template 'total and deterministic' (their statements: YtckipgldmkboiaaTotals.lean).
  GIVEN WITH THE SEED: the statements are not yours to turn. If you find one false, say at which input.
  Laid BY PROGRAM, IN A SANDBOX (cutbox-rows.mjs): the forced cells as the released guide's own fill.sh prints them over the translation d79bc5d3d00fb7fa… (all of the seat's roots in one cut). By AI agents, Wed Nov 11 2026. No macro, syntax, notation, axiom, sorry.
-/
import Derived.Test.YtckipgldmkboiaaChecked
import GoSem.Claim
import GoSem.ClaimJoined
import GoSem.ClaimMapViews
import Derived.JoinedTies
import Derived.KernelRfl
namespace Go.Proofs.Ytckipgldmkboiaa
/- THE CELL 'sum', in the pinned program and in every row, IS THE sha256 OF THE DUMP (.gsa) THAT YtckipgldmkboiaaProg.lean LOADS. Nothing in Lean hashes anything: it is a label: what it is worth is what the hold of that sum in a sandbox is worth. -/
noncomputable def Try.pinned : Pinned := { name := "ytckipgldmkboiaa", sum := "d79bc5d3d00fb7fab47027d51586535724b321f9639cff3da23804ec15393ef1", checked := Try.checked }
namespace Rows
def none {H : Type} : Left H := { results := [], args := [] }

/-- 'laws.FnExactMoveBack': WHATEVER THE INPUT: true; the input reads as it did. -/
def fnExactMoveBackSpec : ChangeSpec := { name := "fnExactMoveBack", fn := fun _ => fun
  | [d1, d2] => { results := [.lit (.bool true)], args := [d1, d2] }
  | _ => none }
def fnExactMoveBackRow : OpenClaim := { program := "ytckipgldmkboiaa", sum := "d79bc5d3d00fb7fab47027d51586535724b321f9639cff3da23804ec15393ef1", func := "loop.example/nineplanes/laws.FnExactMoveBack", spec := "fnExactMoveBack", unfollowed := true, recurses := true, apart := false }
def FnExactMoveBackSaid : Prop := fnExactMoveBackRow.holds Try.pinned (OpenSpec.ofChange fnExactMoveBackSpec)

/-- ITS FALSE NEIGHBOUR: 'it returns false'. Refute it at one input. -/
def fnExactMoveBackWrong : ChangeSpec := { name := "fnExactMoveBack", fn := fun _ => fun
  | [d1, d2] => { results := [.lit (.bool false)], args := [d1, d2] }
  | _ => none }
def FnExactMoveBackWrongFalsely : Prop := fnExactMoveBackRow.holds Try.pinned (OpenSpec.ofChange fnExactMoveBackWrong)

/-- 'laws.FnExactMoveCentre': WHATEVER THE INPUT: true; the input reads as it did. -/
def fnExactMoveCentreSpec : ChangeSpec := { name := "fnExactMoveCentre", fn := fun _ => fun
  | [d1, d2] => { results := [.lit (.bool true)], args := [d1, d2] }
  | _ => none }
def fnExactMoveCentreRow : OpenClaim := { program := "ytckipgldmkboiaa", sum := "d79bc5d3d00fb7fab47027d51586535724b321f9639cff3da23804ec15393ef1", func := "loop.example/nineplanes/laws.FnExactMoveCentre", spec := "fnExactMoveCentre", unfollowed := true, recurses := true, apart := false }
def FnExactMoveCentreSaid : Prop := fnExactMoveCentreRow.holds Try.pinned (OpenSpec.ofChange fnExactMoveCentreSpec)

/-- ITS FALSE NEIGHBOUR: 'it returns false'. Refute it at one input. -/
def fnExactMoveCentreWrong : ChangeSpec := { name := "fnExactMoveCentre", fn := fun _ => fun
  | [d1, d2] => { results := [.lit (.bool false)], args := [d1, d2] }
  | _ => none }
def FnExactMoveCentreWrongFalsely : Prop := fnExactMoveCentreRow.holds Try.pinned (OpenSpec.ofChange fnExactMoveCentreWrong)

/-- 'laws.FnExactMoveTimes': WHATEVER THE INPUT: true; the input reads as it did. -/
def fnExactMoveTimesSpec : ChangeSpec := { name := "fnExactMoveTimes", fn := fun _ => fun
  | [d1, d2, d3] => { results := [.lit (.bool true)], args := [d1, d2, d3] }
  | _ => none }
def fnExactMoveTimesRow : OpenClaim := { program := "ytckipgldmkboiaa", sum := "d79bc5d3d00fb7fab47027d51586535724b321f9639cff3da23804ec15393ef1", func := "loop.example/nineplanes/laws.FnExactMoveTimes", spec := "fnExactMoveTimes", unfollowed := true, recurses := true, apart := false }
def FnExactMoveTimesSaid : Prop := fnExactMoveTimesRow.holds Try.pinned (OpenSpec.ofChange fnExactMoveTimesSpec)

/-- ITS FALSE NEIGHBOUR: 'it returns false'. Refute it at one input. -/
def fnExactMoveTimesWrong : ChangeSpec := { name := "fnExactMoveTimes", fn := fun _ => fun
  | [d1, d2, d3] => { results := [.lit (.bool false)], args := [d1, d2, d3] }
  | _ => none }
def FnExactMoveTimesWrongFalsely : Prop := fnExactMoveTimesRow.holds Try.pinned (OpenSpec.ofChange fnExactMoveTimesWrong)

/-- 'laws.FnExactMoveOrder': WHATEVER THE INPUT: true; the input reads as it did. -/
def fnExactMoveOrderSpec : ChangeSpec := { name := "fnExactMoveOrder", fn := fun _ => fun
  | [d1, d2] => { results := [.lit (.bool true)], args := [d1, d2] }
  | _ => none }
def fnExactMoveOrderRow : OpenClaim := { program := "ytckipgldmkboiaa", sum := "d79bc5d3d00fb7fab47027d51586535724b321f9639cff3da23804ec15393ef1", func := "loop.example/nineplanes/laws.FnExactMoveOrder", spec := "fnExactMoveOrder", unfollowed := true, recurses := true, apart := false }
def FnExactMoveOrderSaid : Prop := fnExactMoveOrderRow.holds Try.pinned (OpenSpec.ofChange fnExactMoveOrderSpec)

/-- ITS FALSE NEIGHBOUR: 'it returns false'. Refute it at one input. -/
def fnExactMoveOrderWrong : ChangeSpec := { name := "fnExactMoveOrder", fn := fun _ => fun
  | [d1, d2] => { results := [.lit (.bool false)], args := [d1, d2] }
  | _ => none }
def FnExactMoveOrderWrongFalsely : Prop := fnExactMoveOrderRow.holds Try.pinned (OpenSpec.ofChange fnExactMoveOrderWrong)

/-- 'laws.FnExactSpanWhole': WHATEVER THE INPUT: true; the input reads as it did. -/
def fnExactSpanWholeSpec : ChangeSpec := { name := "fnExactSpanWhole", fn := fun _ => fun
  | [d1, d2] => { results := [.lit (.bool true)], args := [d1, d2] }
  | _ => none }
def fnExactSpanWholeRow : OpenClaim := { program := "ytckipgldmkboiaa", sum := "d79bc5d3d00fb7fab47027d51586535724b321f9639cff3da23804ec15393ef1", func := "loop.example/nineplanes/laws.FnExactSpanWhole", spec := "fnExactSpanWhole", unfollowed := true, recurses := true, apart := false }
def FnExactSpanWholeSaid : Prop := fnExactSpanWholeRow.holds Try.pinned (OpenSpec.ofChange fnExactSpanWholeSpec)

/-- ITS FALSE NEIGHBOUR: 'it returns false'. Refute it at one input. -/
def fnExactSpanWholeWrong : ChangeSpec := { name := "fnExactSpanWhole", fn := fun _ => fun
  | [d1, d2] => { results := [.lit (.bool false)], args := [d1, d2] }
  | _ => none }
def FnExactSpanWholeWrongFalsely : Prop := fnExactSpanWholeRow.holds Try.pinned (OpenSpec.ofChange fnExactSpanWholeWrong)

/-- 'laws.FnExactSpanOrder': WHATEVER THE INPUT: true; the input reads as it did. -/
def fnExactSpanOrderSpec : ChangeSpec := { name := "fnExactSpanOrder", fn := fun _ => fun
  | [d1, d2] => { results := [.lit (.bool true)], args := [d1, d2] }
  | _ => none }
def fnExactSpanOrderRow : OpenClaim := { program := "ytckipgldmkboiaa", sum := "d79bc5d3d00fb7fab47027d51586535724b321f9639cff3da23804ec15393ef1", func := "loop.example/nineplanes/laws.FnExactSpanOrder", spec := "fnExactSpanOrder", unfollowed := true, recurses := true, apart := false }
def FnExactSpanOrderSaid : Prop := fnExactSpanOrderRow.holds Try.pinned (OpenSpec.ofChange fnExactSpanOrderSpec)

/-- ITS FALSE NEIGHBOUR: 'it returns false'. Refute it at one input. -/
def fnExactSpanOrderWrong : ChangeSpec := { name := "fnExactSpanOrder", fn := fun _ => fun
  | [d1, d2] => { results := [.lit (.bool false)], args := [d1, d2] }
  | _ => none }
def FnExactSpanOrderWrongFalsely : Prop := fnExactSpanOrderRow.holds Try.pinned (OpenSpec.ofChange fnExactSpanOrderWrong)

/-- 'laws.FnShift': WHATEVER THE INPUT: true; the input reads as it did. -/
def fnShiftSpec : ChangeSpec := { name := "fnShift", fn := fun _ => fun
  | [d] => { results := [.lit (.bool true)], args := [d] }
  | _ => none }
def fnShiftRow : OpenClaim := { program := "ytckipgldmkboiaa", sum := "d79bc5d3d00fb7fab47027d51586535724b321f9639cff3da23804ec15393ef1", func := "loop.example/nineplanes/laws.FnShift", spec := "fnShift", unfollowed := true, recurses := true, apart := false }
def FnShiftSaid : Prop := fnShiftRow.holds Try.pinned (OpenSpec.ofChange fnShiftSpec)

/-- ITS FALSE NEIGHBOUR: 'it returns false'. Refute it at one input. -/
def fnShiftWrong : ChangeSpec := { name := "fnShift", fn := fun _ => fun
  | [d] => { results := [.lit (.bool false)], args := [d] }
  | _ => none }
def FnShiftWrongFalsely : Prop := fnShiftRow.holds Try.pinned (OpenSpec.ofChange fnShiftWrong)

/-- 'laws.FnTwinFar': WHATEVER THE INPUT: true; the input reads as it did. -/
def fnTwinFarSpec : ChangeSpec := { name := "fnTwinFar", fn := fun _ => fun
  | [d] => { results := [.lit (.bool true)], args := [d] }
  | _ => none }
def fnTwinFarRow : OpenClaim := { program := "ytckipgldmkboiaa", sum := "d79bc5d3d00fb7fab47027d51586535724b321f9639cff3da23804ec15393ef1", func := "loop.example/nineplanes/laws.FnTwinFar", spec := "fnTwinFar", unfollowed := true, recurses := true, apart := false }
def FnTwinFarSaid : Prop := fnTwinFarRow.holds Try.pinned (OpenSpec.ofChange fnTwinFarSpec)

/-- ITS FALSE NEIGHBOUR: 'it returns false'. Refute it at one input. -/
def fnTwinFarWrong : ChangeSpec := { name := "fnTwinFar", fn := fun _ => fun
  | [d] => { results := [.lit (.bool false)], args := [d] }
  | _ => none }
def FnTwinFarWrongFalsely : Prop := fnTwinFarRow.holds Try.pinned (OpenSpec.ofChange fnTwinFarWrong)

/-- 'laws.FnTwin': WHATEVER THE INPUT: true; the input reads as it did. -/
def fnTwinSpec : ChangeSpec := { name := "fnTwin", fn := fun _ => fun
  | [d] => { results := [.lit (.bool true)], args := [d] }
  | _ => none }
def fnTwinRow : OpenClaim := { program := "ytckipgldmkboiaa", sum := "d79bc5d3d00fb7fab47027d51586535724b321f9639cff3da23804ec15393ef1", func := "loop.example/nineplanes/laws.FnTwin", spec := "fnTwin", unfollowed := true, recurses := true, apart := false }
def FnTwinSaid : Prop := fnTwinRow.holds Try.pinned (OpenSpec.ofChange fnTwinSpec)

/-- ITS FALSE NEIGHBOUR: 'it returns false'. Refute it at one input. -/
def fnTwinWrong : ChangeSpec := { name := "fnTwin", fn := fun _ => fun
  | [d] => { results := [.lit (.bool false)], args := [d] }
  | _ => none }
def FnTwinWrongFalsely : Prop := fnTwinRow.holds Try.pinned (OpenSpec.ofChange fnTwinWrong)

/-- 'laws.FnStretch': WHATEVER THE INPUT: true; the input reads as it did. -/
def fnStretchSpec : ChangeSpec := { name := "fnStretch", fn := fun _ => fun
  | [d] => { results := [.lit (.bool true)], args := [d] }
  | _ => none }
def fnStretchRow : OpenClaim := { program := "ytckipgldmkboiaa", sum := "d79bc5d3d00fb7fab47027d51586535724b321f9639cff3da23804ec15393ef1", func := "loop.example/nineplanes/laws.FnStretch", spec := "fnStretch", unfollowed := true, recurses := true, apart := false }
def FnStretchSaid : Prop := fnStretchRow.holds Try.pinned (OpenSpec.ofChange fnStretchSpec)

/-- ITS FALSE NEIGHBOUR: 'it returns false'. Refute it at one input. -/
def fnStretchWrong : ChangeSpec := { name := "fnStretch", fn := fun _ => fun
  | [d] => { results := [.lit (.bool false)], args := [d] }
  | _ => none }
def FnStretchWrongFalsely : Prop := fnStretchRow.holds Try.pinned (OpenSpec.ofChange fnStretchWrong)

/-- 'laws.FnTwinCloses': WHATEVER THE INPUT: true; the input reads as it did. -/
def fnTwinClosesSpec : ChangeSpec := { name := "fnTwinCloses", fn := fun _ => fun
  | [d] => { results := [.lit (.bool true)], args := [d] }
  | _ => none }
def fnTwinClosesRow : OpenClaim := { program := "ytckipgldmkboiaa", sum := "d79bc5d3d00fb7fab47027d51586535724b321f9639cff3da23804ec15393ef1", func := "loop.example/nineplanes/laws.FnTwinCloses", spec := "fnTwinCloses", unfollowed := true, recurses := true, apart := false }
def FnTwinClosesSaid : Prop := fnTwinClosesRow.holds Try.pinned (OpenSpec.ofChange fnTwinClosesSpec)

/-- ITS FALSE NEIGHBOUR: 'it returns false'. Refute it at one input. -/
def fnTwinClosesWrong : ChangeSpec := { name := "fnTwinCloses", fn := fun _ => fun
  | [d] => { results := [.lit (.bool false)], args := [d] }
  | _ => none }
def FnTwinClosesWrongFalsely : Prop := fnTwinClosesRow.holds Try.pinned (OpenSpec.ofChange fnTwinClosesWrong)

/-- 'laws.FnTwinPoints': WHATEVER THE INPUT: true; the input reads as it did. -/
def fnTwinPointsSpec : ChangeSpec := { name := "fnTwinPoints", fn := fun _ => fun
  | [d] => { results := [.lit (.bool true)], args := [d] }
  | _ => none }
def fnTwinPointsRow : OpenClaim := { program := "ytckipgldmkboiaa", sum := "d79bc5d3d00fb7fab47027d51586535724b321f9639cff3da23804ec15393ef1", func := "loop.example/nineplanes/laws.FnTwinPoints", spec := "fnTwinPoints", unfollowed := true, recurses := true, apart := false }
def FnTwinPointsSaid : Prop := fnTwinPointsRow.holds Try.pinned (OpenSpec.ofChange fnTwinPointsSpec)

/-- ITS FALSE NEIGHBOUR: 'it returns false'. Refute it at one input. -/
def fnTwinPointsWrong : ChangeSpec := { name := "fnTwinPoints", fn := fun _ => fun
  | [d] => { results := [.lit (.bool false)], args := [d] }
  | _ => none }
def FnTwinPointsWrongFalsely : Prop := fnTwinPointsRow.holds Try.pinned (OpenSpec.ofChange fnTwinPointsWrong)

/- THE SECOND FORM. 'bulk': how many values and letters a reading holds, each counted each time it is reached (what is shared counts as often as it is met; a slice's spare places count too). A statement '..UptoSaid' is the law's where the arguments, and the package variables that the reading takes, are together of bulk at most 1048576: NARROWER than '..Said'. Prove '..Said' where nothing that the law and all that it calls make is longer than what came in: it says more and counts as full. Else prove '..UptoSaid'. A law counts once. -/
mutual
def uptoBulk {H : Type} : DataW H → Nat
  | .lit (.string bytes) => bytes.length + 1
  | .lit _ => 1
  | .nil => 1
  | .ptr d => uptoBulk d + 1
  | .slice elems spare => uptoBulkAll elems + uptoBulkAll spare + 1
  | .agg parts => uptoBulkAll parts + 1
  | .iface _ d => uptoBulk d + 1
  | .map entries => uptoBulkEntries entries + 1
  | .held _ => 1
def uptoBulkAll {H : Type} : List (DataW H) → Nat
  | [] => 0
  | d :: r => uptoBulk d + uptoBulkAll r
def uptoBulkEntries {H : Type} : List (Lit × DataW H) → Nat
  | [] => 0
  | x :: r => uptoBulkEntry x + uptoBulkEntries r
def uptoBulkEntry {H : Type} : Lit × DataW H → Nat
  | (.string bytes, d) => bytes.length + uptoBulk d + 1
  | (_, d) => uptoBulk d + 1
 end
def uptoSmall : (H : Type) → List (DataW H) → Bool := fun _ ds => decide (uptoBulkAll ds ≤ 1048576)
def OpenSpec.upto (s : _root_.Go.ChangeSpec) : _root_.Go.OpenSpec := { _root_.Go.OpenSpec.ofChange s with cond := some uptoSmall }

/-- 'laws.FnExactMoveBack', WHERE WHAT IT READS IS OF BULK AT MOST 1048576: true; the input reads as it did. -/
def fnExactMoveBackUptoRow : OpenClaim := { program := "ytckipgldmkboiaa", sum := "d79bc5d3d00fb7fab47027d51586535724b321f9639cff3da23804ec15393ef1", func := "loop.example/nineplanes/laws.FnExactMoveBack", spec := "fnExactMoveBack", unfollowed := true, recurses := true, apart := false, narrowed := true }
def FnExactMoveBackUptoSaid : Prop := fnExactMoveBackUptoRow.holds Try.pinned (OpenSpec.upto fnExactMoveBackSpec)

/-- 'laws.FnExactMoveCentre', WHERE WHAT IT READS IS OF BULK AT MOST 1048576: true; the input reads as it did. -/
def fnExactMoveCentreUptoRow : OpenClaim := { program := "ytckipgldmkboiaa", sum := "d79bc5d3d00fb7fab47027d51586535724b321f9639cff3da23804ec15393ef1", func := "loop.example/nineplanes/laws.FnExactMoveCentre", spec := "fnExactMoveCentre", unfollowed := true, recurses := true, apart := false, narrowed := true }
def FnExactMoveCentreUptoSaid : Prop := fnExactMoveCentreUptoRow.holds Try.pinned (OpenSpec.upto fnExactMoveCentreSpec)

/-- 'laws.FnExactMoveTimes', WHERE WHAT IT READS IS OF BULK AT MOST 1048576: true; the input reads as it did. -/
def fnExactMoveTimesUptoRow : OpenClaim := { program := "ytckipgldmkboiaa", sum := "d79bc5d3d00fb7fab47027d51586535724b321f9639cff3da23804ec15393ef1", func := "loop.example/nineplanes/laws.FnExactMoveTimes", spec := "fnExactMoveTimes", unfollowed := true, recurses := true, apart := false, narrowed := true }
def FnExactMoveTimesUptoSaid : Prop := fnExactMoveTimesUptoRow.holds Try.pinned (OpenSpec.upto fnExactMoveTimesSpec)

/-- 'laws.FnExactMoveOrder', WHERE WHAT IT READS IS OF BULK AT MOST 1048576: true; the input reads as it did. -/
def fnExactMoveOrderUptoRow : OpenClaim := { program := "ytckipgldmkboiaa", sum := "d79bc5d3d00fb7fab47027d51586535724b321f9639cff3da23804ec15393ef1", func := "loop.example/nineplanes/laws.FnExactMoveOrder", spec := "fnExactMoveOrder", unfollowed := true, recurses := true, apart := false, narrowed := true }
def FnExactMoveOrderUptoSaid : Prop := fnExactMoveOrderUptoRow.holds Try.pinned (OpenSpec.upto fnExactMoveOrderSpec)

/-- 'laws.FnExactSpanWhole', WHERE WHAT IT READS IS OF BULK AT MOST 1048576: true; the input reads as it did. -/
def fnExactSpanWholeUptoRow : OpenClaim := { program := "ytckipgldmkboiaa", sum := "d79bc5d3d00fb7fab47027d51586535724b321f9639cff3da23804ec15393ef1", func := "loop.example/nineplanes/laws.FnExactSpanWhole", spec := "fnExactSpanWhole", unfollowed := true, recurses := true, apart := false, narrowed := true }
def FnExactSpanWholeUptoSaid : Prop := fnExactSpanWholeUptoRow.holds Try.pinned (OpenSpec.upto fnExactSpanWholeSpec)

/-- 'laws.FnExactSpanOrder', WHERE WHAT IT READS IS OF BULK AT MOST 1048576: true; the input reads as it did. -/
def fnExactSpanOrderUptoRow : OpenClaim := { program := "ytckipgldmkboiaa", sum := "d79bc5d3d00fb7fab47027d51586535724b321f9639cff3da23804ec15393ef1", func := "loop.example/nineplanes/laws.FnExactSpanOrder", spec := "fnExactSpanOrder", unfollowed := true, recurses := true, apart := false, narrowed := true }
def FnExactSpanOrderUptoSaid : Prop := fnExactSpanOrderUptoRow.holds Try.pinned (OpenSpec.upto fnExactSpanOrderSpec)

/-- 'laws.FnShift', WHERE WHAT IT READS IS OF BULK AT MOST 1048576: true; the input reads as it did. -/
def fnShiftUptoRow : OpenClaim := { program := "ytckipgldmkboiaa", sum := "d79bc5d3d00fb7fab47027d51586535724b321f9639cff3da23804ec15393ef1", func := "loop.example/nineplanes/laws.FnShift", spec := "fnShift", unfollowed := true, recurses := true, apart := false, narrowed := true }
def FnShiftUptoSaid : Prop := fnShiftUptoRow.holds Try.pinned (OpenSpec.upto fnShiftSpec)

/-- 'laws.FnTwinFar', WHERE WHAT IT READS IS OF BULK AT MOST 1048576: true; the input reads as it did. -/
def fnTwinFarUptoRow : OpenClaim := { program := "ytckipgldmkboiaa", sum := "d79bc5d3d00fb7fab47027d51586535724b321f9639cff3da23804ec15393ef1", func := "loop.example/nineplanes/laws.FnTwinFar", spec := "fnTwinFar", unfollowed := true, recurses := true, apart := false, narrowed := true }
def FnTwinFarUptoSaid : Prop := fnTwinFarUptoRow.holds Try.pinned (OpenSpec.upto fnTwinFarSpec)

/-- 'laws.FnTwin', WHERE WHAT IT READS IS OF BULK AT MOST 1048576: true; the input reads as it did. -/
def fnTwinUptoRow : OpenClaim := { program := "ytckipgldmkboiaa", sum := "d79bc5d3d00fb7fab47027d51586535724b321f9639cff3da23804ec15393ef1", func := "loop.example/nineplanes/laws.FnTwin", spec := "fnTwin", unfollowed := true, recurses := true, apart := false, narrowed := true }
def FnTwinUptoSaid : Prop := fnTwinUptoRow.holds Try.pinned (OpenSpec.upto fnTwinSpec)

/-- 'laws.FnStretch', WHERE WHAT IT READS IS OF BULK AT MOST 1048576: true; the input reads as it did. -/
def fnStretchUptoRow : OpenClaim := { program := "ytckipgldmkboiaa", sum := "d79bc5d3d00fb7fab47027d51586535724b321f9639cff3da23804ec15393ef1", func := "loop.example/nineplanes/laws.FnStretch", spec := "fnStretch", unfollowed := true, recurses := true, apart := false, narrowed := true }
def FnStretchUptoSaid : Prop := fnStretchUptoRow.holds Try.pinned (OpenSpec.upto fnStretchSpec)

/-- 'laws.FnTwinCloses', WHERE WHAT IT READS IS OF BULK AT MOST 1048576: true; the input reads as it did. -/
def fnTwinClosesUptoRow : OpenClaim := { program := "ytckipgldmkboiaa", sum := "d79bc5d3d00fb7fab47027d51586535724b321f9639cff3da23804ec15393ef1", func := "loop.example/nineplanes/laws.FnTwinCloses", spec := "fnTwinCloses", unfollowed := true, recurses := true, apart := false, narrowed := true }
def FnTwinClosesUptoSaid : Prop := fnTwinClosesUptoRow.holds Try.pinned (OpenSpec.upto fnTwinClosesSpec)

/-- 'laws.FnTwinPoints', WHERE WHAT IT READS IS OF BULK AT MOST 1048576: true; the input reads as it did. -/
def fnTwinPointsUptoRow : OpenClaim := { program := "ytckipgldmkboiaa", sum := "d79bc5d3d00fb7fab47027d51586535724b321f9639cff3da23804ec15393ef1", func := "loop.example/nineplanes/laws.FnTwinPoints", spec := "fnTwinPoints", unfollowed := true, recurses := true, apart := false, narrowed := true }
def FnTwinPointsUptoSaid : Prop := fnTwinPointsUptoRow.holds Try.pinned (OpenSpec.upto fnTwinPointsSpec)

end Rows
end Go.Proofs.Ytckipgldmkboiaa
