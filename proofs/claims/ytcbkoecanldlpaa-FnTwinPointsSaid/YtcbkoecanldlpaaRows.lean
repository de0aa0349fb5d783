/-
  No cell of these rows narrows 'for every input' (looked for: loops, veiled, ifaces, maps, wideKeys, modest, calm, conditions, laid).
  DERIVED. THE GIVEN ROWS OF THIS SEAT. 12 by the template 'for every input the law returns true; each argument reads behind the call as it read before'; 0 by the template 'total and deterministic' (their statements: YtcbkoecanldlpaaTotals.lean).
  GIVEN WITH THE SEED: the statements are not yours to turn. If you find one false, say at which input.
  Laid BY PROGRAM, IN A SANDBOX (cutbox-rows.mjs): the forced cells as the released guide's own fill.sh prints them over the translation 15b31dbf5a372787… (all of the seat's roots in one cut). By AI agents, Wed Nov 11 2026. No macro, syntax, notation, axiom, sorry.
-/
import Derived.Test.YtcbkoecanldlpaaChecked
import GoSem.Claim
import GoSem.ClaimJoined
import GoSem.ClaimMapViews
import Derived.JoinedTies
import Derived.KernelRfl
namespace Go.Proofs.Ytcbkoecanldlpaa
/- THE CELL 'sum', in the pinned program and in every row, IS THE sha256 OF THE DUMP (.gsa) THAT YtcbkoecanldlpaaProg.lean LOADS. Nothing in Lean hashes anything: it is a label: what it is worth is what the hold of that sum in a sandbox is worth. -/
noncomputable def Try.pinned : Pinned := { name := "ytcbkoecanldlpaa", sum := "15b31dbf5a372787c7cd23693cfa0b1be1893fe17b733943263ea7e2e1141a7b", checked := Try.checked }
namespace Rows
def none {H : Type} : Left H := { results := [], args := [] }

/-- 'laws.FnTwinFar': WHATEVER THE INPUT: true; the input reads as it did. -/
def fnTwinFarSpec : ChangeSpec := { name := "fnTwinFar", fn := fun _ => fun
  | [d] => { results := [.lit (.bool true)], args := [d] }
  | _ => none }
def fnTwinFarRow : OpenClaim := { program := "ytcbkoecanldlpaa", sum := "15b31dbf5a372787c7cd23693cfa0b1be1893fe17b733943263ea7e2e1141a7b", func := "loop.example/nineplanes/laws.FnTwinFar", spec := "fnTwinFar", unfollowed := true, recurses := true, apart := false }
def FnTwinFarSaid : Prop := fnTwinFarRow.holds Try.pinned (OpenSpec.ofChange fnTwinFarSpec)

/-- ITS FALSE NEIGHBOUR: 'it returns false'. Refute it at one input. -/
def fnTwinFarWrong : ChangeSpec := { name := "fnTwinFar", fn := fun _ => fun
  | [d] => { results := [.lit (.bool false)], args := [d] }
  | _ => none }
def FnTwinFarWrongFalsely : Prop := fnTwinFarRow.holds Try.pinned (OpenSpec.ofChange fnTwinFarWrong)

/-- 'laws.FnTwin': WHATEVER THE INPUT: true; the input reads as it did. -/
def fnTwinSpec : ChangeSpec := { name := "fnTwin", fn := fun _ => fun
  | [d] => { results := [.lit (.bool true)], args := [d] }
  | _ => none }
def fnTwinRow : OpenClaim := { program := "ytcbkoecanldlpaa", sum := "15b31dbf5a372787c7cd23693cfa0b1be1893fe17b733943263ea7e2e1141a7b", func := "loop.example/nineplanes/laws.FnTwin", spec := "fnTwin", unfollowed := true, recurses := true, apart := false }
def FnTwinSaid : Prop := fnTwinRow.holds Try.pinned (OpenSpec.ofChange fnTwinSpec)

/-- ITS FALSE NEIGHBOUR: 'it returns false'. Refute it at one input. -/
def fnTwinWrong : ChangeSpec := { name := "fnTwin", fn := fun _ => fun
  | [d] => { results := [.lit (.bool false)], args := [d] }
  | _ => none }
def FnTwinWrongFalsely : Prop := fnTwinRow.holds Try.pinned (OpenSpec.ofChange fnTwinWrong)

/-- 'laws.FnTwinCloses': WHATEVER THE INPUT: true; the input reads as it did. -/
def fnTwinClosesSpec : ChangeSpec := { name := "fnTwinCloses", fn := fun _ => fun
  | [d] => { results := [.lit (.bool true)], args := [d] }
  | _ => none }
def fnTwinClosesRow : OpenClaim := { program := "ytcbkoecanldlpaa", sum := "15b31dbf5a372787c7cd23693cfa0b1be1893fe17b733943263ea7e2e1141a7b", func := "loop.example/nineplanes/laws.FnTwinCloses", spec := "fnTwinCloses", unfollowed := true, recurses := true, apart := false }
def FnTwinClosesSaid : Prop := fnTwinClosesRow.holds Try.pinned (OpenSpec.ofChange fnTwinClosesSpec)

/-- ITS FALSE NEIGHBOUR: 'it returns false'. Refute it at one input. -/
def fnTwinClosesWrong : ChangeSpec := { name := "fnTwinCloses", fn := fun _ => fun
  | [d] => { results := [.lit (.bool false)], args := [d] }
  | _ => none }
def FnTwinClosesWrongFalsely : Prop := fnTwinClosesRow.holds Try.pinned (OpenSpec.ofChange fnTwinClosesWrong)

/-- 'laws.FnTwinPoints': WHATEVER THE INPUT: true; the input reads as it did. -/
def fnTwinPointsSpec : ChangeSpec := { name := "fnTwinPoints", fn := fun _ => fun
  | [d] => { results := [.lit (.bool true)], args := [d] }
  | _ => none }
def fnTwinPointsRow : OpenClaim := { program := "ytcbkoecanldlpaa", sum := "15b31dbf5a372787c7cd23693cfa0b1be1893fe17b733943263ea7e2e1141a7b", func := "loop.example/nineplanes/laws.FnTwinPoints", spec := "fnTwinPoints", unfollowed := true, recurses := true, apart := false }
def FnTwinPointsSaid : Prop := fnTwinPointsRow.holds Try.pinned (OpenSpec.ofChange fnTwinPointsSpec)

/-- ITS FALSE NEIGHBOUR: 'it returns false'. Refute it at one input. -/
def fnTwinPointsWrong : ChangeSpec := { name := "fnTwinPoints", fn := fun _ => fun
  | [d] => { results := [.lit (.bool false)], args := [d] }
  | _ => none }
def FnTwinPointsWrongFalsely : Prop := fnTwinPointsRow.holds Try.pinned (OpenSpec.ofChange fnTwinPointsWrong)

/-- 'laws.FnSpan': WHATEVER THE INPUT: true; the input reads as it did. -/
def fnSpanSpec : ChangeSpec := { name := "fnSpan", fn := fun _ => fun
  | [d] => { results := [.lit (.bool true)], args := [d] }
  | _ => none }
def fnSpanRow : OpenClaim := { program := "ytcbkoecanldlpaa", sum := "15b31dbf5a372787c7cd23693cfa0b1be1893fe17b733943263ea7e2e1141a7b", func := "loop.example/nineplanes/laws.FnSpan", spec := "fnSpan", unfollowed := true, recurses := true, apart := false }
def FnSpanSaid : Prop := fnSpanRow.holds Try.pinned (OpenSpec.ofChange fnSpanSpec)

/-- ITS FALSE NEIGHBOUR: 'it returns false'. Refute it at one input. -/
def fnSpanWrong : ChangeSpec := { name := "fnSpan", fn := fun _ => fun
  | [d] => { results := [.lit (.bool false)], args := [d] }
  | _ => none }
def FnSpanWrongFalsely : Prop := fnSpanRow.holds Try.pinned (OpenSpec.ofChange fnSpanWrong)

/-- 'laws.FnExactSpreadSum': WHATEVER THE INPUT: true; the input reads as it did. -/
def fnExactSpreadSumSpec : ChangeSpec := { name := "fnExactSpreadSum", fn := fun _ => fun
  | [d] => { results := [.lit (.bool true)], args := [d] }
  | _ => none }
def fnExactSpreadSumRow : OpenClaim := { program := "ytcbkoecanldlpaa", sum := "15b31dbf5a372787c7cd23693cfa0b1be1893fe17b733943263ea7e2e1141a7b", func := "loop.example/nineplanes/laws.FnExactSpreadSum", spec := "fnExactSpreadSum", recurses := true, apart := false }
def FnExactSpreadSumSaid : Prop := fnExactSpreadSumRow.holds Try.pinned (OpenSpec.ofChange fnExactSpreadSumSpec)

/-- ITS FALSE NEIGHBOUR: 'it returns false'. Refute it at one input. -/
def fnExactSpreadSumWrong : ChangeSpec := { name := "fnExactSpreadSum", fn := fun _ => fun
  | [d] => { results := [.lit (.bool false)], args := [d] }
  | _ => none }
def FnExactSpreadSumWrongFalsely : Prop := fnExactSpreadSumRow.holds Try.pinned (OpenSpec.ofChange fnExactSpreadSumWrong)

/-- 'laws.FnWhole': WHATEVER THE INPUT: true; the input reads as it did. -/
def fnWholeSpec : ChangeSpec := { name := "fnWhole", fn := fun _ => fun
  | [d] => { results := [.lit (.bool true)], args := [d] }
  | _ => none }
def fnWholeRow : OpenClaim := { program := "ytcbkoecanldlpaa", sum := "15b31dbf5a372787c7cd23693cfa0b1be1893fe17b733943263ea7e2e1141a7b", func := "loop.example/nineplanes/laws.FnWhole", spec := "fnWhole", unfollowed := true, recurses := true, apart := false }
def FnWholeSaid : Prop := fnWholeRow.holds Try.pinned (OpenSpec.ofChange fnWholeSpec)

/-- ITS FALSE NEIGHBOUR: 'it returns false'. Refute it at one input. -/
def fnWholeWrong : ChangeSpec := { name := "fnWhole", fn := fun _ => fun
  | [d] => { results := [.lit (.bool false)], args := [d] }
  | _ => none }
def FnWholeWrongFalsely : Prop := fnWholeRow.holds Try.pinned (OpenSpec.ofChange fnWholeWrong)

/-- 'laws.FnSpreadJoin': WHATEVER THE INPUT: true; the input reads as it did. -/
def fnSpreadJoinSpec : ChangeSpec := { name := "fnSpreadJoin", fn := fun _ => fun
  | [d] => { results := [.lit (.bool true)], args := [d] }
  | _ => none }
def fnSpreadJoinRow : OpenClaim := { program := "ytcbkoecanldlpaa", sum := "15b31dbf5a372787c7cd23693cfa0b1be1893fe17b733943263ea7e2e1141a7b", func := "loop.example/nineplanes/laws.FnSpreadJoin", spec := "fnSpreadJoin", unfollowed := true, recurses := true, apart := false }
def FnSpreadJoinSaid : Prop := fnSpreadJoinRow.holds Try.pinned (OpenSpec.ofChange fnSpreadJoinSpec)

/-- ITS FALSE NEIGHBOUR: 'it returns false'. Refute it at one input. -/
def fnSpreadJoinWrong : ChangeSpec := { name := "fnSpreadJoin", fn := fun _ => fun
  | [d] => { results := [.lit (.bool false)], args := [d] }
  | _ => none }
def FnSpreadJoinWrongFalsely : Prop := fnSpreadJoinRow.holds Try.pinned (OpenSpec.ofChange fnSpreadJoinWrong)

/-- 'laws.FnSpread': WHATEVER THE INPUT: true; the input reads as it did. -/
def fnSpreadSpec : ChangeSpec := { name := "fnSpread", fn := fun _ => fun
  | [d] => { results := [.lit (.bool true)], args := [d] }
  | _ => none }
def fnSpreadRow : OpenClaim := { program := "ytcbkoecanldlpaa", sum := "15b31dbf5a372787c7cd23693cfa0b1be1893fe17b733943263ea7e2e1141a7b", func := "loop.example/nineplanes/laws.FnSpread", spec := "fnSpread", unfollowed := true, recurses := true, apart := false }
def FnSpreadSaid : Prop := fnSpreadRow.holds Try.pinned (OpenSpec.ofChange fnSpreadSpec)

/-- ITS FALSE NEIGHBOUR: 'it returns false'. Refute it at one input. -/
def fnSpreadWrong : ChangeSpec := { name := "fnSpread", fn := fun _ => fun
  | [d] => { results := [.lit (.bool false)], args := [d] }
  | _ => none }
def FnSpreadWrongFalsely : Prop := fnSpreadRow.holds Try.pinned (OpenSpec.ofChange fnSpreadWrong)

/-- 'laws.FnSum': WHATEVER THE INPUT: true; the input reads as it did. -/
def fnSumSpec : ChangeSpec := { name := "fnSum", fn := fun _ => fun
  | [d] => { results := [.lit (.bool true)], args := [d] }
  | _ => none }
def fnSumRow : OpenClaim := { program := "ytcbkoecanldlpaa", sum := "15b31dbf5a372787c7cd23693cfa0b1be1893fe17b733943263ea7e2e1141a7b", func := "loop.example/nineplanes/laws.FnSum", spec := "fnSum", recurses := true, apart := false }
def FnSumSaid : Prop := fnSumRow.holds Try.pinned (OpenSpec.ofChange fnSumSpec)

/-- ITS FALSE NEIGHBOUR: 'it returns false'. Refute it at one input. -/
def fnSumWrong : ChangeSpec := { name := "fnSum", fn := fun _ => fun
  | [d] => { results := [.lit (.bool false)], args := [d] }
  | _ => none }
def FnSumWrongFalsely : Prop := fnSumRow.holds Try.pinned (OpenSpec.ofChange fnSumWrong)

/-- 'laws.FnSpanOrder': WHATEVER THE INPUT: true; the input reads as it did. -/
def fnSpanOrderSpec : ChangeSpec := { name := "fnSpanOrder", fn := fun _ => fun
  | [d] => { results := [.lit (.bool true)], args := [d] }
  | _ => none }
def fnSpanOrderRow : OpenClaim := { program := "ytcbkoecanldlpaa", sum := "15b31dbf5a372787c7cd23693cfa0b1be1893fe17b733943263ea7e2e1141a7b", func := "loop.example/nineplanes/laws.FnSpanOrder", spec := "fnSpanOrder", unfollowed := true, recurses := true, apart := false }
def FnSpanOrderSaid : Prop := fnSpanOrderRow.holds Try.pinned (OpenSpec.ofChange fnSpanOrderSpec)

/-- ITS FALSE NEIGHBOUR: 'it returns false'. Refute it at one input. -/
def fnSpanOrderWrong : ChangeSpec := { name := "fnSpanOrder", fn := fun _ => fun
  | [d] => { results := [.lit (.bool false)], args := [d] }
  | _ => none }
def FnSpanOrderWrongFalsely : Prop := fnSpanOrderRow.holds Try.pinned (OpenSpec.ofChange fnSpanOrderWrong)

/-- 'laws.FnMove': WHATEVER THE INPUT: true; the input reads as it did. -/
def fnMoveSpec : ChangeSpec := { name := "fnMove", fn := fun _ => fun
  | [d] => { results := [.lit (.bool true)], args := [d] }
  | _ => none }
def fnMoveRow : OpenClaim := { program := "ytcbkoecanldlpaa", sum := "15b31dbf5a372787c7cd23693cfa0b1be1893fe17b733943263ea7e2e1141a7b", func := "loop.example/nineplanes/laws.FnMove", spec := "fnMove", unfollowed := true, recurses := true, apart := false }
def FnMoveSaid : Prop := fnMoveRow.holds Try.pinned (OpenSpec.ofChange fnMoveSpec)

/-- ITS FALSE NEIGHBOUR: 'it returns false'. Refute it at one input. -/
def fnMoveWrong : ChangeSpec := { name := "fnMove", fn := fun _ => fun
  | [d] => { results := [.lit (.bool false)], args := [d] }
  | _ => none }
def FnMoveWrongFalsely : Prop := fnMoveRow.holds Try.pinned (OpenSpec.ofChange fnMoveWrong)

/- THE SECOND FORM. 'bulk': how many values and letters a reading holds, each counted each time it is reached (what is shared counts as often as it is met; a slice's spare places count too). A statement '..UptoSaid' is the law's where the arguments, and the package variables that the reading takes, are together of bulk at most 1048576: NARROWER than '..Said'. Prove '..Said' where nothing that the law and all that it calls make is longer than what came in: it says more and counts as full. Else prove '..UptoSaid'. A law counts once. -/
mutual
def uptoBulk {H : Type} : DataW H → Nat
  | .lit (.string bytes) => bytes.length + 1
  | .lit _ => 1
  | .nil => 1
  | .ptr d => uptoBulk d + 1
  | .slice elems spare => uptoBulkAll elems + uptoBulkAll spare + 1
  | .agg parts => uptoBulkAll parts + 1
  | .iface _ d => uptoBulk d + 1
  | .map entries => uptoBulkEntries entries + 1
  | .held _ => 1
def uptoBulkAll {H : Type} : List (DataW H) → Nat
  | [] => 0
  | d :: r => uptoBulk d + uptoBulkAll r
def uptoBulkEntries {H : Type} : List (Lit × DataW H) → Nat
  | [] => 0
  | x :: r => uptoBulkEntry x + uptoBulkEntries r
def uptoBulkEntry {H : Type} : Lit × DataW H → Nat
  | (.string bytes, d) => bytes.length + uptoBulk d + 1
  | (_, d) => uptoBulk d + 1
 end
def uptoSmall : (H : Type) → List (DataW H) → Bool := fun _ ds => decide (uptoBulkAll ds ≤ 1048576)
def OpenSpec.upto (s : _root_.Go.ChangeSpec) : _root_.Go.OpenSpec := { _root_.Go.OpenSpec.ofChange s with cond := some uptoSmall }

/-- 'laws.FnTwinFar', WHERE WHAT IT READS IS OF BULK AT MOST 1048576: true; the input reads as it did. -/
def fnTwinFarUptoRow : OpenClaim := { program := "ytcbkoecanldlpaa", sum := "15b31dbf5a372787c7cd23693cfa0b1be1893fe17b733943263ea7e2e1141a7b", func := "loop.example/nineplanes/laws.FnTwinFar", spec := "fnTwinFar", unfollowed := true, recurses := true, apart := false, narrowed := true }
def FnTwinFarUptoSaid : Prop := fnTwinFarUptoRow.holds Try.pinned (OpenSpec.upto fnTwinFarSpec)

/-- 'laws.FnTwin', WHERE WHAT IT READS IS OF BULK AT MOST 1048576: true; the input reads as it did. -/
def fnTwinUptoRow : OpenClaim := { program := "ytcbkoecanldlpaa", sum := "15b31dbf5a372787c7cd23693cfa0b1be1893fe17b733943263ea7e2e1141a7b", func := "loop.example/nineplanes/laws.FnTwin", spec := "fnTwin", unfollowed := true, recurses := true, apart := false, narrowed := true }
def FnTwinUptoSaid : Prop := fnTwinUptoRow.holds Try.pinned (OpenSpec.upto fnTwinSpec)

/-- 'laws.FnTwinCloses', WHERE WHAT IT READS IS OF BULK AT MOST 1048576: true; the input reads as it did. -/
def fnTwinClosesUptoRow : OpenClaim := { program := "ytcbkoecanldlpaa", sum := "15b31dbf5a372787c7cd23693cfa0b1be1893fe17b733943263ea7e2e1141a7b", func := "loop.example/nineplanes/laws.FnTwinCloses", spec := "fnTwinCloses", unfollowed := true, recurses := true, apart := false, narrowed := true }
def FnTwinClosesUptoSaid : Prop := fnTwinClosesUptoRow.holds Try.pinned (OpenSpec.upto fnTwinClosesSpec)

/-- 'laws.FnTwinPoints', WHERE WHAT IT READS IS OF BULK AT MOST 1048576: true; the input reads as it did. -/
def fnTwinPointsUptoRow : OpenClaim := { program := "ytcbkoecanldlpaa", sum := "15b31dbf5a372787c7cd23693cfa0b1be1893fe17b733943263ea7e2e1141a7b", func := "loop.example/nineplanes/laws.FnTwinPoints", spec := "fnTwinPoints", unfollowed := true, recurses := true, apart := false, narrowed := true }
def FnTwinPointsUptoSaid : Prop := fnTwinPointsUptoRow.holds Try.pinned (OpenSpec.upto fnTwinPointsSpec)

/-- 'laws.FnSpan', WHERE WHAT IT READS IS OF BULK AT MOST 1048576: true; the input reads as it did. -/
def fnSpanUptoRow : OpenClaim := { program := "ytcbkoecanldlpaa", sum := "15b31dbf5a372787c7cd23693cfa0b1be1893fe17b733943263ea7e2e1141a7b", func := "loop.example/nineplanes/laws.FnSpan", spec := "fnSpan", unfollowed := true, recurses := true, apart := false, narrowed := true }
def FnSpanUptoSaid : Prop := fnSpanUptoRow.holds Try.pinned (OpenSpec.upto fnSpanSpec)

/-- 'laws.FnExactSpreadSum', WHERE WHAT IT READS IS OF BULK AT MOST 1048576: true; the input reads as it did. -/
def fnExactSpreadSumUptoRow : OpenClaim := { program := "ytcbkoecanldlpaa", sum := "15b31dbf5a372787c7cd23693cfa0b1be1893fe17b733943263ea7e2e1141a7b", func := "loop.example/nineplanes/laws.FnExactSpreadSum", spec := "fnExactSpreadSum", recurses := true, apart := false, narrowed := true }
def FnExactSpreadSumUptoSaid : Prop := fnExactSpreadSumUptoRow.holds Try.pinned (OpenSpec.upto fnExactSpreadSumSpec)

/-- 'laws.FnWhole', WHERE WHAT IT READS IS OF BULK AT MOST 1048576: true; the input reads as it did. -/
def fnWholeUptoRow : OpenClaim := { program := "ytcbkoecanldlpaa", sum := "15b31dbf5a372787c7cd23693cfa0b1be1893fe17b733943263ea7e2e1141a7b", func := "loop.example/nineplanes/laws.FnWhole", spec := "fnWhole", unfollowed := true, recurses := true, apart := false, narrowed := true }
def FnWholeUptoSaid : Prop := fnWholeUptoRow.holds Try.pinned (OpenSpec.upto fnWholeSpec)

/-- 'laws.FnSpreadJoin', WHERE WHAT IT READS IS OF BULK AT MOST 1048576: true; the input reads as it did. -/
def fnSpreadJoinUptoRow : OpenClaim := { program := "ytcbkoecanldlpaa", sum := "15b31dbf5a372787c7cd23693cfa0b1be1893fe17b733943263ea7e2e1141a7b", func := "loop.example/nineplanes/laws.FnSpreadJoin", spec := "fnSpreadJoin", unfollowed := true, recurses := true, apart := false, narrowed := true }
def FnSpreadJoinUptoSaid : Prop := fnSpreadJoinUptoRow.holds Try.pinned (OpenSpec.upto fnSpreadJoinSpec)

/-- 'laws.FnSpread', WHERE WHAT IT READS IS OF BULK AT MOST 1048576: true; the input reads as it did. -/
def fnSpreadUptoRow : OpenClaim := { program := "ytcbkoecanldlpaa", sum := "15b31dbf5a372787c7cd23693cfa0b1be1893fe17b733943263ea7e2e1141a7b", func := "loop.example/nineplanes/laws.FnSpread", spec := "fnSpread", unfollowed := true, recurses := true, apart := false, narrowed := true }
def FnSpreadUptoSaid : Prop := fnSpreadUptoRow.holds Try.pinned (OpenSpec.upto fnSpreadSpec)

/-- 'laws.FnSum', WHERE WHAT IT READS IS OF BULK AT MOST 1048576: true; the input reads as it did. -/
def fnSumUptoRow : OpenClaim := { program := "ytcbkoecanldlpaa", sum := "15b31dbf5a372787c7cd23693cfa0b1be1893fe17b733943263ea7e2e1141a7b", func := "loop.example/nineplanes/laws.FnSum", spec := "fnSum", recurses := true, apart := false, narrowed := true }
def FnSumUptoSaid : Prop := fnSumUptoRow.holds Try.pinned (OpenSpec.upto fnSumSpec)

/-- 'laws.FnSpanOrder', WHERE WHAT IT READS IS OF BULK AT MOST 1048576: true; the input reads as it did. -/
def fnSpanOrderUptoRow : OpenClaim := { program := "ytcbkoecanldlpaa", sum := "15b31dbf5a372787c7cd23693cfa0b1be1893fe17b733943263ea7e2e1141a7b", func := "loop.example/nineplanes/laws.FnSpanOrder", spec := "fnSpanOrder", unfollowed := true, recurses := true, apart := false, narrowed := true }
def FnSpanOrderUptoSaid : Prop := fnSpanOrderUptoRow.holds Try.pinned (OpenSpec.upto fnSpanOrderSpec)

/-- 'laws.FnMove', WHERE WHAT IT READS IS OF BULK AT MOST 1048576: true; the input reads as it did. -/
def fnMoveUptoRow : OpenClaim := { program := "ytcbkoecanldlpaa", sum := "15b31dbf5a372787c7cd23693cfa0b1be1893fe17b733943263ea7e2e1141a7b", func := "loop.example/nineplanes/laws.FnMove", spec := "fnMove", unfollowed := true, recurses := true, apart := false, narrowed := true }
def FnMoveUptoSaid : Prop := fnMoveUptoRow.holds Try.pinned (OpenSpec.upto fnMoveSpec)

end Rows
end Go.Proofs.Ytcbkoecanldlpaa
