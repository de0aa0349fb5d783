/-
  No cell of these rows narrows 'for every input' (looked for: loops, veiled, ifaces, maps, wideKeys, modest, calm, conditions, laid).
  DERIVED. THE GIVEN ROWS OF THIS SEAT. 10 by the template 'for every input the law returns true; each argument reads behind the call as it read before'; 0 by the template 'total and deterministic' (their statements: YtmfijochjkpaaaaTotals.lean).
  GIVEN WITH THE SEED: the statements are not yours to turn. If you find one false, say at which input.
  Laid BY PROGRAM, IN A SANDBOX (cutbox-rows.mjs): the forced cells as the released guide's own fill.sh prints them over the translation 706df57b195dbdfb… (all of the seat's roots in one cut). By AI agents, Wed Nov 11 2026. No macro, syntax, notation, axiom, sorry.
-/
import Derived.Test.YtmfijochjkpaaaaChecked
import GoSem.Claim
import GoSem.ClaimJoined
import GoSem.ClaimMapViews
import Derived.JoinedTies
import Derived.KernelRfl
namespace Go.Proofs.Ytmfijochjkpaaaa
/- THE CELL 'sum', in the pinned program and in every row, IS THE sha256 OF THE DUMP (.gsa) THAT YtmfijochjkpaaaaProg.lean LOADS. Nothing in Lean hashes anything: it is a label: what it is worth is what the hold of that sum in a sandbox is worth. -/
noncomputable def Try.pinned : Pinned := { name := "ytmfijochjkpaaaa", sum := "706df57b195dbdfb3204fce2e47b98310626ed4b8c3166abd5e5a9ab5af4aa8e", checked := Try.checked }
namespace Rows
def none {H : Type} : Left H := { results := [], args := [] }

/-- 'laws.FnSpan': WHATEVER THE INPUT: true; the input reads as it did. -/
def fnSpanSpec : ChangeSpec := { name := "fnSpan", fn := fun _ => fun
  | [d] => { results := [.lit (.bool true)], args := [d] }
  | _ => none }
def fnSpanRow : OpenClaim := { program := "ytmfijochjkpaaaa", sum := "706df57b195dbdfb3204fce2e47b98310626ed4b8c3166abd5e5a9ab5af4aa8e", func := "loop.example/nineplanes/laws.FnSpan", spec := "fnSpan", unfollowed := true, recurses := true, apart := false }
def FnSpanSaid : Prop := fnSpanRow.holds Try.pinned (OpenSpec.ofChange fnSpanSpec)

/-- ITS FALSE NEIGHBOUR: 'it returns false'. Refute it at one input. -/
def fnSpanWrong : ChangeSpec := { name := "fnSpan", fn := fun _ => fun
  | [d] => { results := [.lit (.bool false)], args := [d] }
  | _ => none }
def FnSpanWrongFalsely : Prop := fnSpanRow.holds Try.pinned (OpenSpec.ofChange fnSpanWrong)

/-- 'laws.FnMoveLine': WHATEVER THE INPUT: true; the input reads as it did. -/
def fnMoveLineSpec : ChangeSpec := { name := "fnMoveLine", fn := fun _ => fun
  | [d] => { results := [.lit (.bool true)], args := [d] }
  | _ => none }
def fnMoveLineRow : OpenClaim := { program := "ytmfijochjkpaaaa", sum := "706df57b195dbdfb3204fce2e47b98310626ed4b8c3166abd5e5a9ab5af4aa8e", func := "loop.example/nineplanes/laws.FnMoveLine", spec := "fnMoveLine", unfollowed := true, recurses := true, apart := false }
def FnMoveLineSaid : Prop := fnMoveLineRow.holds Try.pinned (OpenSpec.ofChange fnMoveLineSpec)

/-- ITS FALSE NEIGHBOUR: 'it returns false'. Refute it at one input. -/
def fnMoveLineWrong : ChangeSpec := { name := "fnMoveLine", fn := fun _ => fun
  | [d] => { results := [.lit (.bool false)], args := [d] }
  | _ => none }
def FnMoveLineWrongFalsely : Prop := fnMoveLineRow.holds Try.pinned (OpenSpec.ofChange fnMoveLineWrong)

/-- 'laws.FnExactSpreadSum': WHATEVER THE INPUT: true; the input reads as it did. -/
def fnExactSpreadSumSpec : ChangeSpec := { name := "fnExactSpreadSum", fn := fun _ => fun
  | [d] => { results := [.lit (.bool true)], args := [d] }
  | _ => none }
def fnExactSpreadSumRow : OpenClaim := { program := "ytmfijochjkpaaaa", sum := "706df57b195dbdfb3204fce2e47b98310626ed4b8c3166abd5e5a9ab5af4aa8e", func := "loop.example/nineplanes/laws.FnExactSpreadSum", spec := "fnExactSpreadSum", recurses := true, apart := false }
def FnExactSpreadSumSaid : Prop := fnExactSpreadSumRow.holds Try.pinned (OpenSpec.ofChange fnExactSpreadSumSpec)

/-- ITS FALSE NEIGHBOUR: 'it returns false'. Refute it at one input. -/
def fnExactSpreadSumWrong : ChangeSpec := { name := "fnExactSpreadSum", fn := fun _ => fun
  | [d] => { results := [.lit (.bool false)], args := [d] }
  | _ => none }
def FnExactSpreadSumWrongFalsely : Prop := fnExactSpreadSumRow.holds Try.pinned (OpenSpec.ofChange fnExactSpreadSumWrong)

/-- 'laws.FnWhole': WHATEVER THE INPUT: true; the input reads as it did. -/
def fnWholeSpec : ChangeSpec := { name := "fnWhole", fn := fun _ => fun
  | [d] => { results := [.lit (.bool true)], args := [d] }
  | _ => none }
def fnWholeRow : OpenClaim := { program := "ytmfijochjkpaaaa", sum := "706df57b195dbdfb3204fce2e47b98310626ed4b8c3166abd5e5a9ab5af4aa8e", func := "loop.example/nineplanes/laws.FnWhole", spec := "fnWhole", unfollowed := true, recurses := true, apart := false }
def FnWholeSaid : Prop := fnWholeRow.holds Try.pinned (OpenSpec.ofChange fnWholeSpec)

/-- ITS FALSE NEIGHBOUR: 'it returns false'. Refute it at one input. -/
def fnWholeWrong : ChangeSpec := { name := "fnWhole", fn := fun _ => fun
  | [d] => { results := [.lit (.bool false)], args := [d] }
  | _ => none }
def FnWholeWrongFalsely : Prop := fnWholeRow.holds Try.pinned (OpenSpec.ofChange fnWholeWrong)

/-- 'laws.FnMoveTimes': WHATEVER THE INPUT: true; the input reads as it did. -/
def fnMoveTimesSpec : ChangeSpec := { name := "fnMoveTimes", fn := fun _ => fun
  | [d] => { results := [.lit (.bool true)], args := [d] }
  | _ => none }
def fnMoveTimesRow : OpenClaim := { program := "ytmfijochjkpaaaa", sum := "706df57b195dbdfb3204fce2e47b98310626ed4b8c3166abd5e5a9ab5af4aa8e", func := "loop.example/nineplanes/laws.FnMoveTimes", spec := "fnMoveTimes", unfollowed := true, recurses := true, apart := false }
def FnMoveTimesSaid : Prop := fnMoveTimesRow.holds Try.pinned (OpenSpec.ofChange fnMoveTimesSpec)

/-- ITS FALSE NEIGHBOUR: 'it returns false'. Refute it at one input. -/
def fnMoveTimesWrong : ChangeSpec := { name := "fnMoveTimes", fn := fun _ => fun
  | [d] => { results := [.lit (.bool false)], args := [d] }
  | _ => none }
def FnMoveTimesWrongFalsely : Prop := fnMoveTimesRow.holds Try.pinned (OpenSpec.ofChange fnMoveTimesWrong)

/-- 'laws.FnSpreadJoin': WHATEVER THE INPUT: true; the input reads as it did. -/
def fnSpreadJoinSpec : ChangeSpec := { name := "fnSpreadJoin", fn := fun _ => fun
  | [d] => { results := [.lit (.bool true)], args := [d] }
  | _ => none }
def fnSpreadJoinRow : OpenClaim := { program := "ytmfijochjkpaaaa", sum := "706df57b195dbdfb3204fce2e47b98310626ed4b8c3166abd5e5a9ab5af4aa8e", func := "loop.example/nineplanes/laws.FnSpreadJoin", spec := "fnSpreadJoin", unfollowed := true, recurses := true, apart := false }
def FnSpreadJoinSaid : Prop := fnSpreadJoinRow.holds Try.pinned (OpenSpec.ofChange fnSpreadJoinSpec)

/-- ITS FALSE NEIGHBOUR: 'it returns false'. Refute it at one input. -/
def fnSpreadJoinWrong : ChangeSpec := { name := "fnSpreadJoin", fn := fun _ => fun
  | [d] => { results := [.lit (.bool false)], args := [d] }
  | _ => none }
def FnSpreadJoinWrongFalsely : Prop := fnSpreadJoinRow.holds Try.pinned (OpenSpec.ofChange fnSpreadJoinWrong)

/-- 'laws.FnMoveAxis': WHATEVER THE INPUT: true; the input reads as it did. -/
def fnMoveAxisSpec : ChangeSpec := { name := "fnMoveAxis", fn := fun _ => fun
  | [d] => { results := [.lit (.bool true)], args := [d] }
  | _ => none }
def fnMoveAxisRow : OpenClaim := { program := "ytmfijochjkpaaaa", sum := "706df57b195dbdfb3204fce2e47b98310626ed4b8c3166abd5e5a9ab5af4aa8e", func := "loop.example/nineplanes/laws.FnMoveAxis", spec := "fnMoveAxis", unfollowed := true, recurses := true, apart := false }
def FnMoveAxisSaid : Prop := fnMoveAxisRow.holds Try.pinned (OpenSpec.ofChange fnMoveAxisSpec)

/-- ITS FALSE NEIGHBOUR: 'it returns false'. Refute it at one input. -/
def fnMoveAxisWrong : ChangeSpec := { name := "fnMoveAxis", fn := fun _ => fun
  | [d] => { results := [.lit (.bool false)], args := [d] }
  | _ => none }
def FnMoveAxisWrongFalsely : Prop := fnMoveAxisRow.holds Try.pinned (OpenSpec.ofChange fnMoveAxisWrong)

/-- 'laws.FnMoveCentre': WHATEVER THE INPUT: true; the input reads as it did. -/
def fnMoveCentreSpec : ChangeSpec := { name := "fnMoveCentre", fn := fun _ => fun
  | [d] => { results := [.lit (.bool true)], args := [d] }
  | _ => none }
def fnMoveCentreRow : OpenClaim := { program := "ytmfijochjkpaaaa", sum := "706df57b195dbdfb3204fce2e47b98310626ed4b8c3166abd5e5a9ab5af4aa8e", func := "loop.example/nineplanes/laws.FnMoveCentre", spec := "fnMoveCentre", unfollowed := true, recurses := true, apart := false }
def FnMoveCentreSaid : Prop := fnMoveCentreRow.holds Try.pinned (OpenSpec.ofChange fnMoveCentreSpec)

/-- ITS FALSE NEIGHBOUR: 'it returns false'. Refute it at one input. -/
def fnMoveCentreWrong : ChangeSpec := { name := "fnMoveCentre", fn := fun _ => fun
  | [d] => { results := [.lit (.bool false)], args := [d] }
  | _ => none }
def FnMoveCentreWrongFalsely : Prop := fnMoveCentreRow.holds Try.pinned (OpenSpec.ofChange fnMoveCentreWrong)

/-- 'laws.FnSpread': WHATEVER THE INPUT: true; the input reads as it did. -/
def fnSpreadSpec : ChangeSpec := { name := "fnSpread", fn := fun _ => fun
  | [d] => { results := [.lit (.bool true)], args := [d] }
  | _ => none }
def fnSpreadRow : OpenClaim := { program := "ytmfijochjkpaaaa", sum := "706df57b195dbdfb3204fce2e47b98310626ed4b8c3166abd5e5a9ab5af4aa8e", func := "loop.example/nineplanes/laws.FnSpread", spec := "fnSpread", unfollowed := true, recurses := true, apart := false }
def FnSpreadSaid : Prop := fnSpreadRow.holds Try.pinned (OpenSpec.ofChange fnSpreadSpec)

/-- ITS FALSE NEIGHBOUR: 'it returns false'. Refute it at one input. -/
def fnSpreadWrong : ChangeSpec := { name := "fnSpread", fn := fun _ => fun
  | [d] => { results := [.lit (.bool false)], args := [d] }
  | _ => none }
def FnSpreadWrongFalsely : Prop := fnSpreadRow.holds Try.pinned (OpenSpec.ofChange fnSpreadWrong)

/-- 'laws.FnSum': WHATEVER THE INPUT: true; the input reads as it did. -/
def fnSumSpec : ChangeSpec := { name := "fnSum", fn := fun _ => fun
  | [d] => { results := [.lit (.bool true)], args := [d] }
  | _ => none }
def fnSumRow : OpenClaim := { program := "ytmfijochjkpaaaa", sum := "706df57b195dbdfb3204fce2e47b98310626ed4b8c3166abd5e5a9ab5af4aa8e", func := "loop.example/nineplanes/laws.FnSum", spec := "fnSum", recurses := true, apart := false }
def FnSumSaid : Prop := fnSumRow.holds Try.pinned (OpenSpec.ofChange fnSumSpec)

/-- ITS FALSE NEIGHBOUR: 'it returns false'. Refute it at one input. -/
def fnSumWrong : ChangeSpec := { name := "fnSum", fn := fun _ => fun
  | [d] => { results := [.lit (.bool false)], args := [d] }
  | _ => none }
def FnSumWrongFalsely : Prop := fnSumRow.holds Try.pinned (OpenSpec.ofChange fnSumWrong)

/- THE SECOND FORM. 'bulk': how many values and letters a reading holds, each counted each time it is reached (what is shared counts as often as it is met; a slice's spare places count too). A statement '..UptoSaid' is the law's where the arguments, and the package variables that the reading takes, are together of bulk at most 1048576: NARROWER than '..Said'. Prove '..Said' where nothing that the law and all that it calls make is longer than what came in: it says more and counts as full. Else prove '..UptoSaid'. A law counts once. -/
mutual
def uptoBulk {H : Type} : DataW H → Nat
  | .lit (.string bytes) => bytes.length + 1
  | .lit _ => 1
  | .nil => 1
  | .ptr d => uptoBulk d + 1
  | .slice elems spare => uptoBulkAll elems + uptoBulkAll spare + 1
  | .agg parts => uptoBulkAll parts + 1
  | .iface _ d => uptoBulk d + 1
  | .map entries => uptoBulkEntries entries + 1
  | .held _ => 1
def uptoBulkAll {H : Type} : List (DataW H) → Nat
  | [] => 0
  | d :: r => uptoBulk d + uptoBulkAll r
def uptoBulkEntries {H : Type} : List (Lit × DataW H) → Nat
  | [] => 0
  | x :: r => uptoBulkEntry x + uptoBulkEntries r
def uptoBulkEntry {H : Type} : Lit × DataW H → Nat
  | (.string bytes, d) => bytes.length + uptoBulk d + 1
  | (_, d) => uptoBulk d + 1
 end
def uptoSmall : (H : Type) → List (DataW H) → Bool := fun _ ds => decide (uptoBulkAll ds ≤ 1048576)
def OpenSpec.upto (s : _root_.Go.ChangeSpec) : _root_.Go.OpenSpec := { _root_.Go.OpenSpec.ofChange s with cond := some uptoSmall }

/-- 'laws.FnSpan', WHERE WHAT IT READS IS OF BULK AT MOST 1048576: true; the input reads as it did. -/
def fnSpanUptoRow : OpenClaim := { program := "ytmfijochjkpaaaa", sum := "706df57b195dbdfb3204fce2e47b98310626ed4b8c3166abd5e5a9ab5af4aa8e", func := "loop.example/nineplanes/laws.FnSpan", spec := "fnSpan", unfollowed := true, recurses := true, apart := false, narrowed := true }
def FnSpanUptoSaid : Prop := fnSpanUptoRow.holds Try.pinned (OpenSpec.upto fnSpanSpec)

/-- 'laws.FnMoveLine', WHERE WHAT IT READS IS OF BULK AT MOST 1048576: true; the input reads as it did. -/
def fnMoveLineUptoRow : OpenClaim := { program := "ytmfijochjkpaaaa", sum := "706df57b195dbdfb3204fce2e47b98310626ed4b8c3166abd5e5a9ab5af4aa8e", func := "loop.example/nineplanes/laws.FnMoveLine", spec := "fnMoveLine", unfollowed := true, recurses := true, apart := false, narrowed := true }
def FnMoveLineUptoSaid : Prop := fnMoveLineUptoRow.holds Try.pinned (OpenSpec.upto fnMoveLineSpec)

/-- 'laws.FnExactSpreadSum', WHERE WHAT IT READS IS OF BULK AT MOST 1048576: true; the input reads as it did. -/
def fnExactSpreadSumUptoRow : OpenClaim := { program := "ytmfijochjkpaaaa", sum := "706df57b195dbdfb3204fce2e47b98310626ed4b8c3166abd5e5a9ab5af4aa8e", func := "loop.example/nineplanes/laws.FnExactSpreadSum", spec := "fnExactSpreadSum", recurses := true, apart := false, narrowed := true }
def FnExactSpreadSumUptoSaid : Prop := fnExactSpreadSumUptoRow.holds Try.pinned (OpenSpec.upto fnExactSpreadSumSpec)

/-- 'laws.FnWhole', WHERE WHAT IT READS IS OF BULK AT MOST 1048576: true; the input reads as it did. -/
def fnWholeUptoRow : OpenClaim := { program := "ytmfijochjkpaaaa", sum := "706df57b195dbdfb3204fce2e47b98310626ed4b8c3166abd5e5a9ab5af4aa8e", func := "loop.example/nineplanes/laws.FnWhole", spec := "fnWhole", unfollowed := true, recurses := true, apart := false, narrowed := true }
def FnWholeUptoSaid : Prop := fnWholeUptoRow.holds Try.pinned (OpenSpec.upto fnWholeSpec)

/-- 'laws.FnMoveTimes', WHERE WHAT IT READS IS OF BULK AT MOST 1048576: true; the input reads as it did. -/
def fnMoveTimesUptoRow : OpenClaim := { program := "ytmfijochjkpaaaa", sum := "706df57b195dbdfb3204fce2e47b98310626ed4b8c3166abd5e5a9ab5af4aa8e", func := "loop.example/nineplanes/laws.FnMoveTimes", spec := "fnMoveTimes", unfollowed := true, recurses := true, apart := false, narrowed := true }
def FnMoveTimesUptoSaid : Prop := fnMoveTimesUptoRow.holds Try.pinned (OpenSpec.upto fnMoveTimesSpec)

/-- 'laws.FnSpreadJoin', WHERE WHAT IT READS IS OF BULK AT MOST 1048576: true; the input reads as it did. -/
def fnSpreadJoinUptoRow : OpenClaim := { program := "ytmfijochjkpaaaa", sum := "706df57b195dbdfb3204fce2e47b98310626ed4b8c3166abd5e5a9ab5af4aa8e", func := "loop.example/nineplanes/laws.FnSpreadJoin", spec := "fnSpreadJoin", unfollowed := true, recurses := true, apart := false, narrowed := true }
def FnSpreadJoinUptoSaid : Prop := fnSpreadJoinUptoRow.holds Try.pinned (OpenSpec.upto fnSpreadJoinSpec)

/-- 'laws.FnMoveAxis', WHERE WHAT IT READS IS OF BULK AT MOST 1048576: true; the input reads as it did. -/
def fnMoveAxisUptoRow : OpenClaim := { program := "ytmfijochjkpaaaa", sum := "706df57b195dbdfb3204fce2e47b98310626ed4b8c3166abd5e5a9ab5af4aa8e", func := "loop.example/nineplanes/laws.FnMoveAxis", spec := "fnMoveAxis", unfollowed := true, recurses := true, apart := false, narrowed := true }
def FnMoveAxisUptoSaid : Prop := fnMoveAxisUptoRow.holds Try.pinned (OpenSpec.upto fnMoveAxisSpec)

/-- 'laws.FnMoveCentre', WHERE WHAT IT READS IS OF BULK AT MOST 1048576: true; the input reads as it did. -/
def fnMoveCentreUptoRow : OpenClaim := { program := "ytmfijochjkpaaaa", sum := "706df57b195dbdfb3204fce2e47b98310626ed4b8c3166abd5e5a9ab5af4aa8e", func := "loop.example/nineplanes/laws.FnMoveCentre", spec := "fnMoveCentre", unfollowed := true, recurses := true, apart := false, narrowed := true }
def FnMoveCentreUptoSaid : Prop := fnMoveCentreUptoRow.holds Try.pinned (OpenSpec.upto fnMoveCentreSpec)

/-- 'laws.FnSpread', WHERE WHAT IT READS IS OF BULK AT MOST 1048576: true; the input reads as it did. -/
def fnSpreadUptoRow : OpenClaim := { program := "ytmfijochjkpaaaa", sum := "706df57b195dbdfb3204fce2e47b98310626ed4b8c3166abd5e5a9ab5af4aa8e", func := "loop.example/nineplanes/laws.FnSpread", spec := "fnSpread", unfollowed := true, recurses := true, apart := false, narrowed := true }
def FnSpreadUptoSaid : Prop := fnSpreadUptoRow.holds Try.pinned (OpenSpec.upto fnSpreadSpec)

/-- 'laws.FnSum', WHERE WHAT IT READS IS OF BULK AT MOST 1048576: true; the input reads as it did. -/
def fnSumUptoRow : OpenClaim := { program := "ytmfijochjkpaaaa", sum := "706df57b195dbdfb3204fce2e47b98310626ed4b8c3166abd5e5a9ab5af4aa8e", func := "loop.example/nineplanes/laws.FnSum", spec := "fnSum", recurses := true, apart := false, narrowed := true }
def FnSumUptoSaid : Prop := fnSumUptoRow.holds Try.pinned (OpenSpec.upto fnSumSpec)

end Rows
end Go.Proofs.Ytmfijochjkpaaaa
