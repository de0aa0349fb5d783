/-
  No cell of these rows narrows 'for every input' (looked for: loops, veiled, ifaces, maps, wideKeys, modest, calm, conditions, laid).
  DERIVED. THE GIVEN ROWS OF THIS SEAT. 12 by the template 'for every input the law returns true; each argument reads behind the call as it read before'; 0 by the template 'total and deterministic' (their statements: YtfoadgbffidgaaaTotals.lean).
  GIVEN WITH THE SEED: the statements are not yours to turn. If you find one false, say at which input.
  Laid BY PROGRAM, IN A SANDBOX (cutbox-rows.mjs): the forced cells as the released guide's own fill.sh prints them over the translation 27572eb0dea3dd2f… (all of the seat's roots in one cut). By AI agents, Wed Nov 11 2026. No macro, syntax, notation, axiom, sorry.
-/
import Derived.Test.YtfoadgbffidgaaaChecked
import GoSem.Claim
import GoSem.ClaimJoined
import GoSem.ClaimMapViews
import Derived.JoinedTies
import Derived.KernelRfl
namespace Go.Proofs.Ytfoadgbffidgaaa
/- THE CELL 'sum', in the pinned program and in every row, IS THE sha256 OF THE DUMP (.gsa) THAT YtfoadgbffidgaaaProg.lean LOADS. Nothing in Lean hashes anything: it is a label: what it is worth is what the hold of that sum in a sandbox is worth. -/
noncomputable def Try.pinned : Pinned := { name := "ytfoadgbffidgaaa", sum := "27572eb0dea3dd2fc804ba6e60965ed59781dcb15b0786f28c3656ca3939cc35", checked := Try.checked }
namespace Rows
def none {H : Type} : Left H := { results := [], args := [] }

/-- 'laws.FnExactSpreadIn': WHATEVER THE INPUT: true; the input reads as it did. -/
def fnExactSpreadInSpec : ChangeSpec := { name := "fnExactSpreadIn", fn := fun _ => fun
  | [d] => { results := [.lit (.bool true)], args := [d] }
  | _ => none }
def fnExactSpreadInRow : OpenClaim := { program := "ytfoadgbffidgaaa", sum := "27572eb0dea3dd2fc804ba6e60965ed59781dcb15b0786f28c3656ca3939cc35", func := "loop.example/nineplanes/laws.FnExactSpreadIn", spec := "fnExactSpreadIn", apart := false }
def FnExactSpreadInSaid : Prop := fnExactSpreadInRow.holds Try.pinned (OpenSpec.ofChange fnExactSpreadInSpec)

/-- ITS FALSE NEIGHBOUR: 'it returns false'. Refute it at one input. -/
def fnExactSpreadInWrong : ChangeSpec := { name := "fnExactSpreadIn", fn := fun _ => fun
  | [d] => { results := [.lit (.bool false)], args := [d] }
  | _ => none }
def FnExactSpreadInWrongFalsely : Prop := fnExactSpreadInRow.holds Try.pinned (OpenSpec.ofChange fnExactSpreadInWrong)

/-- 'laws.FnExactMoveStretch': WHATEVER THE INPUT: true; the input reads as it did. -/
def fnExactMoveStretchSpec : ChangeSpec := { name := "fnExactMoveStretch", fn := fun _ => fun
  | [d1, d2] => { results := [.lit (.bool true)], args := [d1, d2] }
  | _ => none }
def fnExactMoveStretchRow : OpenClaim := { program := "ytfoadgbffidgaaa", sum := "27572eb0dea3dd2fc804ba6e60965ed59781dcb15b0786f28c3656ca3939cc35", func := "loop.example/nineplanes/laws.FnExactMoveStretch", spec := "fnExactMoveStretch", unfollowed := true, recurses := true, apart := false }
def FnExactMoveStretchSaid : Prop := fnExactMoveStretchRow.holds Try.pinned (OpenSpec.ofChange fnExactMoveStretchSpec)

/-- ITS FALSE NEIGHBOUR: 'it returns false'. Refute it at one input. -/
def fnExactMoveStretchWrong : ChangeSpec := { name := "fnExactMoveStretch", fn := fun _ => fun
  | [d1, d2] => { results := [.lit (.bool false)], args := [d1, d2] }
  | _ => none }
def FnExactMoveStretchWrongFalsely : Prop := fnExactMoveStretchRow.holds Try.pinned (OpenSpec.ofChange fnExactMoveStretchWrong)

/-- 'laws.FnExactSpreadJoin': WHATEVER THE INPUT: true; the input reads as it did. -/
def fnExactSpreadJoinSpec : ChangeSpec := { name := "fnExactSpreadJoin", fn := fun _ => fun
  | [d1, d2, d3] => { results := [.lit (.bool true)], args := [d1, d2, d3] }
  | _ => none }
def fnExactSpreadJoinRow : OpenClaim := { program := "ytfoadgbffidgaaa", sum := "27572eb0dea3dd2fc804ba6e60965ed59781dcb15b0786f28c3656ca3939cc35", func := "loop.example/nineplanes/laws.FnExactSpreadJoin", spec := "fnExactSpreadJoin", unfollowed := true, recurses := true, apart := false }
def FnExactSpreadJoinSaid : Prop := fnExactSpreadJoinRow.holds Try.pinned (OpenSpec.ofChange fnExactSpreadJoinSpec)

/-- ITS FALSE NEIGHBOUR: 'it returns false'. Refute it at one input. -/
def fnExactSpreadJoinWrong : ChangeSpec := { name := "fnExactSpreadJoin", fn := fun _ => fun
  | [d1, d2, d3] => { results := [.lit (.bool false)], args := [d1, d2, d3] }
  | _ => none }
def FnExactSpreadJoinWrongFalsely : Prop := fnExactSpreadJoinRow.holds Try.pinned (OpenSpec.ofChange fnExactSpreadJoinWrong)

/-- 'laws.FnSquareTurned': WHATEVER THE INPUT: true; the input reads as it did. -/
def fnSquareTurnedSpec : ChangeSpec := { name := "fnSquareTurned", fn := fun _ => fun
  | [d] => { results := [.lit (.bool true)], args := [d] }
  | _ => none }
def fnSquareTurnedRow : OpenClaim := { program := "ytfoadgbffidgaaa", sum := "27572eb0dea3dd2fc804ba6e60965ed59781dcb15b0786f28c3656ca3939cc35", func := "loop.example/nineplanes/laws.FnSquareTurned", spec := "fnSquareTurned", unfollowed := true, recurses := true, apart := false }
def FnSquareTurnedSaid : Prop := fnSquareTurnedRow.holds Try.pinned (OpenSpec.ofChange fnSquareTurnedSpec)

/-- ITS FALSE NEIGHBOUR: 'it returns false'. Refute it at one input. -/
def fnSquareTurnedWrong : ChangeSpec := { name := "fnSquareTurned", fn := fun _ => fun
  | [d] => { results := [.lit (.bool false)], args := [d] }
  | _ => none }
def FnSquareTurnedWrongFalsely : Prop := fnSquareTurnedRow.holds Try.pinned (OpenSpec.ofChange fnSquareTurnedWrong)

/-- 'laws.FnSquareIn': WHATEVER THE INPUT: true; the input reads as it did. -/
def fnSquareInSpec : ChangeSpec := { name := "fnSquareIn", fn := fun _ => fun
  | [d] => { results := [.lit (.bool true)], args := [d] }
  | _ => none }
def fnSquareInRow : OpenClaim := { program := "ytfoadgbffidgaaa", sum := "27572eb0dea3dd2fc804ba6e60965ed59781dcb15b0786f28c3656ca3939cc35", func := "loop.example/nineplanes/laws.FnSquareIn", spec := "fnSquareIn", unfollowed := true, recurses := true, apart := false }
def FnSquareInSaid : Prop := fnSquareInRow.holds Try.pinned (OpenSpec.ofChange fnSquareInSpec)

/-- ITS FALSE NEIGHBOUR: 'it returns false'. Refute it at one input. -/
def fnSquareInWrong : ChangeSpec := { name := "fnSquareIn", fn := fun _ => fun
  | [d] => { results := [.lit (.bool false)], args := [d] }
  | _ => none }
def FnSquareInWrongFalsely : Prop := fnSquareInRow.holds Try.pinned (OpenSpec.ofChange fnSquareInWrong)

/-- 'laws.FnExactSpreadSame': WHATEVER THE INPUT: true; the input reads as it did. -/
def fnExactSpreadSameSpec : ChangeSpec := { name := "fnExactSpreadSame", fn := fun _ => fun
  | [d1, d2] => { results := [.lit (.bool true)], args := [d1, d2] }
  | _ => none }
def fnExactSpreadSameRow : OpenClaim := { program := "ytfoadgbffidgaaa", sum := "27572eb0dea3dd2fc804ba6e60965ed59781dcb15b0786f28c3656ca3939cc35", func := "loop.example/nineplanes/laws.FnExactSpreadSame", spec := "fnExactSpreadSame", unfollowed := true, recurses := true, apart := false }
def FnExactSpreadSameSaid : Prop := fnExactSpreadSameRow.holds Try.pinned (OpenSpec.ofChange fnExactSpreadSameSpec)

/-- ITS FALSE NEIGHBOUR: 'it returns false'. Refute it at one input. -/
def fnExactSpreadSameWrong : ChangeSpec := { name := "fnExactSpreadSame", fn := fun _ => fun
  | [d1, d2] => { results := [.lit (.bool false)], args := [d1, d2] }
  | _ => none }
def FnExactSpreadSameWrongFalsely : Prop := fnExactSpreadSameRow.holds Try.pinned (OpenSpec.ofChange fnExactSpreadSameWrong)

/-- 'laws.FnSquareApart': WHATEVER THE INPUT: true; the input reads as it did. -/
def fnSquareApartSpec : ChangeSpec := { name := "fnSquareApart", fn := fun _ => fun
  | [d] => { results := [.lit (.bool true)], args := [d] }
  | _ => none }
def fnSquareApartRow : OpenClaim := { program := "ytfoadgbffidgaaa", sum := "27572eb0dea3dd2fc804ba6e60965ed59781dcb15b0786f28c3656ca3939cc35", func := "loop.example/nineplanes/laws.FnSquareApart", spec := "fnSquareApart", unfollowed := true, recurses := true, apart := false }
def FnSquareApartSaid : Prop := fnSquareApartRow.holds Try.pinned (OpenSpec.ofChange fnSquareApartSpec)

/-- ITS FALSE NEIGHBOUR: 'it returns false'. Refute it at one input. -/
def fnSquareApartWrong : ChangeSpec := { name := "fnSquareApart", fn := fun _ => fun
  | [d] => { results := [.lit (.bool false)], args := [d] }
  | _ => none }
def FnSquareApartWrongFalsely : Prop := fnSquareApartRow.holds Try.pinned (OpenSpec.ofChange fnSquareApartWrong)

/-- 'laws.FnExactMoveIn': WHATEVER THE INPUT: true; the input reads as it did. -/
def fnExactMoveInSpec : ChangeSpec := { name := "fnExactMoveIn", fn := fun _ => fun
  | [d1, d2] => { results := [.lit (.bool true)], args := [d1, d2] }
  | _ => none }
def fnExactMoveInRow : OpenClaim := { program := "ytfoadgbffidgaaa", sum := "27572eb0dea3dd2fc804ba6e60965ed59781dcb15b0786f28c3656ca3939cc35", func := "loop.example/nineplanes/laws.FnExactMoveIn", spec := "fnExactMoveIn", unfollowed := true, recurses := true, apart := false }
def FnExactMoveInSaid : Prop := fnExactMoveInRow.holds Try.pinned (OpenSpec.ofChange fnExactMoveInSpec)

/-- ITS FALSE NEIGHBOUR: 'it returns false'. Refute it at one input. -/
def fnExactMoveInWrong : ChangeSpec := { name := "fnExactMoveIn", fn := fun _ => fun
  | [d1, d2] => { results := [.lit (.bool false)], args := [d1, d2] }
  | _ => none }
def FnExactMoveInWrongFalsely : Prop := fnExactMoveInRow.holds Try.pinned (OpenSpec.ofChange fnExactMoveInWrong)

/-- 'laws.FnSquareOf': WHATEVER THE INPUT: true; the input reads as it did. -/
def fnSquareOfSpec : ChangeSpec := { name := "fnSquareOf", fn := fun _ => fun
  | [d] => { results := [.lit (.bool true)], args := [d] }
  | _ => none }
def fnSquareOfRow : OpenClaim := { program := "ytfoadgbffidgaaa", sum := "27572eb0dea3dd2fc804ba6e60965ed59781dcb15b0786f28c3656ca3939cc35", func := "loop.example/nineplanes/laws.FnSquareOf", spec := "fnSquareOf", unfollowed := true, recurses := true, apart := false }
def FnSquareOfSaid : Prop := fnSquareOfRow.holds Try.pinned (OpenSpec.ofChange fnSquareOfSpec)

/-- ITS FALSE NEIGHBOUR: 'it returns false'. Refute it at one input. -/
def fnSquareOfWrong : ChangeSpec := { name := "fnSquareOf", fn := fun _ => fun
  | [d] => { results := [.lit (.bool false)], args := [d] }
  | _ => none }
def FnSquareOfWrongFalsely : Prop := fnSquareOfRow.holds Try.pinned (OpenSpec.ofChange fnSquareOfWrong)

/-- 'laws.FnExactMoveLine': WHATEVER THE INPUT: true; the input reads as it did. -/
def fnExactMoveLineSpec : ChangeSpec := { name := "fnExactMoveLine", fn := fun _ => fun
  | [d1, d2, d3] => { results := [.lit (.bool true)], args := [d1, d2, d3] }
  | _ => none }
def fnExactMoveLineRow : OpenClaim := { program := "ytfoadgbffidgaaa", sum := "27572eb0dea3dd2fc804ba6e60965ed59781dcb15b0786f28c3656ca3939cc35", func := "loop.example/nineplanes/laws.FnExactMoveLine", spec := "fnExactMoveLine", unfollowed := true, recurses := true, apart := false }
def FnExactMoveLineSaid : Prop := fnExactMoveLineRow.holds Try.pinned (OpenSpec.ofChange fnExactMoveLineSpec)

/-- ITS FALSE NEIGHBOUR: 'it returns false'. Refute it at one input. -/
def fnExactMoveLineWrong : ChangeSpec := { name := "fnExactMoveLine", fn := fun _ => fun
  | [d1, d2, d3] => { results := [.lit (.bool false)], args := [d1, d2, d3] }
  | _ => none }
def FnExactMoveLineWrongFalsely : Prop := fnExactMoveLineRow.holds Try.pinned (OpenSpec.ofChange fnExactMoveLineWrong)

/-- 'laws.FnExactSpanOf': WHATEVER THE INPUT: true; the input reads as it did. -/
def fnExactSpanOfSpec : ChangeSpec := { name := "fnExactSpanOf", fn := fun _ => fun
  | [d1, d2] => { results := [.lit (.bool true)], args := [d1, d2] }
  | _ => none }
def fnExactSpanOfRow : OpenClaim := { program := "ytfoadgbffidgaaa", sum := "27572eb0dea3dd2fc804ba6e60965ed59781dcb15b0786f28c3656ca3939cc35", func := "loop.example/nineplanes/laws.FnExactSpanOf", spec := "fnExactSpanOf", unfollowed := true, recurses := true, apart := false }
def FnExactSpanOfSaid : Prop := fnExactSpanOfRow.holds Try.pinned (OpenSpec.ofChange fnExactSpanOfSpec)

/-- ITS FALSE NEIGHBOUR: 'it returns false'. Refute it at one input. -/
def fnExactSpanOfWrong : ChangeSpec := { name := "fnExactSpanOf", fn := fun _ => fun
  | [d1, d2] => { results := [.lit (.bool false)], args := [d1, d2] }
  | _ => none }
def FnExactSpanOfWrongFalsely : Prop := fnExactSpanOfRow.holds Try.pinned (OpenSpec.ofChange fnExactSpanOfWrong)

/-- 'laws.FnExactMoveAxis': WHATEVER THE INPUT: true; the input reads as it did. -/
def fnExactMoveAxisSpec : ChangeSpec := { name := "fnExactMoveAxis", fn := fun _ => fun
  | [d1, d2] => { results := [.lit (.bool true)], args := [d1, d2] }
  | _ => none }
def fnExactMoveAxisRow : OpenClaim := { program := "ytfoadgbffidgaaa", sum := "27572eb0dea3dd2fc804ba6e60965ed59781dcb15b0786f28c3656ca3939cc35", func := "loop.example/nineplanes/laws.FnExactMoveAxis", spec := "fnExactMoveAxis", unfollowed := true, recurses := true, apart := false }
def FnExactMoveAxisSaid : Prop := fnExactMoveAxisRow.holds Try.pinned (OpenSpec.ofChange fnExactMoveAxisSpec)

/-- ITS FALSE NEIGHBOUR: 'it returns false'. Refute it at one input. -/
def fnExactMoveAxisWrong : ChangeSpec := { name := "fnExactMoveAxis", fn := fun _ => fun
  | [d1, d2] => { results := [.lit (.bool false)], args := [d1, d2] }
  | _ => none }
def FnExactMoveAxisWrongFalsely : Prop := fnExactMoveAxisRow.holds Try.pinned (OpenSpec.ofChange fnExactMoveAxisWrong)

/- THE SECOND FORM. 'bulk': how many values and letters a reading holds, each counted each time it is reached (what is shared counts as often as it is met; a slice's spare places count too). A statement '..UptoSaid' is the law's where the arguments, and the package variables that the reading takes, are together of bulk at most 1048576: NARROWER than '..Said'. Prove '..Said' where nothing that the law and all that it calls make is longer than what came in: it says more and counts as full. Else prove '..UptoSaid'. A law counts once. -/
mutual
def uptoBulk {H : Type} : DataW H → Nat
  | .lit (.string bytes) => bytes.length + 1
  | .lit _ => 1
  | .nil => 1
  | .ptr d => uptoBulk d + 1
  | .slice elems spare => uptoBulkAll elems + uptoBulkAll spare + 1
  | .agg parts => uptoBulkAll parts + 1
  | .iface _ d => uptoBulk d + 1
  | .map entries => uptoBulkEntries entries + 1
  | .held _ => 1
def uptoBulkAll {H : Type} : List (DataW H) → Nat
  | [] => 0
  | d :: r => uptoBulk d + uptoBulkAll r
def uptoBulkEntries {H : Type} : List (Lit × DataW H) → Nat
  | [] => 0
  | x :: r => uptoBulkEntry x + uptoBulkEntries r
def uptoBulkEntry {H : Type} : Lit × DataW H → Nat
  | (.string bytes, d) => bytes.length + uptoBulk d + 1
  | (_, d) => uptoBulk d + 1
 end
def uptoSmall : (H : Type) → List (DataW H) → Bool := fun _ ds => decide (uptoBulkAll ds ≤ 1048576)
def OpenSpec.upto (s : _root_.Go.ChangeSpec) : _root_.Go.OpenSpec := { _root_.Go.OpenSpec.ofChange s with cond := some uptoSmall }

/-- 'laws.FnExactSpreadIn', WHERE WHAT IT READS IS OF BULK AT MOST 1048576: true; the input reads as it did. -/
def fnExactSpreadInUptoRow : OpenClaim := { program := "ytfoadgbffidgaaa", sum := "27572eb0dea3dd2fc804ba6e60965ed59781dcb15b0786f28c3656ca3939cc35", func := "loop.example/nineplanes/laws.FnExactSpreadIn", spec := "fnExactSpreadIn", apart := false, narrowed := true }
def FnExactSpreadInUptoSaid : Prop := fnExactSpreadInUptoRow.holds Try.pinned (OpenSpec.upto fnExactSpreadInSpec)

/-- 'laws.FnExactMoveStretch', WHERE WHAT IT READS IS OF BULK AT MOST 1048576: true; the input reads as it did. -/
def fnExactMoveStretchUptoRow : OpenClaim := { program := "ytfoadgbffidgaaa", sum := "27572eb0dea3dd2fc804ba6e60965ed59781dcb15b0786f28c3656ca3939cc35", func := "loop.example/nineplanes/laws.FnExactMoveStretch", spec := "fnExactMoveStretch", unfollowed := true, recurses := true, apart := false, narrowed := true }
def FnExactMoveStretchUptoSaid : Prop := fnExactMoveStretchUptoRow.holds Try.pinned (OpenSpec.upto fnExactMoveStretchSpec)

/-- 'laws.FnExactSpreadJoin', WHERE WHAT IT READS IS OF BULK AT MOST 1048576: true; the input reads as it did. -/
def fnExactSpreadJoinUptoRow : OpenClaim := { program := "ytfoadgbffidgaaa", sum := "27572eb0dea3dd2fc804ba6e60965ed59781dcb15b0786f28c3656ca3939cc35", func := "loop.example/nineplanes/laws.FnExactSpreadJoin", spec := "fnExactSpreadJoin", unfollowed := true, recurses := true, apart := false, narrowed := true }
def FnExactSpreadJoinUptoSaid : Prop := fnExactSpreadJoinUptoRow.holds Try.pinned (OpenSpec.upto fnExactSpreadJoinSpec)

/-- 'laws.FnSquareTurned', WHERE WHAT IT READS IS OF BULK AT MOST 1048576: true; the input reads as it did. -/
def fnSquareTurnedUptoRow : OpenClaim := { program := "ytfoadgbffidgaaa", sum := "27572eb0dea3dd2fc804ba6e60965ed59781dcb15b0786f28c3656ca3939cc35", func := "loop.example/nineplanes/laws.FnSquareTurned", spec := "fnSquareTurned", unfollowed := true, recurses := true, apart := false, narrowed := true }
def FnSquareTurnedUptoSaid : Prop := fnSquareTurnedUptoRow.holds Try.pinned (OpenSpec.upto fnSquareTurnedSpec)

/-- 'laws.FnSquareIn', WHERE WHAT IT READS IS OF BULK AT MOST 1048576: true; the input reads as it did. -/
def fnSquareInUptoRow : OpenClaim := { program := "ytfoadgbffidgaaa", sum := "27572eb0dea3dd2fc804ba6e60965ed59781dcb15b0786f28c3656ca3939cc35", func := "loop.example/nineplanes/laws.FnSquareIn", spec := "fnSquareIn", unfollowed := true, recurses := true, apart := false, narrowed := true }
def FnSquareInUptoSaid : Prop := fnSquareInUptoRow.holds Try.pinned (OpenSpec.upto fnSquareInSpec)

/-- 'laws.FnExactSpreadSame', WHERE WHAT IT READS IS OF BULK AT MOST 1048576: true; the input reads as it did. -/
def fnExactSpreadSameUptoRow : OpenClaim := { program := "ytfoadgbffidgaaa", sum := "27572eb0dea3dd2fc804ba6e60965ed59781dcb15b0786f28c3656ca3939cc35", func := "loop.example/nineplanes/laws.FnExactSpreadSame", spec := "fnExactSpreadSame", unfollowed := true, recurses := true, apart := false, narrowed := true }
def FnExactSpreadSameUptoSaid : Prop := fnExactSpreadSameUptoRow.holds Try.pinned (OpenSpec.upto fnExactSpreadSameSpec)

/-- 'laws.FnSquareApart', WHERE WHAT IT READS IS OF BULK AT MOST 1048576: true; the input reads as it did. -/
def fnSquareApartUptoRow : OpenClaim := { program := "ytfoadgbffidgaaa", sum := "27572eb0dea3dd2fc804ba6e60965ed59781dcb15b0786f28c3656ca3939cc35", func := "loop.example/nineplanes/laws.FnSquareApart", spec := "fnSquareApart", unfollowed := true, recurses := true, apart := false, narrowed := true }
def FnSquareApartUptoSaid : Prop := fnSquareApartUptoRow.holds Try.pinned (OpenSpec.upto fnSquareApartSpec)

/-- 'laws.FnExactMoveIn', WHERE WHAT IT READS IS OF BULK AT MOST 1048576: true; the input reads as it did. -/
def fnExactMoveInUptoRow : OpenClaim := { program := "ytfoadgbffidgaaa", sum := "27572eb0dea3dd2fc804ba6e60965ed59781dcb15b0786f28c3656ca3939cc35", func := "loop.example/nineplanes/laws.FnExactMoveIn", spec := "fnExactMoveIn", unfollowed := true, recurses := true, apart := false, narrowed := true }
def FnExactMoveInUptoSaid : Prop := fnExactMoveInUptoRow.holds Try.pinned (OpenSpec.upto fnExactMoveInSpec)

/-- 'laws.FnSquareOf', WHERE WHAT IT READS IS OF BULK AT MOST 1048576: true; the input reads as it did. -/
def fnSquareOfUptoRow : OpenClaim := { program := "ytfoadgbffidgaaa", sum := "27572eb0dea3dd2fc804ba6e60965ed59781dcb15b0786f28c3656ca3939cc35", func := "loop.example/nineplanes/laws.FnSquareOf", spec := "fnSquareOf", unfollowed := true, recurses := true, apart := false, narrowed := true }
def FnSquareOfUptoSaid : Prop := fnSquareOfUptoRow.holds Try.pinned (OpenSpec.upto fnSquareOfSpec)

/-- 'laws.FnExactMoveLine', WHERE WHAT IT READS IS OF BULK AT MOST 1048576: true; the input reads as it did. -/
def fnExactMoveLineUptoRow : OpenClaim := { program := "ytfoadgbffidgaaa", sum := "27572eb0dea3dd2fc804ba6e60965ed59781dcb15b0786f28c3656ca3939cc35", func := "loop.example/nineplanes/laws.FnExactMoveLine", spec := "fnExactMoveLine", unfollowed := true, recurses := true, apart := false, narrowed := true }
def FnExactMoveLineUptoSaid : Prop := fnExactMoveLineUptoRow.holds Try.pinned (OpenSpec.upto fnExactMoveLineSpec)

/-- 'laws.FnExactSpanOf', WHERE WHAT IT READS IS OF BULK AT MOST 1048576: true; the input reads as it did. -/
def fnExactSpanOfUptoRow : OpenClaim := { program := "ytfoadgbffidgaaa", sum := "27572eb0dea3dd2fc804ba6e60965ed59781dcb15b0786f28c3656ca3939cc35", func := "loop.example/nineplanes/laws.FnExactSpanOf", spec := "fnExactSpanOf", unfollowed := true, recurses := true, apart := false, narrowed := true }
def FnExactSpanOfUptoSaid : Prop := fnExactSpanOfUptoRow.holds Try.pinned (OpenSpec.upto fnExactSpanOfSpec)

/-- 'laws.FnExactMoveAxis', WHERE WHAT IT READS IS OF BULK AT MOST 1048576: true; the input reads as it did. -/
def fnExactMoveAxisUptoRow : OpenClaim := { program := "ytfoadgbffidgaaa", sum := "27572eb0dea3dd2fc804ba6e60965ed59781dcb15b0786f28c3656ca3939cc35", func := "loop.example/nineplanes/laws.FnExactMoveAxis", spec := "fnExactMoveAxis", unfollowed := true, recurses := true, apart := false, narrowed := true }
def FnExactMoveAxisUptoSaid : Prop := fnExactMoveAxisUptoRow.holds Try.pinned (OpenSpec.upto fnExactMoveAxisSpec)

end Rows
end Go.Proofs.Ytfoadgbffidgaaa
