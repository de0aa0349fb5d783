/-
  No cell of these rows narrows 'for every input' (looked for: loops, veiled, ifaces, maps, wideKeys, modest, calm, conditions, laid).
  DERIVED. THE GIVEN ROWS OF THIS SEAT. 8 by the template 'for every input the law returns true; each argument reads behind the call as it read before'; 0 by the template 'total and deterministic' (their statements: YtbfafjejmljcpaaTotals.lean).
  GIVEN WITH THE SEED: the statements are not yours to turn. If you find one false, say at which input.
  Laid BY PROGRAM, IN A SANDBOX (cutbox-rows.mjs): the forced cells as the released guide's own fill.sh prints them over the translation 316b77090051214b… (all of the seat's roots in one cut). By AI agents, Wed Nov 11 2026. No macro, syntax, notation, axiom, sorry.
-/
import Derived.Test.YtbfafjejmljcpaaChecked
import GoSem.Claim
import GoSem.ClaimJoined
import GoSem.ClaimMapViews
import Derived.JoinedTies
import Derived.KernelRfl
namespace Go.Proofs.Ytbfafjejmljcpaa
/- THE CELL 'sum', in the pinned program and in every row, IS THE sha256 OF THE DUMP (.gsa) THAT YtbfafjejmljcpaaProg.lean LOADS. Nothing in Lean hashes anything: it is a label: what it is worth is what the hold of that sum in a sandbox is worth. -/
noncomputable def Try.pinned : Pinned := { name := "ytbfafjejmljcpaa", sum := "316b77090051214b9e59f024d6b9db24a9a50bf1ddf5a0519541c3d8ad5da8ae", checked := Try.checked }
namespace Rows
def none {H : Type} : Left H := { results := [], args := [] }

/-- 'laws.FnMoveOrder': WHATEVER THE INPUT: true; the input reads as it did. -/
def fnMoveOrderSpec : ChangeSpec := { name := "fnMoveOrder", fn := fun _ => fun
  | [d] => { results := [.lit (.bool true)], args := [d] }
  | _ => none }
def fnMoveOrderRow : OpenClaim := { program := "ytbfafjejmljcpaa", sum := "316b77090051214b9e59f024d6b9db24a9a50bf1ddf5a0519541c3d8ad5da8ae", func := "loop.example/nineplanes/laws.FnMoveOrder", spec := "fnMoveOrder", unfollowed := true, recurses := true, apart := false }
def FnMoveOrderSaid : Prop := fnMoveOrderRow.holds Try.pinned (OpenSpec.ofChange fnMoveOrderSpec)

/-- ITS FALSE NEIGHBOUR: 'it returns false'. Refute it at one input. -/
def fnMoveOrderWrong : ChangeSpec := { name := "fnMoveOrder", fn := fun _ => fun
  | [d] => { results := [.lit (.bool false)], args := [d] }
  | _ => none }
def FnMoveOrderWrongFalsely : Prop := fnMoveOrderRow.holds Try.pinned (OpenSpec.ofChange fnMoveOrderWrong)

/-- 'laws.FnMoveBack': WHATEVER THE INPUT: true; the input reads as it did. -/
def fnMoveBackSpec : ChangeSpec := { name := "fnMoveBack", fn := fun _ => fun
  | [d] => { results := [.lit (.bool true)], args := [d] }
  | _ => none }
def fnMoveBackRow : OpenClaim := { program := "ytbfafjejmljcpaa", sum := "316b77090051214b9e59f024d6b9db24a9a50bf1ddf5a0519541c3d8ad5da8ae", func := "loop.example/nineplanes/laws.FnMoveBack", spec := "fnMoveBack", unfollowed := true, recurses := true, apart := false }
def FnMoveBackSaid : Prop := fnMoveBackRow.holds Try.pinned (OpenSpec.ofChange fnMoveBackSpec)

/-- ITS FALSE NEIGHBOUR: 'it returns false'. Refute it at one input. -/
def fnMoveBackWrong : ChangeSpec := { name := "fnMoveBack", fn := fun _ => fun
  | [d] => { results := [.lit (.bool false)], args := [d] }
  | _ => none }
def FnMoveBackWrongFalsely : Prop := fnMoveBackRow.holds Try.pinned (OpenSpec.ofChange fnMoveBackWrong)

/-- 'laws.FnSame': WHATEVER THE INPUT: true; the input reads as it did. -/
def fnSameSpec : ChangeSpec := { name := "fnSame", fn := fun _ => fun
  | [d] => { results := [.lit (.bool true)], args := [d] }
  | _ => none }
def fnSameRow : OpenClaim := { program := "ytbfafjejmljcpaa", sum := "316b77090051214b9e59f024d6b9db24a9a50bf1ddf5a0519541c3d8ad5da8ae", func := "loop.example/nineplanes/laws.FnSame", spec := "fnSame", unfollowed := true, recurses := true, apart := false }
def FnSameSaid : Prop := fnSameRow.holds Try.pinned (OpenSpec.ofChange fnSameSpec)

/-- ITS FALSE NEIGHBOUR: 'it returns false'. Refute it at one input. -/
def fnSameWrong : ChangeSpec := { name := "fnSame", fn := fun _ => fun
  | [d] => { results := [.lit (.bool false)], args := [d] }
  | _ => none }
def FnSameWrongFalsely : Prop := fnSameRow.holds Try.pinned (OpenSpec.ofChange fnSameWrong)

/-- 'laws.FnLeaf': WHATEVER THE INPUT: true; the input reads as it did. -/
def fnLeafSpec : ChangeSpec := { name := "fnLeaf", fn := fun _ => fun
  | [d] => { results := [.lit (.bool true)], args := [d] }
  | _ => none }
def fnLeafRow : OpenClaim := { program := "ytbfafjejmljcpaa", sum := "316b77090051214b9e59f024d6b9db24a9a50bf1ddf5a0519541c3d8ad5da8ae", func := "loop.example/nineplanes/laws.FnLeaf", spec := "fnLeaf", recurses := true, apart := false }
def FnLeafSaid : Prop := fnLeafRow.holds Try.pinned (OpenSpec.ofChange fnLeafSpec)

/-- ITS FALSE NEIGHBOUR: 'it returns false'. Refute it at one input. -/
def fnLeafWrong : ChangeSpec := { name := "fnLeaf", fn := fun _ => fun
  | [d] => { results := [.lit (.bool false)], args := [d] }
  | _ => none }
def FnLeafWrongFalsely : Prop := fnLeafRow.holds Try.pinned (OpenSpec.ofChange fnLeafWrong)

/-- 'laws.FnExactSpreadOf': WHATEVER THE INPUT: true; the input reads as it did. -/
def fnExactSpreadOfSpec : ChangeSpec := { name := "fnExactSpreadOf", fn := fun _ => fun
  | [d] => { results := [.lit (.bool true)], args := [d] }
  | _ => none }
def fnExactSpreadOfRow : OpenClaim := { program := "ytbfafjejmljcpaa", sum := "316b77090051214b9e59f024d6b9db24a9a50bf1ddf5a0519541c3d8ad5da8ae", func := "loop.example/nineplanes/laws.FnExactSpreadOf", spec := "fnExactSpreadOf", unfollowed := true, recurses := true, apart := false }
def FnExactSpreadOfSaid : Prop := fnExactSpreadOfRow.holds Try.pinned (OpenSpec.ofChange fnExactSpreadOfSpec)

/-- ITS FALSE NEIGHBOUR: 'it returns false'. Refute it at one input. -/
def fnExactSpreadOfWrong : ChangeSpec := { name := "fnExactSpreadOf", fn := fun _ => fun
  | [d] => { results := [.lit (.bool false)], args := [d] }
  | _ => none }
def FnExactSpreadOfWrongFalsely : Prop := fnExactSpreadOfRow.holds Try.pinned (OpenSpec.ofChange fnExactSpreadOfWrong)

/-- 'laws.FnSpreadOf': WHATEVER THE INPUT: true; the input reads as it did. -/
def fnSpreadOfSpec : ChangeSpec := { name := "fnSpreadOf", fn := fun _ => fun
  | [d] => { results := [.lit (.bool true)], args := [d] }
  | _ => none }
def fnSpreadOfRow : OpenClaim := { program := "ytbfafjejmljcpaa", sum := "316b77090051214b9e59f024d6b9db24a9a50bf1ddf5a0519541c3d8ad5da8ae", func := "loop.example/nineplanes/laws.FnSpreadOf", spec := "fnSpreadOf", unfollowed := true, recurses := true, apart := false }
def FnSpreadOfSaid : Prop := fnSpreadOfRow.holds Try.pinned (OpenSpec.ofChange fnSpreadOfSpec)

/-- ITS FALSE NEIGHBOUR: 'it returns false'. Refute it at one input. -/
def fnSpreadOfWrong : ChangeSpec := { name := "fnSpreadOf", fn := fun _ => fun
  | [d] => { results := [.lit (.bool false)], args := [d] }
  | _ => none }
def FnSpreadOfWrongFalsely : Prop := fnSpreadOfRow.holds Try.pinned (OpenSpec.ofChange fnSpreadOfWrong)

/-- 'laws.FnExactSpreadDerive': WHATEVER THE INPUT: true; the input reads as it did. -/
def fnExactSpreadDeriveSpec : ChangeSpec := { name := "fnExactSpreadDerive", fn := fun _ => fun
  | [d] => { results := [.lit (.bool true)], args := [d] }
  | _ => none }
def fnExactSpreadDeriveRow : OpenClaim := { program := "ytbfafjejmljcpaa", sum := "316b77090051214b9e59f024d6b9db24a9a50bf1ddf5a0519541c3d8ad5da8ae", func := "loop.example/nineplanes/laws.FnExactSpreadDerive", spec := "fnExactSpreadDerive", unfollowed := true, recurses := true, apart := false }
def FnExactSpreadDeriveSaid : Prop := fnExactSpreadDeriveRow.holds Try.pinned (OpenSpec.ofChange fnExactSpreadDeriveSpec)

/-- ITS FALSE NEIGHBOUR: 'it returns false'. Refute it at one input. -/
def fnExactSpreadDeriveWrong : ChangeSpec := { name := "fnExactSpreadDerive", fn := fun _ => fun
  | [d] => { results := [.lit (.bool false)], args := [d] }
  | _ => none }
def FnExactSpreadDeriveWrongFalsely : Prop := fnExactSpreadDeriveRow.holds Try.pinned (OpenSpec.ofChange fnExactSpreadDeriveWrong)

/-- 'laws.FnDerive': WHATEVER THE INPUT: true; the input reads as it did. -/
def fnDeriveSpec : ChangeSpec := { name := "fnDerive", fn := fun _ => fun
  | [d] => { results := [.lit (.bool true)], args := [d] }
  | _ => none }
def fnDeriveRow : OpenClaim := { program := "ytbfafjejmljcpaa", sum := "316b77090051214b9e59f024d6b9db24a9a50bf1ddf5a0519541c3d8ad5da8ae", func := "loop.example/nineplanes/laws.FnDerive", spec := "fnDerive", unfollowed := true, recurses := true, apart := false }
def FnDeriveSaid : Prop := fnDeriveRow.holds Try.pinned (OpenSpec.ofChange fnDeriveSpec)

/-- ITS FALSE NEIGHBOUR: 'it returns false'. Refute it at one input. -/
def fnDeriveWrong : ChangeSpec := { name := "fnDerive", fn := fun _ => fun
  | [d] => { results := [.lit (.bool false)], args := [d] }
  | _ => none }
def FnDeriveWrongFalsely : Prop := fnDeriveRow.holds Try.pinned (OpenSpec.ofChange fnDeriveWrong)

/- THE SECOND FORM. 'bulk': how many values and letters a reading holds, each counted each time it is reached (what is shared counts as often as it is met; a slice's spare places count too). A statement '..UptoSaid' is the law's where the arguments, and the package variables that the reading takes, are together of bulk at most 1048576: NARROWER than '..Said'. Prove '..Said' where nothing that the law and all that it calls make is longer than what came in: it says more and counts as full. Else prove '..UptoSaid'. A law counts once. -/
mutual
def uptoBulk {H : Type} : DataW H → Nat
  | .lit (.string bytes) => bytes.length + 1
  | .lit _ => 1
  | .nil => 1
  | .ptr d => uptoBulk d + 1
  | .slice elems spare => uptoBulkAll elems + uptoBulkAll spare + 1
  | .agg parts => uptoBulkAll parts + 1
  | .iface _ d => uptoBulk d + 1
  | .map entries => uptoBulkEntries entries + 1
  | .held _ => 1
def uptoBulkAll {H : Type} : List (DataW H) → Nat
  | [] => 0
  | d :: r => uptoBulk d + uptoBulkAll r
def uptoBulkEntries {H : Type} : List (Lit × DataW H) → Nat
  | [] => 0
  | x :: r => uptoBulkEntry x + uptoBulkEntries r
def uptoBulkEntry {H : Type} : Lit × DataW H → Nat
  | (.string bytes, d) => bytes.length + uptoBulk d + 1
  | (_, d) => uptoBulk d + 1
 end
def uptoSmall : (H : Type) → List (DataW H) → Bool := fun _ ds => decide (uptoBulkAll ds ≤ 1048576)
def OpenSpec.upto (s : _root_.Go.ChangeSpec) : _root_.Go.OpenSpec := { _root_.Go.OpenSpec.ofChange s with cond := some uptoSmall }

/-- 'laws.FnMoveOrder', WHERE WHAT IT READS IS OF BULK AT MOST 1048576: true; the input reads as it did. -/
def fnMoveOrderUptoRow : OpenClaim := { program := "ytbfafjejmljcpaa", sum := "316b77090051214b9e59f024d6b9db24a9a50bf1ddf5a0519541c3d8ad5da8ae", func := "loop.example/nineplanes/laws.FnMoveOrder", spec := "fnMoveOrder", unfollowed := true, recurses := true, apart := false, narrowed := true }
def FnMoveOrderUptoSaid : Prop := fnMoveOrderUptoRow.holds Try.pinned (OpenSpec.upto fnMoveOrderSpec)

/-- 'laws.FnMoveBack', WHERE WHAT IT READS IS OF BULK AT MOST 1048576: true; the input reads as it did. -/
def fnMoveBackUptoRow : OpenClaim := { program := "ytbfafjejmljcpaa", sum := "316b77090051214b9e59f024d6b9db24a9a50bf1ddf5a0519541c3d8ad5da8ae", func := "loop.example/nineplanes/laws.FnMoveBack", spec := "fnMoveBack", unfollowed := true, recurses := true, apart := false, narrowed := true }
def FnMoveBackUptoSaid : Prop := fnMoveBackUptoRow.holds Try.pinned (OpenSpec.upto fnMoveBackSpec)

/-- 'laws.FnSame', WHERE WHAT IT READS IS OF BULK AT MOST 1048576: true; the input reads as it did. -/
def fnSameUptoRow : OpenClaim := { program := "ytbfafjejmljcpaa", sum := "316b77090051214b9e59f024d6b9db24a9a50bf1ddf5a0519541c3d8ad5da8ae", func := "loop.example/nineplanes/laws.FnSame", spec := "fnSame", unfollowed := true, recurses := true, apart := false, narrowed := true }
def FnSameUptoSaid : Prop := fnSameUptoRow.holds Try.pinned (OpenSpec.upto fnSameSpec)

/-- 'laws.FnLeaf', WHERE WHAT IT READS IS OF BULK AT MOST 1048576: true; the input reads as it did. -/
def fnLeafUptoRow : OpenClaim := { program := "ytbfafjejmljcpaa", sum := "316b77090051214b9e59f024d6b9db24a9a50bf1ddf5a0519541c3d8ad5da8ae", func := "loop.example/nineplanes/laws.FnLeaf", spec := "fnLeaf", recurses := true, apart := false, narrowed := true }
def FnLeafUptoSaid : Prop := fnLeafUptoRow.holds Try.pinned (OpenSpec.upto fnLeafSpec)

/-- 'laws.FnExactSpreadOf', WHERE WHAT IT READS IS OF BULK AT MOST 1048576: true; the input reads as it did. -/
def fnExactSpreadOfUptoRow : OpenClaim := { program := "ytbfafjejmljcpaa", sum := "316b77090051214b9e59f024d6b9db24a9a50bf1ddf5a0519541c3d8ad5da8ae", func := "loop.example/nineplanes/laws.FnExactSpreadOf", spec := "fnExactSpreadOf", unfollowed := true, recurses := true, apart := false, narrowed := true }
def FnExactSpreadOfUptoSaid : Prop := fnExactSpreadOfUptoRow.holds Try.pinned (OpenSpec.upto fnExactSpreadOfSpec)

/-- 'laws.FnSpreadOf', WHERE WHAT IT READS IS OF BULK AT MOST 1048576: true; the input reads as it did. -/
def fnSpreadOfUptoRow : OpenClaim := { program := "ytbfafjejmljcpaa", sum := "316b77090051214b9e59f024d6b9db24a9a50bf1ddf5a0519541c3d8ad5da8ae", func := "loop.example/nineplanes/laws.FnSpreadOf", spec := "fnSpreadOf", unfollowed := true, recurses := true, apart := false, narrowed := true }
def FnSpreadOfUptoSaid : Prop := fnSpreadOfUptoRow.holds Try.pinned (OpenSpec.upto fnSpreadOfSpec)

/-- 'laws.FnExactSpreadDerive', WHERE WHAT IT READS IS OF BULK AT MOST 1048576: true; the input reads as it did. -/
def fnExactSpreadDeriveUptoRow : OpenClaim := { program := "ytbfafjejmljcpaa", sum := "316b77090051214b9e59f024d6b9db24a9a50bf1ddf5a0519541c3d8ad5da8ae", func := "loop.example/nineplanes/laws.FnExactSpreadDerive", spec := "fnExactSpreadDerive", unfollowed := true, recurses := true, apart := false, narrowed := true }
def FnExactSpreadDeriveUptoSaid : Prop := fnExactSpreadDeriveUptoRow.holds Try.pinned (OpenSpec.upto fnExactSpreadDeriveSpec)

/-- 'laws.FnDerive', WHERE WHAT IT READS IS OF BULK AT MOST 1048576: true; the input reads as it did. -/
def fnDeriveUptoRow : OpenClaim := { program := "ytbfafjejmljcpaa", sum := "316b77090051214b9e59f024d6b9db24a9a50bf1ddf5a0519541c3d8ad5da8ae", func := "loop.example/nineplanes/laws.FnDerive", spec := "fnDerive", unfollowed := true, recurses := true, apart := false, narrowed := true }
def FnDeriveUptoSaid : Prop := fnDeriveUptoRow.holds Try.pinned (OpenSpec.upto fnDeriveSpec)

end Rows
end Go.Proofs.Ytbfafjejmljcpaa
