/- Written by a program (mprint.py over the kit's print): a Go function of the translation as a Lean function, and its contract: what a call of it comes to. -/
import Derived.Test.YtaemaloelmgblaaProg
import Derived.Below
import Derived.Deep.Draws
import Derived.Deep.AppendLies
import Derived.Maps.AppendAt
import Derived.OwnWalk
import Derived.Laws.BytesArg
import Derived.Laws.MakeOwn
import Derived.Laws.OwnMore
import Derived.Deep.OwnRows
import Derived.Tactics
import Derived.Lib.ConvBytes
import Derived.Laws.Slices
import Derived.WalkKit
import Derived.KernelRfl
import Derived.RowKit3
import Derived.Deep.LoopGhost
import Derived.Deep.QuietTactic
import Derived.BigQuiet
import Derived.WideLaws
import Derived.Deep.DeepCutAuto
import Derived.Deep.CutBlock
import Derived.Deep.RegionHeld3
import Derived.Laws.Rows
import Derived.Lib.AppendStr
import Derived.ArgAppend
import Derived.Laws.IdiomCopy
import Derived.OrdersHeld
import Derived.Laws.BitsLemmas
import Derived.RowKit
import Derived.Test.YtaemaloelmgblaaWWords
import Derived.Test.YtaemaloelmgblaaWLast
import Derived.Test.YtaemaloelmgblaaWTab
import Derived.Test.YtaemaloelmgblaaWFour
import Derived.Test.YtaemaloelmgblaaWQPut
import Derived.Test.YtaemaloelmgblaaWApart
import Derived.Test.YtaemaloelmgblaaWArr
import Derived.Test.YtaemaloelmgblaaWZeros
import Derived.Test.YtaemaloelmgblaaWFoot
import Derived.Test.YtaemaloelmgblaaWKept
import Derived.Test.YtaemaloelmgblaaWShare
import Derived.Test.YtaemaloelmgblaaWN
import Derived.Test.YtaemaloelmgblaaWFootNe
import Derived.Test.YtaemaloelmgblaaWAt
import Derived.Test.YtaemaloelmgblaaWEqStruct
import Derived.Test.YtaemaloelmgblaaWRepsOne
import Derived.Test.YtaemaloelmgblaaWInv
import Derived.Test.YtaemaloelmgblaaWInvWords
import Derived.Test.YtaemaloelmgblaaWGuard
import Derived.Test.YtaemaloelmgblaaWNEv
import Derived.Test.YtaemaloelmgblaaWMore
namespace Go.Proofs.Ytaemaloelmgblaa.P
open Go.RowKit Go.Proofs.YtaemaloelmgblaaW.PrintWords Go.Proofs.YtaemaloelmgblaaW.PrintLast Go.Proofs.YtaemaloelmgblaaW.PrintMore
attribute [local go_sem] max2_int min2_int max_two min_two max_three min_three max_four min_four   -- for this text's walks alone
set_option linter.unusedVariables false
set_option linter.unusedSimpArgs false



def errW : Option Int → Value
  | none => .nilIface
  | some c => .iface 0 (.int .i64 c)
theorem errW_none : errW none = .nilIface := rfl
theorem errW_some (c : Int) : errW (some c) = .iface 0 (.int .i64 c) := rfl

theorem info3 : (Try.prog.info? 3).map (fun i => (i.zero, i.size, i.bytes)) = some (some (.int .i64 0), 1, 8) := by kernel_rfl
theorem info4 : (Try.prog.info? 4).map (fun i => (i.zero, i.size, i.bytes)) = some (some (.bool false), 1, 1) := by kernel_rfl
-- the values' own types

end Go.Proofs.Ytaemaloelmgblaa.P
