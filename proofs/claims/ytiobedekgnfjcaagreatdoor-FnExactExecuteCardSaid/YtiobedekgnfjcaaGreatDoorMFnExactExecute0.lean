/- The law FnExactExecute of the given program: for every input the call returns true, and each argument reads afterwards as it read before. No conditions. (Part 1 of 3.) -/
import Derived.Test.YtiobedekgnfjcaaGreatDoorME0
import Derived.Test.YtiobedekgnfjcaaGreatDoorRows
import Derived.WalkKit
import Derived.OpenShut
import Derived.ShutString
import Derived.ChangeOld
import Derived.Below
import Derived.SizedLaws
import Derived.LaidMore
import Derived.Lay
set_option linter.unusedVariables false
set_option maxRecDepth 100000
namespace Go.Proofs.YtiobedekgnfjcaaGreatDoor.fnExactExecute
open Go.ChangeShapes Go.WideShapes Go.ChangeAt Go.RowKit
open Go.ChangeMaps (open_string shut_string)
theorem yA:(Rows.fnExactExecuteRow.inPlace==Tryz.pinned.checked.prog.inPlace 8)=true:=by kernel_rfl
theorem yB:(Rows.fnExactExecuteRow.unfollowed==Tryz.pinned.checked.prog.unfollowed 8)=true:=by kernel_rfl
theorem yC:(Rows.fnExactExecuteRow.recurses==Tryz.pinned.checked.prog.recurses 8)=true:=by kernel_rfl
theorem yD:(Rows.fnExactExecuteRow.named==Tryz.pinned.checked.prog.varsNamed 8)=true:=by kernel_rfl
theorem qE:Tryz.pinned.checked.prog.funcNamed Rows.fnExactExecuteRow.func=some 8:=by kernel_rfl
theorem yE:joinedFacts Tryz.pinned.checked.prog 8 Tryz.f8 Rows.fnExactExecuteSpec Rows.fnExactExecuteRow=true:=by
 unfold joinedFacts;rw[yA,yB,yC,yD]
 kernel_rfl
theorem yF:Tryz.f8.isInstance Tryz.pinned.checked.prog Rows.fnExactExecuteRow.origin Rows.fnExactExecuteRow.targs:=of_decide_eq_true am
theorem yG:Tryz.f8.isWrapper Tryz.pinned.checked.prog Rows.fnExactExecuteRow.wrapper Rows.fnExactExecuteRow.mainSum:=by unfold Func.isWrapper;first|(rw[ah (by decide+kernel)];kernel_rfl)|(rw[ag (by decide+kernel)];exact⟨rfl,rfl⟩)
theorem yH (lifted:∀(os:Os) (started:os.Started) (H:Type) (enc:TypeId×Value→H),
  ReturnsInHanded {} Tryz.checked os 8 .any (fun w args=>(Rows.fnExactExecuteSpec.pre enc Tryz.prog Tryz.f8 Rows.fnExactExecuteRow.domain false w args∧laidMetH Tryz.prog Rows.fnExactExecuteRow.laid w)∧sizedMet enc Tryz.prog Tryz.f8 (OpenSpec.ofChange Rows.fnExactExecuteSpec) false w args) (Rows.fnExactExecuteSpec.post enc Tryz.prog Tryz.f8 false true false false)):Rows.fnExactExecuteRow.holds Tryz.pinned (OpenSpec.ofChange Rows.fnExactExecuteSpec):=
 OpenClaim.holds_of_wide 8 Tryz.f8 rfl rfl rfl rfl rfl rfl rfl ⟨rfl,rfl,rfl,rfl,rfl⟩ rfl rfl rfl rfl rfl qE Tryz.func8 yE
  yF yG
  (fun os started H enc _=>lifted os started H enc)
end Go.Proofs.YtiobedekgnfjcaaGreatDoor.fnExactExecute
