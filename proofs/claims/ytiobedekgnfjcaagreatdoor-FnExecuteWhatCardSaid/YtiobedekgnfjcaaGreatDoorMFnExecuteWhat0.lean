/- The law FnExecuteWhat of the given program: for every input the call returns true, and each argument reads afterwards as it read before. No conditions. (Part 1 of 3.) -/
import Derived.Test.YtiobedekgnfjcaaGreatDoorMD0
import Derived.Test.YtiobedekgnfjcaaGreatDoorRows
import Derived.OpenShut
import Derived.ShutString
import Derived.ChangeOld
import Derived.LaidMore
import Derived.Lay
set_option linter.unusedVariables false
set_option maxRecDepth 100000
namespace Go.Proofs.YtiobedekgnfjcaaGreatDoor.fnExecuteWhat
open Go.ChangeShapes Go.WideShapes Go.ChangeAt Go.RowKit
open Go.ChangeMaps (open_string shut_string)
theorem yA:(Rows.fnExecuteWhatRow.inPlace==Tryz.pinned.checked.prog.inPlace 5)=true:=by kernel_rfl
theorem yB:(Rows.fnExecuteWhatRow.unfollowed==Tryz.pinned.checked.prog.unfollowed 5)=true:=by kernel_rfl
theorem yC:(Rows.fnExecuteWhatRow.recurses==Tryz.pinned.checked.prog.recurses 5)=true:=by kernel_rfl
theorem yD:(Rows.fnExecuteWhatRow.named==Tryz.pinned.checked.prog.varsNamed 5)=true:=by kernel_rfl
theorem qE:Tryz.pinned.checked.prog.funcNamed Rows.fnExecuteWhatRow.func=some 5:=by kernel_rfl
theorem yE:joinedFacts Tryz.pinned.checked.prog 5 Tryz.f5 Rows.fnExecuteWhatSpec Rows.fnExecuteWhatRow=true:=by
 unfold joinedFacts;rw[yA,yB,yC,yD]
 kernel_rfl
theorem yF:Tryz.f5.isInstance Tryz.pinned.checked.prog Rows.fnExecuteWhatRow.origin Rows.fnExecuteWhatRow.targs:=of_decide_eq_true am
theorem yG:Tryz.f5.isWrapper Tryz.pinned.checked.prog Rows.fnExecuteWhatRow.wrapper Rows.fnExecuteWhatRow.mainSum:=by unfold Func.isWrapper;first|(rw[ah (by decide+kernel)];kernel_rfl)|(rw[ag (by decide+kernel)];exact⟨rfl,rfl⟩)
theorem yH (lifted:∀(os:Os) (started:os.Started) (H:Type) (enc:TypeId×Value→H),
  ReturnsInHanded {} Tryz.checked os 5 .any (fun w args=>(Rows.fnExecuteWhatSpec.pre enc Tryz.prog Tryz.f5 Rows.fnExecuteWhatRow.domain false w args∧laidMetH Tryz.prog Rows.fnExecuteWhatRow.laid w)∧sizedMet enc Tryz.prog Tryz.f5 (OpenSpec.ofChange Rows.fnExecuteWhatSpec) false w args) (Rows.fnExecuteWhatSpec.post enc Tryz.prog Tryz.f5 false true false false)):Rows.fnExecuteWhatRow.holds Tryz.pinned (OpenSpec.ofChange Rows.fnExecuteWhatSpec):=
 OpenClaim.holds_of_wide 5 Tryz.f5 rfl rfl rfl rfl rfl rfl rfl ⟨rfl,rfl,rfl,rfl,rfl⟩ rfl rfl rfl rfl rfl qE Tryz.func5 yE
  yF yG
  (fun os started H enc _=>lifted os started H enc)
end Go.Proofs.YtiobedekgnfjcaaGreatDoor.fnExecuteWhat
