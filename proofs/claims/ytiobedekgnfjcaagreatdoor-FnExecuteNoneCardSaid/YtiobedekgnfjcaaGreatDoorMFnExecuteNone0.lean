/- The law FnExecuteNone of the given program: for every input the call returns true, and each argument reads afterwards as it read before. No conditions. (Part 1 of 3.) -/
import Derived.Test.YtiobedekgnfjcaaGreatDoorMD0
import Derived.Test.YtiobedekgnfjcaaGreatDoorRows
import Derived.OpenShut
import Derived.ShutString
import Derived.ChangeOld
import Derived.LaidMore
import Derived.Lay
set_option linter.unusedVariables false
set_option maxRecDepth 100000
namespace Go.Proofs.YtiobedekgnfjcaaGreatDoor.fnExecuteNone
open Go.ChangeShapes Go.WideShapes Go.ChangeAt Go.RowKit
open Go.ChangeMaps (open_string shut_string)
theorem yA:(Rows.fnExecuteNoneRow.inPlace==Tryz.pinned.checked.prog.inPlace 3)=true:=by kernel_rfl
theorem yB:(Rows.fnExecuteNoneRow.unfollowed==Tryz.pinned.checked.prog.unfollowed 3)=true:=by kernel_rfl
theorem yC:(Rows.fnExecuteNoneRow.recurses==Tryz.pinned.checked.prog.recurses 3)=true:=by kernel_rfl
theorem yD:(Rows.fnExecuteNoneRow.named==Tryz.pinned.checked.prog.varsNamed 3)=true:=by kernel_rfl
theorem qE:Tryz.pinned.checked.prog.funcNamed Rows.fnExecuteNoneRow.func=some 3:=by kernel_rfl
theorem yE:joinedFacts Tryz.pinned.checked.prog 3 Tryz.f3 Rows.fnExecuteNoneSpec Rows.fnExecuteNoneRow=true:=by
 unfold joinedFacts;rw[yA,yB,yC,yD]
 kernel_rfl
theorem yF:Tryz.f3.isInstance Tryz.pinned.checked.prog Rows.fnExecuteNoneRow.origin Rows.fnExecuteNoneRow.targs:=of_decide_eq_true am
theorem yG:Tryz.f3.isWrapper Tryz.pinned.checked.prog Rows.fnExecuteNoneRow.wrapper Rows.fnExecuteNoneRow.mainSum:=by unfold Func.isWrapper;first|(rw[ah (by decide+kernel)];kernel_rfl)|(rw[ag (by decide+kernel)];exact⟨rfl,rfl⟩)
theorem yH (lifted:∀(os:Os) (started:os.Started) (H:Type) (enc:TypeId×Value→H),
  ReturnsInHanded {} Tryz.checked os 3 .any (fun w args=>(Rows.fnExecuteNoneSpec.pre enc Tryz.prog Tryz.f3 Rows.fnExecuteNoneRow.domain false w args∧laidMetH Tryz.prog Rows.fnExecuteNoneRow.laid w)∧sizedMet enc Tryz.prog Tryz.f3 (OpenSpec.ofChange Rows.fnExecuteNoneSpec) false w args) (Rows.fnExecuteNoneSpec.post enc Tryz.prog Tryz.f3 false true false false)):Rows.fnExecuteNoneRow.holds Tryz.pinned (OpenSpec.ofChange Rows.fnExecuteNoneSpec):=
 OpenClaim.holds_of_wide 3 Tryz.f3 rfl rfl rfl rfl rfl rfl rfl ⟨rfl,rfl,rfl,rfl,rfl⟩ rfl rfl rfl rfl rfl qE Tryz.func3 yE
  yF yG
  (fun os started H enc _=>lifted os started H enc)
end Go.Proofs.YtiobedekgnfjcaaGreatDoor.fnExecuteNone
