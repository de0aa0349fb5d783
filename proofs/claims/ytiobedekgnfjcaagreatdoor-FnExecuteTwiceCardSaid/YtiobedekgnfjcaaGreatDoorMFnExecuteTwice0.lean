/- The law FnExecuteTwice of the given program: for every input the call returns true, and each argument reads afterwards as it read before. No conditions. (Part 1 of 3.) -/
import Derived.Test.YtiobedekgnfjcaaGreatDoorMD0
import Derived.Test.YtiobedekgnfjcaaGreatDoorRows
import Derived.OpenShut
import Derived.ShutString
import Derived.ChangeOld
import Derived.LaidMore
import Derived.Lay
set_option linter.unusedVariables false
set_option maxRecDepth 100000
namespace Go.Proofs.YtiobedekgnfjcaaGreatDoor.fnExecuteTwice
open Go.ChangeShapes Go.WideShapes Go.ChangeAt Go.RowKit
open Go.ChangeMaps (open_string shut_string)
theorem yA:(Rows.fnExecuteTwiceRow.inPlace==Tryz.pinned.checked.prog.inPlace 4)=true:=by kernel_rfl
theorem yB:(Rows.fnExecuteTwiceRow.unfollowed==Tryz.pinned.checked.prog.unfollowed 4)=true:=by kernel_rfl
theorem yC:(Rows.fnExecuteTwiceRow.recurses==Tryz.pinned.checked.prog.recurses 4)=true:=by kernel_rfl
theorem yD:(Rows.fnExecuteTwiceRow.named==Tryz.pinned.checked.prog.varsNamed 4)=true:=by kernel_rfl
theorem qE:Tryz.pinned.checked.prog.funcNamed Rows.fnExecuteTwiceRow.func=some 4:=by kernel_rfl
theorem yE:joinedFacts Tryz.pinned.checked.prog 4 Tryz.f4 Rows.fnExecuteTwiceSpec Rows.fnExecuteTwiceRow=true:=by
 unfold joinedFacts;rw[yA,yB,yC,yD]
 kernel_rfl
theorem yF:Tryz.f4.isInstance Tryz.pinned.checked.prog Rows.fnExecuteTwiceRow.origin Rows.fnExecuteTwiceRow.targs:=of_decide_eq_true am
theorem yG:Tryz.f4.isWrapper Tryz.pinned.checked.prog Rows.fnExecuteTwiceRow.wrapper Rows.fnExecuteTwiceRow.mainSum:=by unfold Func.isWrapper;first|(rw[ah (by decide+kernel)];kernel_rfl)|(rw[ag (by decide+kernel)];exact⟨rfl,rfl⟩)
theorem yH (lifted:∀(os:Os) (started:os.Started) (H:Type) (enc:TypeId×Value→H),
  ReturnsInHanded {} Tryz.checked os 4 .any (fun w args=>(Rows.fnExecuteTwiceSpec.pre enc Tryz.prog Tryz.f4 Rows.fnExecuteTwiceRow.domain false w args∧laidMetH Tryz.prog Rows.fnExecuteTwiceRow.laid w)∧sizedMet enc Tryz.prog Tryz.f4 (OpenSpec.ofChange Rows.fnExecuteTwiceSpec) false w args) (Rows.fnExecuteTwiceSpec.post enc Tryz.prog Tryz.f4 false true false false)):Rows.fnExecuteTwiceRow.holds Tryz.pinned (OpenSpec.ofChange Rows.fnExecuteTwiceSpec):=
 OpenClaim.holds_of_wide 4 Tryz.f4 rfl rfl rfl rfl rfl rfl rfl ⟨rfl,rfl,rfl,rfl,rfl⟩ rfl rfl rfl rfl rfl qE Tryz.func4 yE
  yF yG
  (fun os started H enc _=>lifted os started H enc)
end Go.Proofs.YtiobedekgnfjcaaGreatDoor.fnExecuteTwice
