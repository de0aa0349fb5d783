/- The law FnExecuteWhat of the given program: for every input the call returns true, and each argument reads afterwards as it read before. No conditions. (Part 2 of 3.) -/
import Derived.Test.YtiobedekgnfjcaaGreatDoorMFnExecuteWhat0
import Derived.SevenTiedAt
import Derived.Test.YtiobedekgnfjcaaGreatDoorTie
import Derived.Test.YtiobedekgnfjcaaGreatDoorCards
set_option linter.unusedVariables false
set_option maxRecDepth 100000
namespace Go.Proofs.YtiobedekgnfjcaaGreatDoor.fnExecuteWhat
open Go.ChangeShapes Go.WideShapes Go.ChangeAt Go.RowKit
open Go.ChangeMaps (open_string shut_string)
theorem yI:true=Tryz.pinned.checked.prog.looks []:=by kernel_rfl
theorem yJ:(Tryz.f5.params.toList.all fun u=>!Tryz.prog.wantsStandIn u)=true:=by kernel_rfl
theorem yK:Tryz.pinned.checked.prog.mainIs=some (Rows.fnExecuteWhatCard.stood.harness.1,Rows.fnExecuteWhatCard.stood.harness.2.toList):=by kernel_rfl
theorem yL:false=Rows.fnExecuteWhatRow.goesBy Tryz.pinned.checked.prog:=by kernel_rfl
theorem yM(proved:Rows.FnExecuteWhatSaid):Rows.FnExecuteWhatCardSaid:=
 Claim7.holds_tied_plain_at .later [] Rows.fnExecuteWhatCard.laidKinds true Rows.fnExecuteWhatCard.stood.harness true proved (fun _ h=>by cases h) am (fun _ h=>by cases h) fnExecuteWhat_row_tie rfl ⟨rfl,rfl⟩ yK am
  (fun f fn hf hfn=>by
   obtain rfl:f=5:=au (qE.symm.trans hf)|>.symm;obtain rfl:fn=Tryz.f5:=(au (Tryz.func5.symm.trans hfn)).symm;refine⟨yI,fun j t ht=>?_⟩;rw[Tryz.params5] at ht;have hm:t∈Tryz.f5.params.toList:=by rw[Tryz.params5];simpa using Array.mem_of_getElem? ht
   have hall:(Tryz.f5.params.toList.all fun u=>!Tryz.prog.wantsStandIn u)=true:=yJ;exact(show Tryz.prog.wantsStandIn t=false by simpa using List.all_eq_true.1 hall t hm))
  yL
end Go.Proofs.YtiobedekgnfjcaaGreatDoor.fnExecuteWhat
