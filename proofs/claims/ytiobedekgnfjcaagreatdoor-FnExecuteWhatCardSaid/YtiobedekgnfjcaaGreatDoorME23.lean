/- What both Executes come to: contracts and plain laws, for the laws on Execute. No conditions. (Part 24 of 28.) -/
import Derived.Test.YtiobedekgnfjcaaGreatDoorME19
import Derived.Test.YtiobedekgnfjcaaGreatDoorME20
import Derived.Test.YtiobedekgnfjcaaGreatDoorME22
set_option linter.unusedVariables false
set_option linter.unusedSimpArgs false
namespace Go.Proofs.YtiobedekgnfjcaaGreatDoor
namespace P
end P
open Go.Proofs.YtiobedekgnfjcaaGreatDoor.P Go.Proofs.YtiobedekgnfjcaaGreatDoorW.aq Go.Proofs.YtiobedekgnfjcaaGreatDoorW.ay Go.RowKit
namespace X
theorem aom{t x:List Int}(hs:aW t=true)(hx:x.length≤1048576):Ev (fun k=>wC.f k t x) (fA t x):=Ev.done (ah ⟨hs,hx⟩)
theorem aon{t x:List Int}(hs:aW t=true)(hx:x.length≤1048576):Ev (fun k=>wt.f k t x) (fA t x):=Ev.done (ah ⟨hs,hx⟩)
theorem aoo{t x:List Int}(T:Twin t x):Ev (fun k=>Aa.f k t x) (oV t x):=Ev.done (ah (wk.2 T))
theorem aop{t x:List Int}(T:Twin t x):Ev (fun k=>Bj.f k t x) (oV t x):=Ev.done (ah (wk.2 T))
def QN(t x:List Int):List Int×Bool:=if fA t x=true then(oV t x,true) else([],false)
theorem aoq{t x:List Int}(hs:aW t=true)(hx:x.length≤1048576):Ev (fun k=>r6.f k t x) (QN t x):=by
 unfold r6.f QN;refine Ev.bind (aon hs hx) ?_;by_cases h:fA t x=true
 ·rw[ah h];exact Ev.pos h (Ev.bind (aop (wk.1 h)) (Ev.done rfl))
 ·rw[ag h];exact Ev.neg h (Ev.done rfl)
theorem aor{t:List Int}(hs:aW t=true){p q r:Int}(hp:bu p)(hq:bu q)(hr:bu r):Ev (fun k=>zU.f k t [p,q,r]) (rm t p q r):=Ev.done (ah ⟨hs,rfl,by simp only[List.all_cons,List.all_nil,eB.2 hp,eB.2 hq,eB.2 hr];rfl⟩)
theorem aos{t x:List Int}(hx:x.length≤1048576):Ev (fun k=>o3.f k t x) (fA t x&&K9 t x):=by
 unfold o3.f;refine Ev.fix (show fE.f t=some (aW t) from rfl) ?_;by_cases hs:aW t=true
 case neg=>
  have:fA t x=false:=by unfold fA;rw[Bool.eq_false_iff.2 hs];rfl
  rw[this];exact Ev.neg hs (Ev.done rfl)
 refine Ev.pos hs (Ev.bind (aom hs hx) ?_);by_cases h:fA t x=true
 case neg=>rw[Bool.eq_false_iff.2 h];exact Ev.neg ao (Ev.done rfl)
 have T:=wk.1 h;rw[h,Bool.true_and];refine Ev.pos rfl (Ev.bind (aoo T) ?_);exact Ev.bind (aor hs (T.cr (i:=1) (j:=2) ae ae ae).1 (T.cr (i:=1) (j:=3) ae ae ae).1 (T.cr (i:=2) (j:=3) ae ae ae).1) (Ev.done rfl)
theorem aot{t x:List Int}(hs:aW t=true)(hx:x.length≤1048576):Ev (fun k=>r7.f k t x) (fA t x&&K9 t x):=by
 unfold r7.f;refine Ev.bind (aoq hs hx) ?_;unfold QN;by_cases h:fA t x=true
 case neg=>rw[ag h,Bool.eq_false_iff.2 h];exact Ev.neg ao (Ev.done rfl)
 have T:=wk.1 h;rw[ah h,h,Bool.true_and];refine Ev.pos rfl (Ev.pos (by unfold oV;simp) (Ev.pos (by unfold oV;simp) (Ev.pos (by unfold oV;simp) ?_)));exact Ev.bind (Up T.sys (T.cr (i:=1) (j:=2) ae ae ae).1 (T.cr (i:=1) (j:=3) ae ae ae).1 (T.cr (i:=2) (j:=3) ae ae ae).1) (Ev.done rfl)
theorem aou{t x:List Int}(hs:aW t=true)(hx:x.length≤1048576):Ev (fun k=>sQ.f k t x) (iE t x&&sL t x):=Ev.done (ah ⟨hs,hx⟩)
theorem aov{t x:List Int}(hs:aW t=true)(hx:x.length≤1048576):Ev (fun k=>uk.f k t x) (iE t x&&sL t x):=Ev.done (ah ⟨hs,hx⟩)
end X
end Go.Proofs.YtiobedekgnfjcaaGreatDoor
