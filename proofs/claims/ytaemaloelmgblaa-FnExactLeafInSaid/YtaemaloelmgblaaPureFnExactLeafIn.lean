/- FnExactLeafIn: the program's LeafIn returns what the reference's returns, for all arguments. No conditions. -/
import Derived.Test.YtaemaloelmgblaaPlawsFnExactLeafIn
import Derived.Test.YtaemaloelmgblaaXEvLeaf
set_option linter.unusedVariables false
set_option linter.unusedSimpArgs false
namespace Go.Proofs.Ytaemaloelmgblaa.Pure
open Go.RowKit Go.Proofs.Ytaemaloelmgblaa.P Go.Proofs.YtaemaloelmgblaaW.PrintWords Go.Proofs.YtaemaloelmgblaaW.PrintLast Go.Proofs.Ytaemaloelmgblaa.X

theorem FnExactLeafIn : laws_FnExactLeafIn.Pure := by
  intro l0 _ _ _
  refine Ev.rounds ?_
  unfold laws_FnExactLeafIn.f
  by_cases hb_l0 : (l0.length : Int) > 1048576
  · exact Ev.pos hb_l0 (Ev.done rfl)
  refine Ev.neg hb_l0 ?_
  have h_l0 : l0.length ≤ 1048576 := by omega
  refine Ev.bind (toIntS_ev l0 h_l0) ?_
  refine Ev.bind (specLeaf_ev l0) ?_
  refine Ev.bind (toIntS_ev l0 h_l0) ?_
  refine Ev.bind ((Ev.bind (implLeaf_ev l0) (Ev.done rfl) : Ev (fun k => impl_LeafIn.f k l0) (leafB l0))) ?_
  refine Ev.neg (by simp) ?_
  refine Ev.bind (toIntS_ev l0 h_l0) (Ev.bind (eqIntS_ev l0 l0 h_l0) (Ev.pos (by simp) (Ev.done rfl)))

end Go.Proofs.Ytaemaloelmgblaa.Pure
