/- FnExactSquareIn: the program's SquareIn returns what the reference's returns, for all arguments. No conditions. -/
import Derived.Test.YtaemaloelmgblaaPlawsFnExactSquareIn
import Derived.Test.YtaemaloelmgblaaXEvSq
set_option linter.unusedVariables false
set_option linter.unusedSimpArgs false
namespace Go.Proofs.Ytaemaloelmgblaa.Pure
open Go.RowKit Go.Proofs.Ytaemaloelmgblaa.P Go.Proofs.YtaemaloelmgblaaW.PrintWords Go.Proofs.YtaemaloelmgblaaW.PrintLast Go.Proofs.Ytaemaloelmgblaa.X

theorem FnExactSquareIn : laws_FnExactSquareIn.Pure := by
  intro l0 _ _ _
  refine Ev.rounds ?_
  unfold laws_FnExactSquareIn.f
  by_cases hb_l0 : (l0.length : Int) > 1048576
  · exact Ev.pos hb_l0 (Ev.done rfl)
  refine Ev.neg hb_l0 ?_
  have h_l0 : l0.length ≤ 1048576 := by omega
  refine Ev.bind (toIntS_ev l0 h_l0) ?_
  refine Ev.bind (SquareIn_ev l0 h_l0) ?_
  refine Ev.bind (toIntS_ev l0 h_l0) ?_
  refine Ev.fix (show impl_SquareIn.f l0 = some (squareB l0) from rfl) ?_
  refine Ev.neg (by simp) ?_
  refine Ev.bind (toIntS_ev l0 h_l0) (Ev.bind (eqIntS_ev l0 l0 h_l0) (Ev.pos (by simp) (Ev.done rfl)))

end Go.Proofs.Ytaemaloelmgblaa.Pure
