/- FnExactMoveShift: the program's MoveShift returns what the reference's returns, for all arguments. No conditions. -/
import Derived.Test.YtaemaloelmgblaaPlawsFnExactMoveShift
import Derived.Test.YtaemaloelmgblaaXEvShift
import Derived.Test.YtaemaloelmgblaaXEvMark
set_option linter.unusedVariables false
set_option linter.unusedSimpArgs false
namespace Go.Proofs.Ytaemaloelmgblaa.Pure
open Go.RowKit Go.Proofs.Ytaemaloelmgblaa.P Go.Proofs.YtaemaloelmgblaaW.PrintWords Go.Proofs.YtaemaloelmgblaaW.PrintLast Go.Proofs.Ytaemaloelmgblaa.X

theorem FnExactMoveShift : laws_FnExactMoveShift.Pure := by
  intro l0 a1 a2 _ _ _ _ _
  refine Ev.rounds ?_
  unfold laws_FnExactMoveShift.f
  by_cases hb_l0 : (l0.length : Int) > 1048576
  · exact Ev.pos hb_l0 (Ev.done rfl)
  refine Ev.neg hb_l0 ?_
  have h_l0 : l0.length ≤ 1048576 := by omega
  refine Ev.bind (toIntS_ev l0 h_l0) ?_
  refine Ev.bind (specShift_ev l0 h_l0 a1 a2) ?_
  refine Ev.bind (toIntS_ev l0 h_l0) ?_
  refine Ev.fix (show impl_MoveShift.f l0 a1 a2 = some (shiftR l0 a1 a2) from rfl) ?_
  obtain ⟨res, hres⟩ : ∃ r, shiftR l0 a1 a2 = r := ⟨_, rfl⟩
  have hR : res.1.length ≤ 1048576 := by rw [← hres]; exact shiftR_length l0 a1 a2
  rw [hres]
  refine Ev.bind (eqIntS_ev _ _ hR) (Ev.pos (by simp) ?_)
  refine Ev.step (fun k => by rw [laws_FnExactMoveShift.j0]) (Ev.neg (by simp) ?_)
  refine Ev.bind (toIntS_ev l0 h_l0) (Ev.bind (eqIntS_ev l0 l0 h_l0) (Ev.pos (by simp) ?_))
  refine Ev.bind (markIntS_ev l0 (1) h_l0 (by omega) (by omega)) ?_
  dsimp only
  refine Ev.neg (by omega) (Ev.bind (eqIntS_ev _ _ hR) (Ev.pos (by simp) ?_))
  refine Ev.step (fun k => by rw [laws_FnExactMoveShift.j1]) (Ev.neg (by simp) ?_)
  refine Ev.bind (markIntS_ev _ 1 hR (by omega) (by omega)) ?_
  dsimp only
  refine Ev.bind (heldIntS_ev _ 1 hR (by omega) (by omega)) (Ev.neg (by omega) (Ev.pos rfl ?_))
  refine Ev.bind (toIntS_ev l0 h_l0) ?_
  refine Ev.fix (show impl_MoveShift.f l0 a1 a2 = some (shiftR l0 a1 a2) from rfl) ?_
  rw [hres]
  refine Ev.bind (eqIntS_ev _ _ hR) (Ev.pos (by simp) ?_)
  refine Ev.step (fun k => by rw [laws_FnExactMoveShift.j2]) (Ev.neg (by simp) ?_)
  refine Ev.bind (heldIntS_ev _ 1 hR (by omega) (by omega)) (Ev.neg (by omega) (Ev.pos rfl (Ev.done rfl)))

end Go.Proofs.Ytaemaloelmgblaa.Pure
