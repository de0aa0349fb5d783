/- Written by a program (mprint.py over the kit's print): a Go function of the translation as a Lean function, and its contract: what a call of it comes to. -/
import Derived.Test.YtaemaloelmgblaaPzero
namespace Go.Proofs.Ytaemaloelmgblaa.P
open Go.RowKit Go.Proofs.YtaemaloelmgblaaW.PrintWords Go.Proofs.YtaemaloelmgblaaW.PrintLast Go.Proofs.YtaemaloelmgblaaW.PrintMore
attribute [local go_sem] max2_int min2_int max_two min_two max_three min_three max_four min_four   -- for this text's walks alone
set_option linter.unusedVariables false
set_option linter.unusedSimpArgs false

/-! ### impl_element: function 54 -/
def impl_element.f (a0 : Int) (a1 : Int) : Option (Int) := some (wrap64 ((Int.tmod (wrap64 ((Int.tmod a0 3) + 3)) 3) + (wrap64 (3 * (Int.tmod (wrap64 ((Int.tmod a1 3) + 3)) 3)))))
set_option maxHeartbeats 8000000 in
set_option maxRecDepth 100000 in
theorem impl_element.calls (a0 : Int) (a1 : Int) (r : Int) (w : World) (h : impl_element.f a0 a1 = some r) :
    Calls Try.prog 54 #[.int .i64 a0, .int .i64 a1] w fun e w' => e = .returned (.int .i64 r) ∧ Drawn0 w w' := by
  have H : (some (wrap64 ((Int.tmod (wrap64 ((Int.tmod a0 3) + 3)) 3) + (wrap64 (3 * (Int.tmod (wrap64 ((Int.tmod a1 3) + 3)) 3)))))) = some r := h
  clear h
  obtain rfl := Option.some.inj H
  go_enter Try.func54, Try.ntmps54
  go_wp2
  go_ret
  exact ⟨by first | rfl | (simp; done) | (simp [*]; done), by repeat (first | exact Drawn0.refl _ | apply Drawn0.step)⟩

end Go.Proofs.Ytaemaloelmgblaa.P
