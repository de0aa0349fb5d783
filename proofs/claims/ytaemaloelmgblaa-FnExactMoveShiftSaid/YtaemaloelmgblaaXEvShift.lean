/- Both MoveShift come to the same. -/
import Derived.Test.YtaemaloelmgblaaXEvSys
import Derived.Test.YtaemaloelmgblaaXShift
import Derived.Test.YtaemaloelmgblaaPspecMoveShift
set_option linter.unusedVariables false
set_option linter.unusedSimpArgs false
namespace Go.Proofs.Ytaemaloelmgblaa.X
open Go.RowKit Go.Proofs.YtaemaloelmgblaaW.PrintWords Go.Proofs.YtaemaloelmgblaaW.PrintLast Go.Proofs.Ytaemaloelmgblaa.P

def shiftR (t : List Int) (a b : Int) : List Int × Bool := if (sysB t && (isN a && isN b)) = true then (shiftL a b, true) else ([], false)
theorem l5Far_loop (g : Int → Int) (hg : ∀ p : Int, 81 ≤ p → g p = p) (n : Nat) : ∀ (i : Int), 81 ≤ i → i + n = 91 → Ev (fun k => spec_l5Far.l0 k (mapI i.toNat g) i) (mapI 91 g) := by
  induction n with
  | zero =>
    intro i h0 h1
    refine Ev.step (fun k => by rw [spec_l5Far.l0]) ?_
    refine Ev.neg (by omega) (Ev.done ?_)
    rw [show i.toNat = 91 by omega]
  | succ n ih =>
    intro i h0 h1
    have hlen : (mapI i.toNat g).length = i.toNat := mapI_length _ _
    refine Ev.step (fun k => by rw [spec_l5Far.l0]) ?_
    simp (disch := omega) only [w64]
    refine Ev.pos (by omega) (Ev.pos (by omega) ?_)
    have := ih (i + 1) (by omega) (by omega)
    rw [show (i + 1).toNat = i.toNat + 1 by omega, mapI_succ, Int.toNat_of_nonneg (by omega), hg i h0] at this
    exact this
theorem l5Far_ev (g : Int → Int) (hg : ∀ p : Int, 81 ≤ p → g p = p) : Ev (fun k => spec_l5Far.f k (mapI 81 g)) (mapI 91 g) := l5Far_loop g hg 10 81 (by omega) (by omega)
theorem specShift_l0 (a b : Int) (ha : In9 a) (hb : In9 b) (n : Nat) : ∀ (i : Int), 0 ≤ i → i + n = 81 →
    Ev (fun k => spec_MoveShift.l0 k a b (mapI i.toNat fun p => if p < 81 then shiftF a b (p / 9) (p % 9) else p) i) (shiftL a b, true) := by
  induction n with
  | zero =>
    intro i h0 h1
    refine Ev.step (fun k => by rw [spec_MoveShift.l0]) ?_
    refine Ev.neg (by omega) ?_
    rw [show i.toNat = 81 by omega]
    exact Ev.bind (l5Far_ev _ fun p hp => if_neg (by omega)) (Ev.done rfl)
  | succ n ih =>
    intro i h0 h1
    have hlen := mapI_length i.toNat (fun p => if p < 81 then shiftF a b (p / 9) (p % 9) else p)
    have h1a := spec_l1Add_eq (i / 9) a ⟨by omega, by omega⟩ ha
    have h1b := spec_l1Add_eq (i % 9) b ⟨by omega, by omega⟩ hb
    obtain ⟨r0, r1⟩ := addN_range (i / 9) a
    obtain ⟨s0, s1⟩ := addN_range (i % 9) b
    refine Ev.step (fun k => by rw [spec_MoveShift.l0]) ?_
    simp (disch := omega) only [w64, tdiv_nn, tmod_nn, h1a, h1b, Option.bind_some]
    refine Ev.pos (by omega) (Ev.pos (by omega) ?_)
    have := ih (i + 1) (by omega) (by omega)
    rw [show (i + 1).toNat = i.toNat + 1 by omega, mapI_succ, Int.toNat_of_nonneg (by omega), if_pos (by omega)] at this
    exact this
theorem specShift_ev (t : List Int) (hl : t.length ≤ 1048576) (a b : Int) : Ev (fun k => spec_MoveShift.f k t a b) (shiftR t a b) := by
  unfold spec_MoveShift.f shiftR
  refine Ev.fix rfl (Ev.bind (SystemIn_ev t hl) ?_)
  by_cases hs : sysB t = true
  case neg =>
    rw [Bool.eq_false_iff.2 hs]
    refine Ev.neg (by simp) ?_
    refine Ev.step (fun k => by rw [spec_MoveShift.j0]) ?_
    exact Ev.pos rfl (Ev.done rfl)
  refine Ev.pos hs (Ev.fix (l1In_eq a) ?_)
  rw [hs]
  by_cases ha : isN a = true
  case neg =>
    rw [Bool.eq_false_iff.2 ha]
    refine Ev.neg (by simp) ?_
    refine Ev.step (fun k => by rw [spec_MoveShift.j0]) ?_
    exact Ev.pos rfl (Ev.done rfl)
  refine Ev.pos ha (Ev.fix (l1In_eq b) ?_)
  rw [ha]
  by_cases hb : isN b = true
  case neg =>
    rw [Bool.eq_false_iff.2 hb]
    refine Ev.step (fun k => by rw [spec_MoveShift.j0]) ?_
    exact Ev.pos rfl (Ev.done rfl)
  rw [hb]
  refine Ev.step (fun k => by rw [spec_MoveShift.j0]) ?_
  refine Ev.neg (by simp) ?_
  exact specShift_l0 a b (isN_iff.1 ha) (isN_iff.1 hb) 81 0 (by omega) (by omega)
theorem shiftR_length (t : List Int) (a b : Int) : (shiftR t a b).1.length ≤ 1048576 := by
  unfold shiftR
  by_cases hs : (sysB t && (isN a && isN b)) = true
  · rw [if_pos hs]; show (shiftL a b).length ≤ _; unfold shiftL moveL; rw [mapI_length]; omega
  · rw [if_neg hs]; exact Nat.zero_le _

end Go.Proofs.Ytaemaloelmgblaa.X
