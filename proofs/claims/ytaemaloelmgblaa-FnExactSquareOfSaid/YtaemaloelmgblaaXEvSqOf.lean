/- Both SquareOf come to the same. -/
import Derived.Test.YtaemaloelmgblaaXEvSys
import Derived.Test.YtaemaloelmgblaaPspecSquareOf
import Derived.Test.YtaemaloelmgblaaPimplSquareOf
set_option linter.unusedVariables false
set_option linter.unusedSimpArgs false
namespace Go.Proofs.Ytaemaloelmgblaa.X
open Go.RowKit Go.Proofs.YtaemaloelmgblaaW.PrintWords Go.Proofs.YtaemaloelmgblaaW.PrintLast Go.Proofs.Ytaemaloelmgblaa.P

def sqI (t : List Int) (m i : Int) : Int := addN (rd t (9 * (i / 9) + m)) (i % 9)
def sqOfL (t : List Int) (m : Int) : List Int := mapI 81 (sqI t m)
def isM (m : Int) : Bool := decide (1 ≤ m) && decide (m ≤ 8)
def sqOfR (t : List Int) (m : Int) : List Int × Bool := if (sysB t && isM m) = true then (sqOfL t m, true) else ([], false)
theorem sysB_nines {t : List Int} (h : sysB t = true) : ninesB t 81 = true := by
  unfold sysB at h; exact (Bool.and_eq_true _ _ ▸ h).1
theorem specSqOf_l1 (t : List Int) (hn : ninesB t 81 = true) (m : Int) (hm : In9 m) (x : Int) (x0 : 0 ≤ x) (x1 : x < 9) (hr : Ev (fun k => spec_SquareOf.l0 k t m (mapI (9 * (x + 1)).toNat (sqI t m)) (x + 1)) (sqOfL t m, true)) (n : Nat) :
    ∀ (y : Int), 0 ≤ y → y + n = 9 → Ev (fun k => spec_SquareOf.l1 k t m (mapI (9 * x + y).toNat (sqI t m)) x y) (sqOfL t m, true) := by
  have hl := (ninesB_iff.1 hn).1
  obtain ⟨m0, m1⟩ := hm
  induction n with
  | zero =>
    intro y h0 h1
    refine Ev.step (fun k => by rw [spec_SquareOf.l1]) ?_
    simp (disch := omega) only [w64]
    refine Ev.neg (by omega) ?_
    rw [show 9 * x + y = 9 * (x + 1) by omega]
    exact hr
  | succ n ih =>
    intro y h0 h1
    have hlen : (mapI (9 * x + y).toNat (sqI t m)).length = (9 * x + y).toNat := mapI_length _ _
    have ha := spec_l1Add_eq (rd t (9 * x + m)) y (nines_rd hn (by omega) (by omega)) ⟨h0, by omega⟩
    refine Ev.step (fun k => by rw [spec_SquareOf.l1]) ?_
    simp (disch := omega) only [w64, ha, Option.bind_some]
    refine Ev.pos (by omega) (Ev.pos (by omega) (Ev.pos (by omega) (Ev.pos (by omega) ?_)))
    have := ih (y + 1) (by omega) (by omega)
    rw [show (9 * x + (y + 1)).toNat = (9 * x + y).toNat + 1 by omega, mapI_succ, Int.toNat_of_nonneg (by omega)] at this
    rw [show sqI t m (9 * x + y) = addN (rd t (9 * x + m)) y by unfold sqI; rw [show (9 * x + y) / 9 = x by omega, show (9 * x + y) % 9 = y by omega]] at this
    exact this
theorem specSqOf_l0 (t : List Int) (hn : ninesB t 81 = true) (m : Int) (hm : In9 m) (n : Nat) : ∀ (x : Int), 0 ≤ x → x + n = 9 → Ev (fun k => spec_SquareOf.l0 k t m (mapI (9 * x).toNat (sqI t m)) x) (sqOfL t m, true) := by
  induction n with
  | zero =>
    intro x h0 h1
    refine Ev.step (fun k => by rw [spec_SquareOf.l0]) ?_
    refine Ev.neg (by omega) (Ev.done ?_)
    rw [show (9 * x).toNat = 81 by omega]; rfl
  | succ n ih =>
    intro x h0 h1
    refine Ev.step (fun k => by rw [spec_SquareOf.l0]) ?_
    refine Ev.pos (by omega) ?_
    have := specSqOf_l1 t hn m hm x h0 (by omega) (ih (x + 1) (by omega) (by omega)) 9 0 (by omega) (by omega)
    rwa [show 9 * x + 0 = 9 * x by omega] at this
theorem specSqOf_ev (t : List Int) (hl : t.length ≤ 1048576) (m : Int) : Ev (fun k => spec_SquareOf.f k t m) (sqOfR t m) := by
  unfold spec_SquareOf.f sqOfR
  refine Ev.fix rfl (Ev.bind (SystemIn_ev t hl) ?_)
  by_cases hs : sysB t = true
  case neg =>
    rw [Bool.eq_false_iff.2 hs]
    refine Ev.neg (by simp) ?_
    refine Ev.step (fun k => by rw [spec_SquareOf.j0]) ?_
    exact Ev.pos rfl (Ev.done rfl)
  refine Ev.pos hs (Ev.fix (l6In_eq m 1 8) ?_)
  rw [hs]
  show Ev (fun n => spec_SquareOf.j0 n t m [] !(isM m)) _
  by_cases hm : isM m = true
  · rw [hm]
    refine Ev.step (fun k => by rw [spec_SquareOf.j0]) ?_
    refine Ev.neg (by simp) ?_
    have h := hm
    unfold isM at h
    simp at h
    exact specSqOf_l0 t (sysB_nines hs) m ⟨by omega, by omega⟩ 9 0 (by omega) (by omega)
  · rw [Bool.eq_false_iff.2 hm]
    refine Ev.step (fun k => by rw [spec_SquareOf.j0]) ?_
    exact Ev.pos rfl (Ev.done rfl)
theorem implSqOf_l1 (t : List Int) (hn : ninesB t 81 = true) (m : Int) (hm : In9 m) (x : Int) (x0 : 0 ≤ x) (x1 : x < 9) (hr : Ev (fun k => impl_SquareOf.l0 k t m (mapI (9 * (x + 1)).toNat (sqI t m)) (x + 1)) (sqOfL t m, true)) (n : Nat) :
    ∀ (y : Int), 0 ≤ y → y + n = 9 → Ev (fun k => impl_SquareOf.l1 k t m (mapI (9 * x + y).toNat (sqI t m)) x x y) (sqOfL t m, true) := by
  have hl := (ninesB_iff.1 hn).1
  obtain ⟨m0, m1⟩ := hm
  induction n with
  | zero =>
    intro y h0 h1
    refine Ev.step (fun k => by rw [impl_SquareOf.l1]) ?_
    simp (disch := omega) only [w64]
    refine Ev.neg (by omega) ?_
    rw [show 9 * x + y = 9 * (x + 1) by omega]
    exact hr
  | succ n ih =>
    intro y h0 h1
    have hlen : (mapI (9 * x + y).toNat (sqI t m)).length = (9 * x + y).toNat := mapI_length _ _
    have ha := impl_add_eq (rd t (9 * x + m)) y (nines_rd hn (by omega) (by omega)) ⟨h0, by omega⟩
    refine Ev.step (fun k => by rw [impl_SquareOf.l1]) ?_
    simp (disch := omega) only [w64, ha, Option.bind_some]
    refine Ev.pos (by omega) (Ev.pos (by omega) (Ev.pos (by omega) (Ev.pos (by omega) ?_)))
    have := ih (y + 1) (by omega) (by omega)
    rw [show (9 * x + (y + 1)).toNat = (9 * x + y).toNat + 1 by omega, mapI_succ, Int.toNat_of_nonneg (by omega)] at this
    rw [show sqI t m (9 * x + y) = addN (rd t (9 * x + m)) y by unfold sqI; rw [show (9 * x + y) / 9 = x by omega, show (9 * x + y) % 9 = y by omega]] at this
    exact this
theorem implSqOf_l0 (t : List Int) (hn : ninesB t 81 = true) (m : Int) (hm : In9 m) (n : Nat) : ∀ (x : Int), 0 ≤ x → x + n = 9 → Ev (fun k => impl_SquareOf.l0 k t m (mapI (9 * x).toNat (sqI t m)) x) (sqOfL t m, true) := by
  induction n with
  | zero =>
    intro x h0 h1
    refine Ev.step (fun k => by rw [impl_SquareOf.l0]) ?_
    refine Ev.neg (by omega) (Ev.done ?_)
    rw [show (9 * x).toNat = 81 by omega]; rfl
  | succ n ih =>
    intro x h0 h1
    refine Ev.step (fun k => by rw [impl_SquareOf.l0]) ?_
    refine Ev.pos (by omega) ?_
    have := implSqOf_l1 t hn m hm x h0 (by omega) (ih (x + 1) (by omega) (by omega)) 9 0 (by omega) (by omega)
    rwa [show 9 * x + 0 = 9 * x by omega] at this
theorem implSqOf_ev (t : List Int) (m : Int) : Ev (fun k => impl_SquareOf.f k t m) (sqOfR t m) := by
  unfold impl_SquareOf.f sqOfR
  refine Ev.fix rfl ?_
  by_cases hs : sysB t = true
  case neg =>
    rw [Bool.eq_false_iff.2 hs]
    refine Ev.neg (by simp) ?_
    refine Ev.step (fun k => by rw [impl_SquareOf.j0]) ?_
    exact Ev.pos rfl (Ev.done rfl)
  refine Ev.pos hs (Ev.fix (impl_isNine_eq m) ?_)
  rw [hs]
  by_cases hn : isN m = true
  case neg =>
    have : isM m = false := by
      cases e : isM m with
      | false => rfl
      | true => exact absurd (isN_iff.2 (by unfold isM at e; simp at e; omega)) hn
    rw [this]
    refine Ev.neg hn ?_
    refine Ev.step (fun k => by rw [impl_SquareOf.j0]) ?_
    exact Ev.pos rfl (Ev.done rfl)
  refine Ev.pos hn ?_
  by_cases h0 : m = 0
  · have : isM m = false := by subst h0; rfl
    rw [this, beq_iff_eq.2 h0]
    refine Ev.step (fun k => by rw [impl_SquareOf.j0]) ?_
    exact Ev.pos rfl (Ev.done rfl)
  · have hm := isN_iff.1 hn
    have : isM m = true := by unfold isM; simp; omega
    rw [this, beq_eq_false_iff_ne.2 h0]
    refine Ev.step (fun k => by rw [impl_SquareOf.j0]) ?_
    refine Ev.neg (by simp) ?_
    exact implSqOf_l0 t (sysB_nines hs) m ⟨by omega, by omega⟩ 9 0 (by omega) (by omega)
theorem sqOfR_length (t : List Int) (m : Int) : (sqOfR t m).1.length ≤ 1048576 := by
  unfold sqOfR
  by_cases hs : (sysB t && isM m) = true
  · rw [if_pos hs]; show (mapI _ _).length ≤ _; rw [mapI_length]; omega
  · rw [if_neg hs]; exact Nat.zero_le _

end Go.Proofs.Ytaemaloelmgblaa.X
