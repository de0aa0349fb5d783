/- The reference's SystemIn comes to what the program's does. -/
import Derived.Test.YtaemaloelmgblaaXEv
import Derived.Test.YtaemaloelmgblaaXSys
import Derived.Test.YtaemaloelmgblaaXSpecTwo
import Derived.Test.YtaemaloelmgblaaPspecSystemIn
set_option linter.unusedVariables false
set_option linter.unusedSimpArgs false
namespace Go.Proofs.Ytaemaloelmgblaa.X
open Go.RowKit Go.Proofs.YtaemaloelmgblaaW.PrintWords Go.Proofs.YtaemaloelmgblaaW.PrintLast Go.Proofs.Ytaemaloelmgblaa.P

theorem l6In_eq (a b c : Int) : spec_l6In.f a b c = some (decide (b ≤ a) && decide (a ≤ c)) := by
  unfold spec_l6In.f
  by_cases h : a ≥ b
  · rw [if_pos h, decide_eq_true h]; simp
  · rw [if_neg h, decide_eq_false h]; simp
theorem l1In_eq (a : Int) : spec_l1In.f a = some (isN a) := by
  unfold spec_l1In.f isN
  rw [l6In_eq]
  show some _ = _
  rw [show decide (a ≤ 8) = decide (a < 9) from decide_eq_decide.2 (by omega)]
theorem l2Table_loop (l : List Int) (hl : l.length ≤ 1048576) (d : Nat) : ∀ (i : Int), 0 ≤ i → i + d = l.length → (∀ j : Nat, (j : Int) < i → isN (rd l j) = true) → Ev (fun k => spec_l2Table.l0 k l i) (ninesB l 81) := by
  induction d with
  | zero =>
    intro i h0 h1 h
    refine Ev.step (fun k => by rw [spec_l2Table.l0]) ?_
    refine Ev.neg (by omega) (Ev.done ?_)
    have ha : l.all isN = true := by
      rw [List.all_eq_true]
      intro x hx
      obtain ⟨j, hj, rfl⟩ := List.mem_iff_getElem.1 hx
      rw [← rd_cast l j hj]
      exact h j (by omega)
    unfold ninesB
    rw [ha, Bool.and_true]
    congr 1
    rw [Bool.eq_iff_iff]; simp; omega
  | succ d ih =>
    intro i h0 h1 h
    refine Ev.step (fun k => by rw [spec_l2Table.l0]) ?_
    simp (disch := omega) only [w64, l1In_eq, Option.bind_some]
    refine Ev.pos (by omega) (Ev.pos (by omega) ?_)
    by_cases e : isN (rd l i) = true
    · refine Ev.pos e (ih (i + 1) (by omega) (by omega) fun j hj => ?_)
      by_cases ej : (j : Int) = i
      · rw [ej]; exact e
      · exact h j (by omega)
    · refine Ev.neg e (Ev.done ?_)
      have : l.all isN = false := by
        rw [List.all_eq_false]
        exact ⟨rd l i, rd_mem (by omega) h0, e⟩
      unfold ninesB
      rw [this, Bool.and_false]
theorem l2Table_ev (l : List Int) (hl : l.length ≤ 1048576) : Ev (fun k => spec_l2Table.f k l) (ninesB l 81) :=
  l2Table_loop l hl l.length 0 (by omega) (by omega) (fun j h => by omega)
theorem l2Units_loop (t : List Int) (hl : t.length = 81) (d : Nat) : ∀ (i : Int), 0 ≤ i → i + d = 9 → (∀ x : Int, 0 ≤ x → x < i → unitB t x = true) → Ev (fun k => spec_l2Units.l0 k t i) (unitsB t) := by
  induction d with
  | zero =>
    intro i h0 h1 h
    refine Ev.step (fun k => by rw [spec_l2Units.l0]) ?_
    refine Ev.neg (by omega) (Ev.done ?_)
    rw [unitsB_iff.2 fun x x0 x1 => h x x0 (by omega)]
  | succ d ih =>
    intro i h0 h1 h
    have hu : unitB t i = (decide (rd t i = 0) && decide (rd t (9 * i) = 0) && decide (rd t (9 + i) = i) && decide (rd t (9 * i + 1) = i)) := rfl
    refine Ev.step (fun k => by rw [spec_l2Units.l0]) ?_
    have z1 : wrap64 (9 * i) = 9 * i := w64 (by omega) (by omega)
    have z2 : wrap64 (9 + i) = 9 + i := w64 (by omega) (by omega)
    have z3 : wrap64 (9 * i + 1) = 9 * i + 1 := w64 (by omega) (by omega)
    have z4 : wrap64 (i + 1) = i + 1 := w64 (by omega) (by omega)
    simp only [z1, z2, z3, z4]
    refine Ev.pos (by omega) (Ev.pos (by omega) (Ev.pos (by omega) ?_))
    by_cases e1 : rd t i = 0
    case neg => exact Ev.neg e1 (Ev.done (by rw [unitsB_hit h0 (by omega) (by rw [hu, decide_eq_false e1]; rfl)]))
    refine Ev.pos e1 (Ev.pos (by omega) (Ev.pos (by omega) ?_))
    by_cases e2 : rd t (9 * i) = 0
    case neg => exact Ev.neg e2 (Ev.done (by rw [unitsB_hit h0 (by omega) (by rw [hu, decide_eq_false e2, Bool.and_false]; rfl)]))
    refine Ev.pos e2 (Ev.pos (by omega) (Ev.pos (by omega) ?_))
    by_cases e3 : rd t (9 + i) = i
    case neg => exact Ev.neg e3 (Ev.done (by rw [unitsB_hit h0 (by omega) (by rw [hu, decide_eq_false e3, Bool.and_false]; rfl)]))
    refine Ev.pos e3 (Ev.pos (by omega) (Ev.pos (by omega) ?_))
    by_cases e4 : rd t (9 * i + 1) = i
    case neg => exact Ev.neg e4 (Ev.done (by rw [unitsB_hit h0 (by omega) (by rw [hu, decide_eq_false e4, Bool.and_false])]))
    refine Ev.pos e4 (ih (i + 1) (by omega) (by omega) fun x x0 x1 => ?_)
    by_cases e : x = i
    · rw [e, hu, decide_eq_true e1, decide_eq_true e2, decide_eq_true e3, decide_eq_true e4]; rfl
    · exact h x x0 (by omega)
theorem l2Units_ev (t : List Int) (hl : t.length = 81) : Ev (fun k => spec_l2Units.f k t) (unitsB t) :=
  l2Units_loop t hl 9 0 (by omega) (by omega) (fun x h0 h1 => by omega)
theorem SystemIn_l1 (t : List Int) (hn : ninesB t 81 = true) (c : Int) (hc : In9 c) (hr : (∀ d : Int, 0 ≤ d → d < c → gapsB t c d = true) → Ev (fun k => spec_SystemIn.l0 k t (c + 1)) (solvesB t)) (n : Nat) :
    ∀ (d : Int), 0 ≤ d → d + n = c → (∀ x : Int, 0 ≤ x → x < d → gapsB t c x = true) → Ev (fun k => spec_SystemIn.l1 k t c d) (solvesB t) := by
  obtain ⟨c0, c1⟩ := hc
  induction n with
  | zero =>
    intro d h0 h1 h
    refine Ev.step (fun k => by rw [spec_SystemIn.l1]) ?_
    simp (disch := omega) only [w64]
    exact Ev.neg (by omega) (hr fun x x0 x1 => h x x0 (by omega))
  | succ n ih =>
    intro d h0 h1 h
    refine Ev.step (fun k => by rw [spec_SystemIn.l1]) ?_
    have hs : spec_l2Solves.f t c d = some (gapsB t c d) := by unfold spec_l2Solves.f; exact if_pos ⟨hn, ⟨c0, c1⟩, ⟨h0, by omega⟩⟩
    simp (disch := omega) only [w64, hs, Option.bind_some]
    refine Ev.pos (by omega) ?_
    by_cases e : gapsB t c d = true
    · refine Ev.pos e (ih (d + 1) (by omega) (by omega) fun x x0 x1 => ?_)
      by_cases ex : x = d
      · rw [ex]; exact e
      · exact h x x0 (by omega)
    · refine Ev.neg e (Ev.done ?_)
      rw [solvesB_hit h0 (by omega) c1 (Bool.eq_false_iff.2 e)]
theorem SystemIn_l0 (t : List Int) (hn : ninesB t 81 = true) (n : Nat) : ∀ (c : Int), 0 ≤ c → c + n = 9 → (∀ x y : Int, 0 ≤ y → y < x → x < c → gapsB t x y = true) → Ev (fun k => spec_SystemIn.l0 k t c) (solvesB t) := by
  induction n with
  | zero =>
    intro c h0 h1 h
    refine Ev.step (fun k => by rw [spec_SystemIn.l0]) ?_
    refine Ev.neg (by omega) (Ev.done ?_)
    rw [solvesB_all fun x y y0 yx x9 => h x y y0 yx (by omega)]
  | succ n ih =>
    intro c h0 h1 h
    refine Ev.step (fun k => by rw [spec_SystemIn.l0]) ?_
    refine Ev.pos (by omega) ?_
    refine SystemIn_l1 t hn c ⟨h0, by omega⟩ (fun hg => ih (c + 1) (by omega) (by omega) fun x y y0 yx x1 => ?_) c.toNat 0 (by omega) (by omega) (fun x x0 x1 => by omega)
    by_cases e : x = c
    · subst e; exact hg y y0 yx
    · exact h x y y0 yx (by omega)
theorem SystemIn_ev (t : List Int) (hl : t.length ≤ 1048576) : Ev (fun k => spec_SystemIn.f k t) (sysB t) := by
  unfold spec_SystemIn.f
  refine Ev.bind (l2Table_ev t hl) ?_
  by_cases hn : ninesB t 81 = true
  case neg =>
    refine Ev.neg hn (Ev.step (fun k => by rw [spec_SystemIn.j0]) (Ev.pos rfl (Ev.done ?_)))
    unfold sysB; rw [Bool.eq_false_iff.2 hn]; rfl
  refine Ev.pos hn (Ev.bind (l2Units_ev t (ninesB_iff.1 hn).1) ?_)
  by_cases hu : unitsB t = true
  case neg =>
    refine Ev.neg hu (Ev.step (fun k => by rw [spec_SystemIn.j0]) (Ev.pos rfl (Ev.done ?_)))
    rw [sysB_of hn, Bool.eq_false_iff.2 hu]; rfl
  have hs : spec_l2Shares.f t = some (sharesB t) := by unfold spec_l2Shares.f; exact if_pos hn
  refine Ev.pos hu (Ev.fix hs ?_)
  rw [sysB_of hn, hu]
  by_cases h : sharesB t = true
  · rw [h]
    refine Ev.step (fun k => by rw [spec_SystemIn.j0]) ?_
    refine Ev.neg (by simp) ?_
    exact SystemIn_l0 t hn 9 0 (by omega) (by omega) (fun x y h0 h1 h2 => by omega)
  · rw [Bool.eq_false_iff.2 h]
    refine Ev.step (fun k => by rw [spec_SystemIn.j0]) ?_
    exact Ev.pos rfl (Ev.done rfl)

end Go.Proofs.Ytaemaloelmgblaa.X
