/- The law FnExactSpreadSame of the given program: for every input the call returns true, and each argument reads afterwards as it read before. No conditions. (Part 3 of 3; the last part holds the theorem.) -/
import Derived.Test.YtfoadgbffidgaaaMFnExactSpreadSame0
import Derived.Test.YtfoadgbffidgaaaMFnExactSpreadSame1
import Derived.Test.YtfoadgbffidgaaaWWords
import Derived.WalkKit
import Derived.ProofKit
import Derived.OpenShut
import Derived.ChangeOld
import Derived.Deep.Matrix
import Derived.Test.YtfoadgbffidgaaaRows
import Derived.ShutString
import Derived.Below
import Derived.SizedLaws
import Derived.Test.YtfoadgbffidgaaaWSized
namespace Go.Proofs.Ytfoadgbffidgaaa.P
open Go.RowKit Go.Proofs.YtfoadgbffidgaaaW.PrintWords Go.Proofs.YtfoadgbffidgaaaW.PrintLast Go.Proofs.YtfoadgbffidgaaaW.PrintMore
attribute [local go_sem] max2_int min2_int max_two min_two max_three min_three max_four min_four   -- for this text's walks alone
set_option linter.unusedVariables false
set_option linter.unusedSimpArgs false

/-! ### spec_SpreadSame: function 36 -/
mutual
def spec_SpreadSame.j0 : Nat → List (List Int) → List (List Int) → Bool → Option (Int × Bool)
  | 0, _, _, _ => none
  | k + 1, x0, x1, x16 => if x16 = true then (some (0, false)) else (spec_SpreadSame.l0 k x0 x1 0 0)
def spec_SpreadSame.l0 : Nat → List (List Int) → List (List Int) → Int → Int → Option (Int × Bool)
  | 0, _, _, _, _ => none
  | k + 1, x0, x1, x6, x7 => if x7 < 10 then (spec_SpreadSame.l1 k x0 x1 x6 x7 0) else (some (x6, true))
def spec_SpreadSame.l1 : Nat → List (List Int) → List (List Int) → Int → Int → Int → Option (Int × Bool)
  | 0, _, _, _, _, _ => none
  | k + 1, x0, x1, x6, x7, x8 => if x8 < 10 then (if 0 ≤ x7 then (if x7 < (x0.length : Int) then (if 0 ≤ x8 then (if x8 < (x1.length : Int) then ((spec_l6lSame.f k (rd_L1 x0 x7) (rd_L1 x1 x8)).bind fun t434 => (if t434 = true then (spec_SpreadSame.l1 k x0 x1 (wrap64 (x6 + 1)) x7 (wrap64 (x8 + 1))) else (spec_SpreadSame.l1 k x0 x1 x6 x7 (wrap64 (x8 + 1))))) else (none)) else (none)) else (none)) else (none)) else (spec_SpreadSame.l0 k x0 x1 x6 (wrap64 (x7 + 1)))
end
def spec_SpreadSame.f (k : Nat) (l0 : List (List Int)) (l1 : List (List Int)) : Option (Int × Bool) := (spec_SpreadIn.f k l0).bind fun t430 => (if t430 = true then ((spec_SpreadIn.f k l1).bind fun t431 => (spec_SpreadSame.j0 k l0 l1 (!t431))) else (spec_SpreadSame.j0 k l0 l1 true))
theorem spec_SpreadSame.mono_l : ∀ k, (∀ y0 y1 y2, LeO (spec_SpreadSame.j0 k y0 y1 y2) (spec_SpreadSame.j0 (k + 1) y0 y1 y2)) ∧ (∀ y0 y1 y2 y3, LeO (spec_SpreadSame.l0 k y0 y1 y2 y3) (spec_SpreadSame.l0 (k + 1) y0 y1 y2 y3)) ∧ (∀ y0 y1 y2 y3 y4, LeO (spec_SpreadSame.l1 k y0 y1 y2 y3 y4) (spec_SpreadSame.l1 (k + 1) y0 y1 y2 y3 y4))
  | 0 => ⟨fun _ _ _ r h => by simp [spec_SpreadSame.j0] at h, fun _ _ _ _ r h => by simp [spec_SpreadSame.l0] at h, fun _ _ _ _ _ r h => by simp [spec_SpreadSame.l1] at h⟩
  | k + 1 => by
    obtain ⟨ih0, ih1, ih2⟩ := spec_SpreadSame.mono_l k
    refine ⟨?_, ?_, ?_⟩
    · intro y0 y1 y2
      unfold spec_SpreadSame.j0
      repeat' first
      | (with_reducible exact ih0 _ _ _)
      | (with_reducible exact ih1 _ _ _ _)
      | (with_reducible exact ih2 _ _ _ _ _)
      | (with_reducible exact spec_SpreadIn.mono _ _)
      | (with_reducible exact spec_l6lSame.mono _ _ _)
      | (with_reducible exact LeO.refl _)
      | (with_reducible exact LeO.none _)
      | (with_reducible refine LeO.ite ?_ ?_)
      | (with_reducible refine LeO.bind ?_ (fun _ => ?_))
      | exact ih0 _ _ _
      | exact ih1 _ _ _ _
      | exact ih2 _ _ _ _ _
      | exact spec_SpreadIn.mono _ _
      | exact spec_l6lSame.mono _ _ _
      | exact LeO.none _
      | refine LeO.ite ?_ ?_
      | refine LeO.bind ?_ (fun _ => ?_)
    · intro y0 y1 y2 y3
      unfold spec_SpreadSame.l0
      repeat' first
      | (with_reducible exact ih0 _ _ _)
      | (with_reducible exact ih1 _ _ _ _)
      | (with_reducible exact ih2 _ _ _ _ _)
      | (with_reducible exact spec_SpreadIn.mono _ _)
      | (with_reducible exact spec_l6lSame.mono _ _ _)
      | (with_reducible exact LeO.refl _)
      | (with_reducible exact LeO.none _)
      | (with_reducible refine LeO.ite ?_ ?_)
      | (with_reducible refine LeO.bind ?_ (fun _ => ?_))
      | exact ih0 _ _ _
      | exact ih1 _ _ _ _
      | exact ih2 _ _ _ _ _
      | exact spec_SpreadIn.mono _ _
      | exact spec_l6lSame.mono _ _ _
      | exact LeO.none _
      | refine LeO.ite ?_ ?_
      | refine LeO.bind ?_ (fun _ => ?_)
    · intro y0 y1 y2 y3 y4
      unfold spec_SpreadSame.l1
      repeat' first
      | (with_reducible exact ih0 _ _ _)
      | (with_reducible exact ih1 _ _ _ _)
      | (with_reducible exact ih2 _ _ _ _ _)
      | (with_reducible exact spec_SpreadIn.mono _ _)
      | (with_reducible exact spec_l6lSame.mono _ _ _)
      | (with_reducible exact LeO.refl _)
      | (with_reducible exact LeO.none _)
      | (with_reducible refine LeO.ite ?_ ?_)
      | (with_reducible refine LeO.bind ?_ (fun _ => ?_))
      | exact ih0 _ _ _
      | exact ih1 _ _ _ _
      | exact ih2 _ _ _ _ _
      | exact spec_SpreadIn.mono _ _
      | exact spec_l6lSame.mono _ _ _
      | exact LeO.none _
      | refine LeO.ite ?_ ?_
      | refine LeO.bind ?_ (fun _ => ?_)
theorem spec_SpreadSame.mono : ∀ a0 a1 k, LeO (spec_SpreadSame.f k a0 a1) (spec_SpreadSame.f (k + 1) a0 a1) := by
  intro a0 a1 k
  obtain ⟨ih0, ih1, ih2⟩ := spec_SpreadSame.mono_l k
  unfold spec_SpreadSame.f
  repeat' first
      | (with_reducible exact ih0 _ _ _)
      | (with_reducible exact ih1 _ _ _ _)
      | (with_reducible exact ih2 _ _ _ _ _)
      | (with_reducible exact spec_SpreadIn.mono _ _)
      | (with_reducible exact spec_l6lSame.mono _ _ _)
      | (with_reducible exact LeO.refl _)
      | (with_reducible exact LeO.none _)
      | (with_reducible refine LeO.ite ?_ ?_)
      | (with_reducible refine LeO.bind ?_ (fun _ => ?_))
      | exact ih0 _ _ _
      | exact ih1 _ _ _ _
      | exact ih2 _ _ _ _ _
      | exact spec_SpreadIn.mono _ _
      | exact spec_l6lSame.mono _ _ _
      | exact LeO.none _
      | refine LeO.ite ?_ ?_
      | refine LeO.bind ?_ (fun _ => ?_)
set_option maxHeartbeats 8000000 in
set_option maxRecDepth 100000 in
theorem spec_SpreadSame.calls (k : Nat) (A0 : Option Addr) (c0 : Nat) (l0 : List (List Int)) (A1 : Option Addr) (c1 : Nat) (l1 : List (List Int)) (r1 : Int) (r2 : Bool) (w : World) (hr0 : Kd.C (Kd.slice 3 (Kd.int .i64)) w A0 l0.length l0) (hc0 : l0.length ≤ c0) (hr1 : Kd.C (Kd.slice 3 (Kd.int .i64)) w A1 l1.length l1) (hc1 : l1.length ≤ c1) (h : spec_SpreadSame.f k l0 l1 = some (r1, r2)) :
    Calls Try.prog 36 #[.slice A0 l0.length c0, .slice A1 l1.length c1] w fun e w' => e = .returned (.tuple #[.int .i64 r1, .bool r2]) ∧ Below w.heap.size w w' := by
  have HR0 := Aside0.mk hr0
  have HC0 := Aside0.mk hc0
  clear hr0 hc0
  have HR1 := Aside0.mk hr1
  have HC1 := Aside0.mk hc1
  clear hr1 hc1
  have HB := Aside0.mk (Below.refl w.heap.size w)
  have H : ((spec_SpreadIn.f k l0).bind fun t430 => (if t430 = true then ((spec_SpreadIn.f k l1).bind fun t431 => (spec_SpreadSame.j0 k l0 l1 (!t431))) else (spec_SpreadSame.j0 k l0 l1 true))) = some (r1, r2) := h
  clear h
  have HC3 := Aside0.mk H
  clear H
  go_enter Try.func36, Try.ntmps36
  go_upto_region 1 with (fail)
  repeat (go_quiet (fail); go_upto_region 1 with (fail))
  go_cut [16] (fun v16 wc => ∃ (kq : Nat) (x16_2 : Bool), v16 = .bool x16_2 ∧ Aside0 (spec_SpreadSame.j0 kq l0 l1 x16_2 = some (r1, r2)) ∧ Aside0 (kq ≤ k) ∧ Aside0 (Below w.heap.size w wc))
  case first =>
    have H := HC3.out
    clear HC3
    replace H := Option.bind_eq_some_iff.mp H
    obtain ⟨t430, A40, H⟩ := H
    replace H : (if t430 = true then ((spec_SpreadIn.f k l1).bind fun t431 => (spec_SpreadSame.j0 k l0 l1 (!t431))) else (spec_SpreadSame.j0 k l0 l1 true)) = some (r1, r2) := H
    have A4 := Aside0.mk A40
    clear A40
    by_cases c5 : t430 = true
    · subst c5
      have H1 : ((spec_SpreadIn.f k l1).bind fun t431 => (spec_SpreadSame.j0 k l0 l1 (!t431))) = some (r1, r2) := by rw [if_pos rfl] at H; exact H
      clear H
      have H := H1
      clear H1
      replace H := Option.bind_eq_some_iff.mp H
      obtain ⟨t431, A60, H⟩ := H
      replace H : (spec_SpreadSame.j0 k l0 l1 (!t431)) = some (r1, r2) := H
      have A6 := Aside0.mk A60
      clear A60
      have H' := Aside0.mk H
      clear H
      go_wp2_with (first | (go_at_call 16; (with_reducible refine (spec_SpreadIn.calls k _ _ l0 true _ ?side1 ?side2 A4.out).mono ?_); (case side1 => repeat (first | exact (Kd.C_below HR0.out HB.out) | (with_reducible refine Kd.C_alloc ?_ _) | (with_reducible refine Kd.C_drewN ?_ _) | (with_reducible refine Kd.C_drew ?_))); (case side2 => exact HC0.out); rintro e w7 ⟨rfl, hb⟩; have n0_ := Aside0.mk (below_step (by repeat (first | (with_reducible first | exact HB.out | apply below_alloc | apply pw_below_drewN | apply below_drew1) | exact HB.out)) hb); clear HB; have HB := n0_; clear n0_; (try clear hb); (try clear hb2); (try clear hk); (try clear hi)) | (go_at_call 16; (with_reducible refine (spec_SpreadIn.calls k _ _ l1 t431 _ ?side1 ?side2 A6.out).mono ?_); (case side1 => repeat (first | exact (Kd.C_below HR1.out HB.out) | (with_reducible refine Kd.C_alloc ?_ _) | (with_reducible refine Kd.C_drewN ?_ _) | (with_reducible refine Kd.C_drew ?_))); (case side2 => exact HC1.out); rintro e w8 ⟨rfl, hb⟩; have n0_ := Aside0.mk (below_step (by repeat (first | (with_reducible first | exact HB.out | apply below_alloc | apply pw_below_drewN | apply below_drew1) | exact HB.out)) hb); clear HB; have HB := n0_; clear n0_; (try clear hb); (try clear hb2); (try clear hk); (try clear hi)))
      repeat (go_quiet (first | (go_at_call 16; (with_reducible refine (spec_SpreadIn.calls k _ _ l0 true _ ?side1 ?side2 A4.out).mono ?_); (case side1 => repeat (first | exact (Kd.C_below HR0.out HB.out) | (with_reducible refine Kd.C_alloc ?_ _) | (with_reducible refine Kd.C_drewN ?_ _) | (with_reducible refine Kd.C_drew ?_))); (case side2 => exact HC0.out); rintro e w7 ⟨rfl, hb⟩; have n0_ := Aside0.mk (below_step (by repeat (first | (with_reducible first | exact HB.out | apply below_alloc | apply pw_below_drewN | apply below_drew1) | exact HB.out)) hb); clear HB; have HB := n0_; clear n0_; (try clear hb); (try clear hb2); (try clear hk); (try clear hi)) | (go_at_call 16; (with_reducible refine (spec_SpreadIn.calls k _ _ l1 t431 _ ?side1 ?side2 A6.out).mono ?_); (case side1 => repeat (first | exact (Kd.C_below HR1.out HB.out) | (with_reducible refine Kd.C_alloc ?_ _) | (with_reducible refine Kd.C_drewN ?_ _) | (with_reducible refine Kd.C_drew ?_))); (case side2 => exact HC1.out); rintro e w8 ⟨rfl, hb⟩; have n0_ := Aside0.mk (below_step (by repeat (first | (with_reducible first | exact HB.out | apply below_alloc | apply pw_below_drewN | apply below_drew1) | exact HB.out)) hb); clear HB; have HB := n0_; clear n0_; (try clear hb); (try clear hb2); (try clear hk); (try clear hi))); try go_wp2_with (first | (go_at_call 16; (with_reducible refine (spec_SpreadIn.calls k _ _ l0 true _ ?side1 ?side2 A4.out).mono ?_); (case side1 => repeat (first | exact (Kd.C_below HR0.out HB.out) | (with_reducible refine Kd.C_alloc ?_ _) | (with_reducible refine Kd.C_drewN ?_ _) | (with_reducible refine Kd.C_drew ?_))); (case side2 => exact HC0.out); rintro e w7 ⟨rfl, hb⟩; have n0_ := Aside0.mk (below_step (by repeat (first | (with_reducible first | exact HB.out | apply below_alloc | apply pw_below_drewN | apply below_drew1) | exact HB.out)) hb); clear HB; have HB := n0_; clear n0_; (try clear hb); (try clear hb2); (try clear hk); (try clear hi)) | (go_at_call 16; (with_reducible refine (spec_SpreadIn.calls k _ _ l1 t431 _ ?side1 ?side2 A6.out).mono ?_); (case side1 => repeat (first | exact (Kd.C_below HR1.out HB.out) | (with_reducible refine Kd.C_alloc ?_ _) | (with_reducible refine Kd.C_drewN ?_ _) | (with_reducible refine Kd.C_drew ?_))); (case side2 => exact HC1.out); rintro e w8 ⟨rfl, hb⟩; have n0_ := Aside0.mk (below_step (by repeat (first | (with_reducible first | exact HB.out | apply below_alloc | apply pw_below_drewN | apply below_drew1) | exact HB.out)) hb); clear HB; have HB := n0_; clear n0_; (try clear hb); (try clear hb2); (try clear hk); (try clear hi))))
      go_meet
      case rel => exact ⟨_, (!t431), (by first | rfl | (simp; done) | (simp [*]; done)), H', ⟨by first | omega | exact Nat.le_refl _⟩, ⟨by repeat (first | (with_reducible first | exact HB.out | apply below_alloc | apply pw_below_drewN | apply below_drew1) | exact HB.out)⟩⟩
    · replace c5 := Bool.eq_false_iff.mpr c5
      subst c5
      have H1 : (spec_SpreadSame.j0 k l0 l1 true) = some (r1, r2) := by rw [if_neg (show ¬ (false = true) by decide)] at H; exact H
      clear H
      have H := H1
      clear H1
      have H' := Aside0.mk H
      clear H
      go_wp2_with (first | (go_at_call 16; (with_reducible refine (spec_SpreadIn.calls k _ _ l0 false _ ?side1 ?side2 A4.out).mono ?_); (case side1 => repeat (first | exact (Kd.C_below HR0.out HB.out) | (with_reducible refine Kd.C_alloc ?_ _) | (with_reducible refine Kd.C_drewN ?_ _) | (with_reducible refine Kd.C_drew ?_))); (case side2 => exact HC0.out); rintro e w9 ⟨rfl, hb⟩; have n0_ := Aside0.mk (below_step (by repeat (first | (with_reducible first | exact HB.out | apply below_alloc | apply pw_below_drewN | apply below_drew1) | exact HB.out)) hb); clear HB; have HB := n0_; clear n0_; (try clear hb); (try clear hb2); (try clear hk); (try clear hi)))
      repeat (go_quiet (first | (go_at_call 16; (with_reducible refine (spec_SpreadIn.calls k _ _ l0 false _ ?side1 ?side2 A4.out).mono ?_); (case side1 => repeat (first | exact (Kd.C_below HR0.out HB.out) | (with_reducible refine Kd.C_alloc ?_ _) | (with_reducible refine Kd.C_drewN ?_ _) | (with_reducible refine Kd.C_drew ?_))); (case side2 => exact HC0.out); rintro e w9 ⟨rfl, hb⟩; have n0_ := Aside0.mk (below_step (by repeat (first | (with_reducible first | exact HB.out | apply below_alloc | apply pw_below_drewN | apply below_drew1) | exact HB.out)) hb); clear HB; have HB := n0_; clear n0_; (try clear hb); (try clear hb2); (try clear hk); (try clear hi))); try go_wp2_with (first | (go_at_call 16; (with_reducible refine (spec_SpreadIn.calls k _ _ l0 false _ ?side1 ?side2 A4.out).mono ?_); (case side1 => repeat (first | exact (Kd.C_below HR0.out HB.out) | (with_reducible refine Kd.C_alloc ?_ _) | (with_reducible refine Kd.C_drewN ?_ _) | (with_reducible refine Kd.C_drew ?_))); (case side2 => exact HC0.out); rintro e w9 ⟨rfl, hb⟩; have n0_ := Aside0.mk (below_step (by repeat (first | (with_reducible first | exact HB.out | apply below_alloc | apply pw_below_drewN | apply below_drew1) | exact HB.out)) hb); clear HB; have HB := n0_; clear n0_; (try clear hb); (try clear hb2); (try clear hk); (try clear hi))))
      go_meet
      case rel => exact ⟨_, (true), (by first | rfl | (simp; done) | (simp [*]; done)), H', ⟨by first | omega | exact Nat.le_refl _⟩, ⟨by repeat (first | (with_reducible first | exact HB.out | apply below_alloc | apply pw_below_drewN | apply below_drew1) | exact HB.out)⟩⟩
  case rest =>
    clear HC3
    try clear c1
    try clear p2
    try clear c3
    try clear c5
    obtain ⟨kq, x16_2, rfl, HA, HJ2, HB⟩ := hcut
    cases kq with
    | zero => exact absurd HA.out (by simp [spec_SpreadSame.j0])
    | succ kj2 =>
      have H := HA.out
      clear HA
      simp only [spec_SpreadSame.j0] at H
      by_cases c10 : x16_2 = true
      · subst c10
        have H1 : (some (0, false)) = some (r1, r2) := by rw [if_pos rfl] at H; exact H
        clear H
        have H := H1
        clear H1
        simp only [Option.some.injEq, Prod.mk.injEq] at H
        obtain ⟨rfl, rfl⟩ := H
        go_wp2
        repeat (go_quiet (fail); try go_wp2)
        go_ret2
        exact ⟨by first | rfl | (simp [errW_none, errW_some] <;> rfl) | (simp [*, errW_none, errW_some] <;> rfl), by repeat (first | (with_reducible first | exact HB.out | apply below_alloc | apply pw_below_drewN | apply below_drew1) | exact HB.out)⟩
      · replace c10 := Bool.eq_false_iff.mpr c10
        subst c10
        have H1 : (spec_SpreadSame.l0 kj2 l0 l1 0 0) = some (r1, r2) := by rw [if_neg (show ¬ (false = true) by decide)] at H; exact H
        clear H
        have H := H1
        clear H1
        have H' := Aside0.mk H
        clear H
        go_wp2
        repeat (go_quiet (fail); try go_wp2)
        go_loopg [6, 7] kj2 (fun kq v6 v7 w' => ∃ (x6_2 : Int) (x7_2 : Int), v6 = .int .i64 x6_2 ∧ v7 = .int .i64 x7_2 ∧ Aside0 (spec_SpreadSame.l0 kq l0 l1 x6_2 x7_2 = some (r1, r2)) ∧ Aside0 (kq ≤ kj2) ∧ Aside0 (Below w.heap.size w w'))
        case atStart => exact ⟨(0), (0), (by first | rfl | (simp; done) | (simp [*]; done)), (by first | rfl | (simp; done) | (simp [*]; done)), H', ⟨Nat.le_refl _⟩, ⟨by repeat (first | (with_reducible first | exact HB.out | apply below_alloc | apply pw_below_drewN | apply below_drew1) | exact HB.out)⟩⟩
        case round =>
          clear H'
          try clear c1
          try clear p2
          try clear c3
          try clear c5
          try clear c10
          try clear p2
          obtain ⟨x6_2, x7_2, rfl, rfl, HA, HK2, HB⟩ := hrel
          cases gk with
          | zero => exact absurd HA.out (by simp [spec_SpreadSame.l0])
          | succ k2 =>
            have H := HA.out
            clear HA
            simp only [spec_SpreadSame.l0] at H
            by_cases c11 : x7_2 < 10
            · rw [if_pos c11] at H
              have c11b0 : decide (x7_2 < 10) = true := decide_eq_true c11
              clear c11
              have H' := Aside0.mk H
              clear H
              go_wp2
              repeat (go_quiet (fail); try go_wp2)
              go_loopg [6, 8] k2 (fun kq v6 v8 w' => ∃ (x6_3 : Int) (x8_3 : Int), v6 = .int .i64 x6_3 ∧ v8 = .int .i64 x8_3 ∧ Aside0 (spec_SpreadSame.l1 kq l0 l1 x6_3 x7_2 x8_3 = some (r1, r2)) ∧ Aside0 (kq ≤ k2) ∧ Aside0 (Below w.heap.size w w'))
              case atStart => exact ⟨(x6_2), (0), (by first | rfl | (simp; done) | (simp [*]; done)), (by first | rfl | (simp; done) | (simp [*]; done)), H', ⟨Nat.le_refl _⟩, ⟨by repeat (first | (with_reducible first | exact HB.out | apply below_alloc | apply pw_below_drewN | apply below_drew1) | exact HB.out)⟩⟩
              case round =>
                clear H'
                try clear c1
                try clear p2
                try clear c3
                try clear c5
                try clear c10
                try clear c11
                try clear c11b0
                try clear p2
                obtain ⟨x6_3, x8_3, rfl, rfl, HA, HK3, HB⟩ := hrel
                cases gk with
                | zero => exact absurd HA.out (by simp [spec_SpreadSame.l1])
                | succ k3 =>
                  have H := HA.out
                  clear HA
                  simp only [spec_SpreadSame.l1] at H
                  by_cases c12 : x8_3 < 10
                  · rw [if_pos c12] at H
                    have c12b0 : decide (x8_3 < 10) = true := decide_eq_true c12
                    clear c12
                    by_cases c13 : 0 ≤ x7_2
                    · rw [if_pos c13] at H
                      have c13b0 : decide (0 ≤ x7_2) = true := decide_eq_true c13
                      clear c13
                      by_cases c14 : x7_2 < (l0.length : Int)
                      · rw [if_pos c14] at H
                        have c14b0 : decide (x7_2 < (l0.length : Int)) = true := decide_eq_true c14
                        clear c14
                        by_cases c15 : 0 ≤ x8_3
                        · rw [if_pos c15] at H
                          have c15b0 : decide (0 ≤ x8_3) = true := decide_eq_true c15
                          clear c15
                          by_cases c16 : x8_3 < (l1.length : Int)
                          · rw [if_pos c16] at H
                            have c16b0 : decide (x8_3 < (l1.length : Int)) = true := decide_eq_true c16
                            clear c16
                            replace H := Option.bind_eq_some_iff.mp H
                            obtain ⟨t434, A170, H⟩ := H
                            replace H : (if t434 = true then (spec_SpreadSame.l1 k3 l0 l1 (wrap64 (x6_3 + 1)) x7_2 (wrap64 (x8_3 + 1))) else (spec_SpreadSame.l1 k3 l0 l1 x6_3 x7_2 (wrap64 (x8_3 + 1)))) = some (r1, r2) := H
                            have A17 := Aside0.mk A170
                            clear A170
                            by_cases c18 : t434 = true
                            · subst c18
                              have H1 : (spec_SpreadSame.l1 k3 l0 l1 (wrap64 (x6_3 + 1)) x7_2 (wrap64 (x8_3 + 1))) = some (r1, r2) := by rw [if_pos rfl] at H; exact H
                              clear H
                              have H := H1
                              clear H1
                              have H' := Aside0.mk H
                              clear H
                              have p432 : 0 ≤ (x7_2 : Int) := of_decide_eq_true (by first | (with_reducible assumption) | assumption)
                              have q432 : x7_2 < (l0.length : Int) := of_decide_eq_true (by first | (with_reducible assumption) | assumption)
                              obtain ⟨ad432, A432_0, c432_0, e432, hx432_0, hl432_0, hi432_0⟩ := at_L1 HR0.out x7_2 p432 q432
                              cases e432
                              replace hx432_0 := (HB.out.cell (World.block_lt_of_cell? w _ hx432_0)).trans hx432_0
                              have HR432_0 := Aside0.mk hi432_0
                              have HC432_0 := Aside0.mk hl432_0
                              clear hi432_0 hl432_0
                              replace p432 := eq_true p432
                              replace q432 := eq_true q432
                              have p433 : 0 ≤ (x8_3 : Int) := of_decide_eq_true (by first | (with_reducible assumption) | assumption)
                              have q433 : x8_3 < (l1.length : Int) := of_decide_eq_true (by first | (with_reducible assumption) | assumption)
                              obtain ⟨ad433, A433_0, c433_0, e433, hx433_0, hl433_0, hi433_0⟩ := at_L1 HR1.out x8_3 p433 q433
                              cases e433
                              replace hx433_0 := (HB.out.cell (World.block_lt_of_cell? w _ hx433_0)).trans hx433_0
                              have HR433_0 := Aside0.mk hi433_0
                              have HC433_0 := Aside0.mk hl433_0
                              clear hi433_0 hl433_0
                              replace p433 := eq_true p433
                              replace q433 := eq_true q433
                              go_wp2_with (first | (go_at_call 76; (with_reducible refine (spec_l6lSame.calls k3 _ _ (rd_L1 l0 x7_2) _ _ (rd_L1 l1 x8_3) true _ ?side1 ?side2 ?side3 ?side4 A17.out).mono ?_); (case side1 => repeat (first | exact (Kd.C_below HR432_0.out HB.out) | (with_reducible refine Kd.C_alloc ?_ _) | (with_reducible refine Kd.C_drewN ?_ _) | (with_reducible refine Kd.C_drew ?_))); (case side2 => exact HC432_0.out); (case side3 => repeat (first | exact (Kd.C_below HR433_0.out HB.out) | (with_reducible refine Kd.C_alloc ?_ _) | (with_reducible refine Kd.C_drewN ?_ _) | (with_reducible refine Kd.C_drew ?_))); (case side4 => exact HC433_0.out); rintro e w' ⟨rfl, ⟨nd, rfl⟩⟩; (try first | exact ⟨rfl, _, World.drewN_drewN _ _ _⟩ | exact ⟨rfl, _, Eq.trans (World.drewN_drewN _ _ _) (congrArg (World.drewN _) (Nat.add_assoc _ _ _))⟩)))
                              repeat (go_quiet (first | (go_at_call 76; (with_reducible refine (spec_l6lSame.calls k3 _ _ (rd_L1 l0 x7_2) _ _ (rd_L1 l1 x8_3) true _ ?side1 ?side2 ?side3 ?side4 A17.out).mono ?_); (case side1 => repeat (first | exact (Kd.C_below HR432_0.out HB.out) | (with_reducible refine Kd.C_alloc ?_ _) | (with_reducible refine Kd.C_drewN ?_ _) | (with_reducible refine Kd.C_drew ?_))); (case side2 => exact HC432_0.out); (case side3 => repeat (first | exact (Kd.C_below HR433_0.out HB.out) | (with_reducible refine Kd.C_alloc ?_ _) | (with_reducible refine Kd.C_drewN ?_ _) | (with_reducible refine Kd.C_drew ?_))); (case side4 => exact HC433_0.out); rintro e w' ⟨rfl, ⟨nd, rfl⟩⟩; (try first | exact ⟨rfl, _, World.drewN_drewN _ _ _⟩ | exact ⟨rfl, _, Eq.trans (World.drewN_drewN _ _ _) (congrArg (World.drewN _) (Nat.add_assoc _ _ _))⟩))); try go_wp2_with (first | (go_at_call 76; (with_reducible refine (spec_l6lSame.calls k3 _ _ (rd_L1 l0 x7_2) _ _ (rd_L1 l1 x8_3) true _ ?side1 ?side2 ?side3 ?side4 A17.out).mono ?_); (case side1 => repeat (first | exact (Kd.C_below HR432_0.out HB.out) | (with_reducible refine Kd.C_alloc ?_ _) | (with_reducible refine Kd.C_drewN ?_ _) | (with_reducible refine Kd.C_drew ?_))); (case side2 => exact HC432_0.out); (case side3 => repeat (first | exact (Kd.C_below HR433_0.out HB.out) | (with_reducible refine Kd.C_alloc ?_ _) | (with_reducible refine Kd.C_drewN ?_ _) | (with_reducible refine Kd.C_drew ?_))); (case side4 => exact HC433_0.out); rintro e w' ⟨rfl, ⟨nd, rfl⟩⟩; (try first | exact ⟨rfl, _, World.drewN_drewN _ _ _⟩ | exact ⟨rfl, _, Eq.trans (World.drewN_drewN _ _ _) (congrArg (World.drewN _) (Nat.add_assoc _ _ _))⟩))))
                              go_roundg k3
                              case measure => have := HJ2.out; have := HK2.out; have := HK3.out; omega
                              case rel => exact ⟨(wrap64 (x6_3 + 1)), (wrap64 (x8_3 + 1)), (by first | rfl | (simp; done) | (simp [*]; done)), (by first | rfl | (simp; done) | (simp [*]; done)), H', ⟨by have := HJ2.out; have := HK2.out; have := HK3.out; omega⟩, ⟨by repeat (first | (with_reducible first | exact HB.out | apply below_alloc | apply pw_below_drewN | apply below_drew1) | exact HB.out)⟩⟩
                            · replace c18 := Bool.eq_false_iff.mpr c18
                              subst c18
                              have H1 : (spec_SpreadSame.l1 k3 l0 l1 x6_3 x7_2 (wrap64 (x8_3 + 1))) = some (r1, r2) := by rw [if_neg (show ¬ (false = true) by decide)] at H; exact H
                              clear H
                              have H := H1
                              clear H1
                              have H' := Aside0.mk H
                              clear H
                              have p432 : 0 ≤ (x7_2 : Int) := of_decide_eq_true (by first | (with_reducible assumption) | assumption)
                              have q432 : x7_2 < (l0.length : Int) := of_decide_eq_true (by first | (with_reducible assumption) | assumption)
                              obtain ⟨ad432, A432_0, c432_0, e432, hx432_0, hl432_0, hi432_0⟩ := at_L1 HR0.out x7_2 p432 q432
                              cases e432
                              replace hx432_0 := (HB.out.cell (World.block_lt_of_cell? w _ hx432_0)).trans hx432_0
                              have HR432_0 := Aside0.mk hi432_0
                              have HC432_0 := Aside0.mk hl432_0
                              clear hi432_0 hl432_0
                              replace p432 := eq_true p432
                              replace q432 := eq_true q432
                              have p433 : 0 ≤ (x8_3 : Int) := of_decide_eq_true (by first | (with_reducible assumption) | assumption)
                              have q433 : x8_3 < (l1.length : Int) := of_decide_eq_true (by first | (with_reducible assumption) | assumption)
                              obtain ⟨ad433, A433_0, c433_0, e433, hx433_0, hl433_0, hi433_0⟩ := at_L1 HR1.out x8_3 p433 q433
                              cases e433
                              replace hx433_0 := (HB.out.cell (World.block_lt_of_cell? w _ hx433_0)).trans hx433_0
                              have HR433_0 := Aside0.mk hi433_0
                              have HC433_0 := Aside0.mk hl433_0
                              clear hi433_0 hl433_0
                              replace p433 := eq_true p433
                              replace q433 := eq_true q433
                              go_wp2_with (first | (go_at_call 76; (with_reducible refine (spec_l6lSame.calls k3 _ _ (rd_L1 l0 x7_2) _ _ (rd_L1 l1 x8_3) false _ ?side1 ?side2 ?side3 ?side4 A17.out).mono ?_); (case side1 => repeat (first | exact (Kd.C_below HR432_0.out HB.out) | (with_reducible refine Kd.C_alloc ?_ _) | (with_reducible refine Kd.C_drewN ?_ _) | (with_reducible refine Kd.C_drew ?_))); (case side2 => exact HC432_0.out); (case side3 => repeat (first | exact (Kd.C_below HR433_0.out HB.out) | (with_reducible refine Kd.C_alloc ?_ _) | (with_reducible refine Kd.C_drewN ?_ _) | (with_reducible refine Kd.C_drew ?_))); (case side4 => exact HC433_0.out); rintro e w' ⟨rfl, ⟨nd, rfl⟩⟩; (try first | exact ⟨rfl, _, World.drewN_drewN _ _ _⟩ | exact ⟨rfl, _, Eq.trans (World.drewN_drewN _ _ _) (congrArg (World.drewN _) (Nat.add_assoc _ _ _))⟩)))
                              repeat (go_quiet (first | (go_at_call 76; (with_reducible refine (spec_l6lSame.calls k3 _ _ (rd_L1 l0 x7_2) _ _ (rd_L1 l1 x8_3) false _ ?side1 ?side2 ?side3 ?side4 A17.out).mono ?_); (case side1 => repeat (first | exact (Kd.C_below HR432_0.out HB.out) | (with_reducible refine Kd.C_alloc ?_ _) | (with_reducible refine Kd.C_drewN ?_ _) | (with_reducible refine Kd.C_drew ?_))); (case side2 => exact HC432_0.out); (case side3 => repeat (first | exact (Kd.C_below HR433_0.out HB.out) | (with_reducible refine Kd.C_alloc ?_ _) | (with_reducible refine Kd.C_drewN ?_ _) | (with_reducible refine Kd.C_drew ?_))); (case side4 => exact HC433_0.out); rintro e w' ⟨rfl, ⟨nd, rfl⟩⟩; (try first | exact ⟨rfl, _, World.drewN_drewN _ _ _⟩ | exact ⟨rfl, _, Eq.trans (World.drewN_drewN _ _ _) (congrArg (World.drewN _) (Nat.add_assoc _ _ _))⟩))); try go_wp2_with (first | (go_at_call 76; (with_reducible refine (spec_l6lSame.calls k3 _ _ (rd_L1 l0 x7_2) _ _ (rd_L1 l1 x8_3) false _ ?side1 ?side2 ?side3 ?side4 A17.out).mono ?_); (case side1 => repeat (first | exact (Kd.C_below HR432_0.out HB.out) | (with_reducible refine Kd.C_alloc ?_ _) | (with_reducible refine Kd.C_drewN ?_ _) | (with_reducible refine Kd.C_drew ?_))); (case side2 => exact HC432_0.out); (case side3 => repeat (first | exact (Kd.C_below HR433_0.out HB.out) | (with_reducible refine Kd.C_alloc ?_ _) | (with_reducible refine Kd.C_drewN ?_ _) | (with_reducible refine Kd.C_drew ?_))); (case side4 => exact HC433_0.out); rintro e w' ⟨rfl, ⟨nd, rfl⟩⟩; (try first | exact ⟨rfl, _, World.drewN_drewN _ _ _⟩ | exact ⟨rfl, _, Eq.trans (World.drewN_drewN _ _ _) (congrArg (World.drewN _) (Nat.add_assoc _ _ _))⟩))))
                              go_roundg k3
                              case measure => have := HJ2.out; have := HK2.out; have := HK3.out; omega
                              case rel => exact ⟨(x6_3), (wrap64 (x8_3 + 1)), (by first | rfl | (simp; done) | (simp [*]; done)), (by first | rfl | (simp; done) | (simp [*]; done)), H', ⟨by have := HJ2.out; have := HK2.out; have := HK3.out; omega⟩, ⟨by repeat (first | (with_reducible first | exact HB.out | apply below_alloc | apply pw_below_drewN | apply below_drew1) | exact HB.out)⟩⟩
                          · rw [if_neg c16] at H
                            exact absurd H (by simp)
                        · rw [if_neg c15] at H
                          exact absurd H (by simp)
                      · rw [if_neg c14] at H
                        exact absurd H (by simp)
                    · rw [if_neg c13] at H
                      exact absurd H (by simp)
                  · rw [if_neg c12] at H
                    have c12b0 : decide (x8_3 < 10) = false := decide_eq_false c12
                    clear c12
                    have H' := Aside0.mk H
                    clear H
                    go_wp2
                    repeat (go_quiet (fail); try go_wp2)
                    go_roundg k3
                    case measure => have := HJ2.out; have := HK2.out; have := HK3.out; omega
                    case rel => exact ⟨(x6_3), (wrap64 (x7_2 + 1)), (by first | rfl | (simp; done) | (simp [*]; done)), (by first | rfl | (simp; done) | (simp [*]; done)), H', ⟨by have := HJ2.out; have := HK2.out; have := HK3.out; omega⟩, ⟨by repeat (first | (with_reducible first | exact HB.out | apply below_alloc | apply pw_below_drewN | apply below_drew1) | exact HB.out)⟩⟩
            · rw [if_neg c11] at H
              have c11b0 : decide (x7_2 < 10) = false := decide_eq_false c11
              clear c11
              simp only [Option.some.injEq, Prod.mk.injEq] at H
              obtain ⟨rfl, rfl⟩ := H
              go_wp2
              repeat (go_quiet (fail); try go_wp2)
              go_ret2
              exact ⟨by first | rfl | (simp [errW_none, errW_some] <;> rfl) | (simp [*, errW_none, errW_some] <;> rfl), by repeat (first | (with_reducible first | exact HB.out | apply below_alloc | apply pw_below_drewN | apply below_drew1) | exact HB.out)⟩

end Go.Proofs.Ytfoadgbffidgaaa.P

namespace Go.Proofs.Ytfoadgbffidgaaa.P
open Go.RowKit Go.Proofs.YtfoadgbffidgaaaW.PrintWords Go.Proofs.YtfoadgbffidgaaaW.PrintLast Go.Proofs.YtfoadgbffidgaaaW.PrintMore
attribute [local go_sem] max2_int min2_int max_two min_two max_three min_three max_four min_four   -- for this text's walks alone
set_option linter.unusedVariables false
set_option linter.unusedSimpArgs false

/-! ### laws_FnExactSpreadSame: function 8 -/
def laws_FnExactSpreadSame.j0 : Nat → List (List Int) → List (List Int) → List (List Int) → List (List Int) → Bool → Option (Bool)
  | 0, _, _, _, _, _ => none
  | k + 1, x0, x1, x8, x9, x47 => if x47 = true then (some false) else ((laws_toIntSS.f k x0).bind fun t458 => ((laws_eqIntSS.f k x8 t458).bind fun t461 => (if t461 = true then ((laws_toIntSS.f k x1).bind fun t462 => ((laws_eqIntSS.f k x9 t462).bind fun t465 => (if t465 = true then (some true) else (some false)))) else (some false))))
def laws_FnExactSpreadSame.f (k : Nat) (l0 : List (List Int)) (l1 : List (List Int)) : Option (Bool) := (laws_szIntSS.f k l0 1048576).bind fun t440 => (if t440 < 0 then (some true) else ((laws_szIntSS.f k l1 t440).bind fun t441 => (if t441 < 0 then (some true) else ((laws_toIntSS.f k l0).bind fun t442 => ((laws_toIntSS.f k l1).bind fun t445 => ((spec_SpreadSame.f k t442 t445).bind fun bt448 => ((laws_toIntSS.f k l0).bind fun t450 => ((laws_toIntSS.f k l1).bind fun t453 => ((impl_SpreadSame.f k t450 t453).bind fun bt456 => (if bt456.1 = bt448.1 then (laws_FnExactSpreadSame.j0 k l0 l1 t450 t453 (bt456.2 != bt448.2)) else (laws_FnExactSpreadSame.j0 k l0 l1 t450 t453 true)))))))))))
theorem laws_FnExactSpreadSame.mono_l : ∀ k, (∀ y0 y1 y2 y3 y4, LeO (laws_FnExactSpreadSame.j0 k y0 y1 y2 y3 y4) (laws_FnExactSpreadSame.j0 (k + 1) y0 y1 y2 y3 y4))
  | 0 => fun _ _ _ _ _ r h => by simp [laws_FnExactSpreadSame.j0] at h
  | k + 1 => by
    have ih0 := laws_FnExactSpreadSame.mono_l k
    · intro y0 y1 y2 y3 y4
      unfold laws_FnExactSpreadSame.j0
      repeat' first
      | (with_reducible exact ih0 _ _ _ _ _)
      | (with_reducible exact impl_SpreadSame.mono _ _ _)
      | (with_reducible exact laws_eqIntSS.mono _ _ _)
      | (with_reducible exact laws_szIntSS.mono _ _ _)
      | (with_reducible exact laws_toIntSS.mono _ _)
      | (with_reducible exact spec_SpreadSame.mono _ _ _)
      | (with_reducible exact LeO.refl _)
      | (with_reducible exact LeO.none _)
      | (with_reducible refine LeO.ite ?_ ?_)
      | (with_reducible refine LeO.bind ?_ (fun _ => ?_))
      | exact ih0 _ _ _ _ _
      | exact impl_SpreadSame.mono _ _ _
      | exact laws_eqIntSS.mono _ _ _
      | exact laws_szIntSS.mono _ _ _
      | exact laws_toIntSS.mono _ _
      | exact spec_SpreadSame.mono _ _ _
      | exact LeO.none _
      | refine LeO.ite ?_ ?_
      | refine LeO.bind ?_ (fun _ => ?_)
theorem laws_FnExactSpreadSame.mono : ∀ a0 a1 k, LeO (laws_FnExactSpreadSame.f k a0 a1) (laws_FnExactSpreadSame.f (k + 1) a0 a1) := by
  intro a0 a1 k
  have ih0 := laws_FnExactSpreadSame.mono_l k
  unfold laws_FnExactSpreadSame.f
  repeat' first
      | (with_reducible exact ih0 _ _ _ _ _)
      | (with_reducible exact impl_SpreadSame.mono _ _ _)
      | (with_reducible exact laws_eqIntSS.mono _ _ _)
      | (with_reducible exact laws_szIntSS.mono _ _ _)
      | (with_reducible exact laws_toIntSS.mono _ _)
      | (with_reducible exact spec_SpreadSame.mono _ _ _)
      | (with_reducible exact LeO.refl _)
      | (with_reducible exact LeO.none _)
      | (with_reducible refine LeO.ite ?_ ?_)
      | (with_reducible refine LeO.bind ?_ (fun _ => ?_))
      | exact ih0 _ _ _ _ _
      | exact impl_SpreadSame.mono _ _ _
      | exact laws_eqIntSS.mono _ _ _
      | exact laws_szIntSS.mono _ _ _
      | exact laws_toIntSS.mono _ _
      | exact spec_SpreadSame.mono _ _ _
      | exact LeO.none _
      | refine LeO.ite ?_ ?_
      | refine LeO.bind ?_ (fun _ => ?_)
set_option maxHeartbeats 8000000 in
set_option maxRecDepth 100000 in
theorem laws_FnExactSpreadSame.calls (k : Nat) (A0 : Option Addr) (c0 : Nat) (l0 : List (List Int)) (A1 : Option Addr) (c1 : Nat) (l1 : List (List Int)) (r : Bool) (w : World) (hr0 : Kd.C (Kd.slice 3 (Kd.int .i64)) w A0 l0.length l0) (hc0 : l0.length ≤ c0) (hr1 : Kd.C (Kd.slice 3 (Kd.int .i64)) w A1 l1.length l1) (hc1 : l1.length ≤ c1) (h : laws_FnExactSpreadSame.f k l0 l1 = some r) :
    Calls Try.prog 8 #[.slice A0 l0.length c0, .slice A1 l1.length c1] w fun e w' => e = .returned (.bool r) ∧ Below w.heap.size w w' := by
  have HR0 := Aside0.mk hr0
  have HC0 := Aside0.mk hc0
  clear hr0 hc0
  have HR1 := Aside0.mk hr1
  have HC1 := Aside0.mk hc1
  clear hr1 hc1
  have HB := Aside0.mk (Below.refl w.heap.size w)
  have H : ((laws_szIntSS.f k l0 1048576).bind fun t440 => (if t440 < 0 then (some true) else ((laws_szIntSS.f k l1 t440).bind fun t441 => (if t441 < 0 then (some true) else ((laws_toIntSS.f k l0).bind fun t442 => ((laws_toIntSS.f k l1).bind fun t445 => ((spec_SpreadSame.f k t442 t445).bind fun bt448 => ((laws_toIntSS.f k l0).bind fun t450 => ((laws_toIntSS.f k l1).bind fun t453 => ((impl_SpreadSame.f k t450 t453).bind fun bt456 => (if bt456.1 = bt448.1 then (laws_FnExactSpreadSame.j0 k l0 l1 t450 t453 (bt456.2 != bt448.2)) else (laws_FnExactSpreadSame.j0 k l0 l1 t450 t453 true)))))))))))) = some r := h
  clear h
  replace H := Option.bind_eq_some_iff.mp H
  obtain ⟨t440, A30, H⟩ := H
  replace H : (if t440 < 0 then (some true) else ((laws_szIntSS.f k l1 t440).bind fun t441 => (if t441 < 0 then (some true) else ((laws_toIntSS.f k l0).bind fun t442 => ((laws_toIntSS.f k l1).bind fun t445 => ((spec_SpreadSame.f k t442 t445).bind fun bt448 => ((laws_toIntSS.f k l0).bind fun t450 => ((laws_toIntSS.f k l1).bind fun t453 => ((impl_SpreadSame.f k t450 t453).bind fun bt456 => (if bt456.1 = bt448.1 then (laws_FnExactSpreadSame.j0 k l0 l1 t450 t453 (bt456.2 != bt448.2)) else (laws_FnExactSpreadSame.j0 k l0 l1 t450 t453 true))))))))))) = some r := H
  have A3 := Aside0.mk A30
  clear A30
  by_cases c4 : t440 < 0
  · rw [if_pos c4] at H
    have c4b0 : decide (t440 < 0) = true := decide_eq_true c4
    clear c4
    obtain rfl := Option.some.inj H
    go_enter Try.func8, Try.ntmps8
    go_wp2_with (first | ((with_reducible refine gate_callee (f := 15) rfl ?_); refine goesL_ (some 14) rfl rfl Try.func15 (by kernel_rfl) rfl #[.slice A0 l0.length c0, .int .i64 1048576] rfl (by (try simp only [List.map_toArray, List.map_cons, List.map_nil]); first | done | rfl | (simp only [List.length_drop, List.length_take]; rfl)) ?_; (with_reducible refine (laws_szIntSS.calls k _ _ l0 1048576 t440 _ ?side1 ?side2 A3.out).mono ?_); (case side1 => repeat (first | exact HR0.out | (with_reducible refine Kd.C_alloc ?_ _) | (with_reducible refine Kd.C_drewN ?_ _) | (with_reducible refine Kd.C_drew ?_))); (case side2 => exact HC0.out); rintro e w' ⟨rfl, ⟨nd, rfl⟩⟩; refine ⟨_, rfl, ?_⟩))
    go_ret
    exact ⟨by first | rfl | (simp [errW_none, errW_some] <;> rfl) | (simp [*, errW_none, errW_some] <;> rfl), by repeat (first | (with_reducible first | exact HB.out | apply below_alloc | apply pw_below_drewN | apply below_drew1) | exact HB.out)⟩
  · rw [if_neg c4] at H
    have c4b0 : decide (t440 < 0) = false := decide_eq_false c4
    clear c4
    replace H := Option.bind_eq_some_iff.mp H
    obtain ⟨t441, A50, H⟩ := H
    replace H : (if t441 < 0 then (some true) else ((laws_toIntSS.f k l0).bind fun t442 => ((laws_toIntSS.f k l1).bind fun t445 => ((spec_SpreadSame.f k t442 t445).bind fun bt448 => ((laws_toIntSS.f k l0).bind fun t450 => ((laws_toIntSS.f k l1).bind fun t453 => ((impl_SpreadSame.f k t450 t453).bind fun bt456 => (if bt456.1 = bt448.1 then (laws_FnExactSpreadSame.j0 k l0 l1 t450 t453 (bt456.2 != bt448.2)) else (laws_FnExactSpreadSame.j0 k l0 l1 t450 t453 true))))))))) = some r := H
    have A5 := Aside0.mk A50
    clear A50
    by_cases c6 : t441 < 0
    · rw [if_pos c6] at H
      have c6b0 : decide (t441 < 0) = true := decide_eq_true c6
      clear c6
      obtain rfl := Option.some.inj H
      go_enter Try.func8, Try.ntmps8
      go_wp2_with (first | ((with_reducible refine gate_callee (f := 15) rfl ?_); refine goesL_ (some 14) rfl rfl Try.func15 (by kernel_rfl) rfl #[.slice A0 l0.length c0, .int .i64 1048576] rfl (by (try simp only [List.map_toArray, List.map_cons, List.map_nil]); first | done | rfl | (simp only [List.length_drop, List.length_take]; rfl)) ?_; (with_reducible refine (laws_szIntSS.calls k _ _ l0 1048576 t440 _ ?side1 ?side2 A3.out).mono ?_); (case side1 => repeat (first | exact HR0.out | (with_reducible refine Kd.C_alloc ?_ _) | (with_reducible refine Kd.C_drewN ?_ _) | (with_reducible refine Kd.C_drew ?_))); (case side2 => exact HC0.out); rintro e w' ⟨rfl, ⟨nd, rfl⟩⟩; refine ⟨_, rfl, ?_⟩) | ((with_reducible refine gate_callee (f := 15) rfl ?_); refine goesL_ (some 19) rfl rfl Try.func15 (by kernel_rfl) rfl #[.slice A1 l1.length c1, .int .i64 t440] rfl (by (try simp only [List.map_toArray, List.map_cons, List.map_nil]); first | done | rfl | (simp only [List.length_drop, List.length_take]; rfl)) ?_; (with_reducible refine (laws_szIntSS.calls k _ _ l1 t440 t441 _ ?side1 ?side2 A5.out).mono ?_); (case side1 => repeat (first | exact HR1.out | (with_reducible refine Kd.C_alloc ?_ _) | (with_reducible refine Kd.C_drewN ?_ _) | (with_reducible refine Kd.C_drew ?_))); (case side2 => exact HC1.out); rintro e w' ⟨rfl, ⟨nd, rfl⟩⟩; refine ⟨_, rfl, ?_⟩))
      go_ret
      exact ⟨by first | rfl | (simp [errW_none, errW_some] <;> rfl) | (simp [*, errW_none, errW_some] <;> rfl), by repeat (first | (with_reducible first | exact HB.out | apply below_alloc | apply pw_below_drewN | apply below_drew1) | exact HB.out)⟩
    · rw [if_neg c6] at H
      have c6b0 : decide (t441 < 0) = false := decide_eq_false c6
      clear c6
      replace H := Option.bind_eq_some_iff.mp H
      obtain ⟨t442, A70, H⟩ := H
      replace H : ((laws_toIntSS.f k l1).bind fun t445 => ((spec_SpreadSame.f k t442 t445).bind fun bt448 => ((laws_toIntSS.f k l0).bind fun t450 => ((laws_toIntSS.f k l1).bind fun t453 => ((impl_SpreadSame.f k t450 t453).bind fun bt456 => (if bt456.1 = bt448.1 then (laws_FnExactSpreadSame.j0 k l0 l1 t450 t453 (bt456.2 != bt448.2)) else (laws_FnExactSpreadSame.j0 k l0 l1 t450 t453 true))))))) = some r := H
      have A7 := Aside0.mk A70
      clear A70
      replace H := Option.bind_eq_some_iff.mp H
      obtain ⟨t445, A80, H⟩ := H
      replace H : ((spec_SpreadSame.f k t442 t445).bind fun bt448 => ((laws_toIntSS.f k l0).bind fun t450 => ((laws_toIntSS.f k l1).bind fun t453 => ((impl_SpreadSame.f k t450 t453).bind fun bt456 => (if bt456.1 = bt448.1 then (laws_FnExactSpreadSame.j0 k l0 l1 t450 t453 (bt456.2 != bt448.2)) else (laws_FnExactSpreadSame.j0 k l0 l1 t450 t453 true)))))) = some r := H
      have A8 := Aside0.mk A80
      clear A80
      replace H := Option.bind_eq_some_iff.mp H
      obtain ⟨⟨t448, t449⟩, A90, H⟩ := H
      replace H : ((laws_toIntSS.f k l0).bind fun t450 => ((laws_toIntSS.f k l1).bind fun t453 => ((impl_SpreadSame.f k t450 t453).bind fun bt456 => (if bt456.1 = t448 then (laws_FnExactSpreadSame.j0 k l0 l1 t450 t453 (bt456.2 != t449)) else (laws_FnExactSpreadSame.j0 k l0 l1 t450 t453 true))))) = some r := H
      have A9 := Aside0.mk A90
      clear A90
      replace H := Option.bind_eq_some_iff.mp H
      obtain ⟨t450, A100, H⟩ := H
      replace H : ((laws_toIntSS.f k l1).bind fun t453 => ((impl_SpreadSame.f k t450 t453).bind fun bt456 => (if bt456.1 = t448 then (laws_FnExactSpreadSame.j0 k l0 l1 t450 t453 (bt456.2 != t449)) else (laws_FnExactSpreadSame.j0 k l0 l1 t450 t453 true)))) = some r := H
      have A10 := Aside0.mk A100
      clear A100
      replace H := Option.bind_eq_some_iff.mp H
      obtain ⟨t453, A110, H⟩ := H
      replace H : ((impl_SpreadSame.f k t450 t453).bind fun bt456 => (if bt456.1 = t448 then (laws_FnExactSpreadSame.j0 k l0 l1 t450 t453 (bt456.2 != t449)) else (laws_FnExactSpreadSame.j0 k l0 l1 t450 t453 true))) = some r := H
      have A11 := Aside0.mk A110
      clear A110
      replace H := Option.bind_eq_some_iff.mp H
      obtain ⟨⟨t456, t457⟩, A120, H⟩ := H
      replace H : (if t456 = t448 then (laws_FnExactSpreadSame.j0 k l0 l1 t450 t453 (t457 != t449)) else (laws_FnExactSpreadSame.j0 k l0 l1 t450 t453 true)) = some r := H
      have A12 := Aside0.mk A120
      clear A120
      have HC13 := Aside0.mk H
      clear H
      go_enter Try.func8, Try.ntmps8
      go_upto_region 12 with (first | ((with_reducible refine gate_callee (f := 15) rfl ?_); refine goesL_ (some 14) rfl rfl Try.func15 (by kernel_rfl) rfl #[.slice A0 l0.length c0, .int .i64 1048576] rfl (by (try simp only [List.map_toArray, List.map_cons, List.map_nil]); first | done | rfl | (simp only [List.length_drop, List.length_take]; rfl)) ?_; (with_reducible refine (laws_szIntSS.calls k _ _ l0 1048576 t440 _ ?side1 ?side2 A3.out).mono ?_); (case side1 => repeat (first | exact HR0.out | (with_reducible refine Kd.C_alloc ?_ _) | (with_reducible refine Kd.C_drewN ?_ _) | (with_reducible refine Kd.C_drew ?_))); (case side2 => exact HC0.out); rintro e w' ⟨rfl, ⟨nd, rfl⟩⟩; refine ⟨_, rfl, ?_⟩) | ((with_reducible refine gate_callee (f := 15) rfl ?_); refine goesL_ (some 19) rfl rfl Try.func15 (by kernel_rfl) rfl #[.slice A1 l1.length c1, .int .i64 t440] rfl (by (try simp only [List.map_toArray, List.map_cons, List.map_nil]); first | done | rfl | (simp only [List.length_drop, List.length_take]; rfl)) ?_; (with_reducible refine (laws_szIntSS.calls k _ _ l1 t440 t441 _ ?side1 ?side2 A5.out).mono ?_); (case side1 => repeat (first | exact HR1.out | (with_reducible refine Kd.C_alloc ?_ _) | (with_reducible refine Kd.C_drewN ?_ _) | (with_reducible refine Kd.C_drew ?_))); (case side2 => exact HC1.out); rintro e w' ⟨rfl, ⟨nd, rfl⟩⟩; refine ⟨_, rfl, ?_⟩) | ((with_reducible refine gate_callee (f := 17) rfl ?_); refine goesL_ (some 24) rfl rfl Try.func17 (by kernel_rfl) rfl #[.slice A0 l0.length c0] rfl (by (try simp only [List.map_toArray, List.map_cons, List.map_nil]); first | done | rfl | (simp only [List.length_drop, List.length_take]; rfl)) ?_; (with_reducible refine (laws_toIntSS.calls k _ _ l0 t442 _ ?side1 ?side2 A7.out).mono ?_); (case side1 => repeat (first | exact HR0.out | (with_reducible refine Kd.C_alloc ?_ _) | (with_reducible refine Kd.C_drewN ?_ _) | (with_reducible refine Kd.C_drew ?_))); (case side2 => exact HC0.out); rintro e w14 ⟨v443, rfl, ho0, hb⟩; refine ⟨_, rfl, ?_⟩; have n0_ := Aside0.mk (Kd.S_lower ho0 (below_size (by repeat (first | (with_reducible first | exact HB.out | apply below_alloc | apply pw_below_drewN | apply below_drew1) | exact HB.out)))); have n1_ := Aside0.mk (below_step (by repeat (first | (with_reducible first | exact HB.out | apply below_alloc | apply pw_below_drewN | apply below_drew1) | exact HB.out)) hb); clear HB; have HO444 := n0_; have HB := n1_; clear n0_ n1_; (try clear hb); (try clear hb2); (try clear hk); (try clear hi); (try clear ho0)) | ((with_reducible refine gate_callee (f := 17) rfl ?_); refine goesL_ (some 26) rfl rfl Try.func17 (by kernel_rfl) rfl #[.slice A1 l1.length c1] rfl (by (try simp only [List.map_toArray, List.map_cons, List.map_nil]); first | done | rfl | (simp only [List.length_drop, List.length_take]; rfl)) ?_; (with_reducible refine (laws_toIntSS.calls k _ _ l1 t445 _ ?side1 ?side2 A8.out).mono ?_); (case side1 => repeat (first | exact (Kd.C_below HR1.out HB.out) | (with_reducible refine Kd.C_alloc ?_ _) | (with_reducible refine Kd.C_drewN ?_ _) | (with_reducible refine Kd.C_drew ?_))); (case side2 => exact HC1.out); rintro e w15 ⟨v446, rfl, ho0, hb⟩; refine ⟨_, rfl, ?_⟩; have n0_ := Aside0.mk (Kd.S_elder' (by (with_reducible repeat (first | apply Kd.S_alloc | apply Kd.S_drewN | apply Kd.S_drew)); exact HO444.out) (Kd.S_base ho0) hb); have n1_ := Aside0.mk (Kd.S_lower (Kd.S_new' ho0 (Kd.S_lt (by (with_reducible repeat (first | apply Kd.S_alloc | apply Kd.S_drewN | apply Kd.S_drew)); exact HO444.out))) (below_size (by repeat (first | (with_reducible first | exact HB.out | apply below_alloc | apply pw_below_drewN | apply below_drew1) | exact HB.out)))); have n2_ := Aside0.mk (below_step (by repeat (first | (with_reducible first | exact HB.out | apply below_alloc | apply pw_below_drewN | apply below_drew1) | exact HB.out)) hb); clear HO444; clear HB; have HO444 := n0_; have HO447 := n1_; have HB := n2_; clear n0_ n1_ n2_; (try clear hb); (try clear hb2); (try clear hk); (try clear hi); (try clear ho0); obtain ⟨Ao16, co16, eo16⟩ := Kd.S_slice HO444.out; subst eo16; obtain ⟨Ao17, co17, eo17⟩ := Kd.S_slice HO447.out; subst eo17) | ((with_reducible refine gate_callee (f := 36) rfl ?_); refine goesL_ (some 27) rfl rfl Try.func36 (by kernel_rfl) rfl #[.slice Ao16 t442.length co16, .slice Ao17 t445.length co17] rfl (by (try simp only [List.map_toArray, List.map_cons, List.map_nil]); first | done | rfl | (simp only [List.length_drop, List.length_take]; rfl)) ?_; (with_reducible refine (spec_SpreadSame.calls k _ _ t442 _ _ t445 t448 t449 _ ?side1 ?side2 ?side3 ?side4 A9.out).mono ?_); (case side1 => repeat (first | exact (Kd.S_reads' HO444.out).2.2 | (with_reducible refine Kd.C_alloc ?_ _) | (with_reducible refine Kd.C_drewN ?_ _) | (with_reducible refine Kd.C_drew ?_))); (case side2 => exact (Kd.S_reads' HO444.out).2.1); (case side3 => repeat (first | exact (Kd.S_reads' HO447.out).2.2 | (with_reducible refine Kd.C_alloc ?_ _) | (with_reducible refine Kd.C_drewN ?_ _) | (with_reducible refine Kd.C_drew ?_))); (case side4 => exact (Kd.S_reads' HO447.out).2.1); rintro e w18 ⟨rfl, hb⟩; refine ⟨_, rfl, ?_⟩; have n0_ := Aside0.mk (Kd.S_below (by (with_reducible repeat (first | apply Kd.S_alloc | apply Kd.S_drewN | apply Kd.S_drew)); exact HO444.out) hb); have n1_ := Aside0.mk (Kd.S_below (by (with_reducible repeat (first | apply Kd.S_alloc | apply Kd.S_drewN | apply Kd.S_drew)); exact HO447.out) hb); have n2_ := Aside0.mk (below_step (by repeat (first | (with_reducible first | exact HB.out | apply below_alloc | apply pw_below_drewN | apply below_drew1) | exact HB.out)) hb); clear HO444; clear HO447; clear HB; have HO444 := n0_; have HO447 := n1_; have HB := n2_; clear n0_ n1_ n2_; (try clear hb); (try clear hb2); (try clear hk); (try clear hi)) | ((with_reducible refine gate_callee (f := 17) rfl ?_); refine goesL_ (some 31) rfl rfl Try.func17 (by kernel_rfl) rfl #[.slice A0 l0.length c0] rfl (by (try simp only [List.map_toArray, List.map_cons, List.map_nil]); first | done | rfl | (simp only [List.length_drop, List.length_take]; rfl)) ?_; (with_reducible refine (laws_toIntSS.calls k _ _ l0 t450 _ ?side1 ?side2 A10.out).mono ?_); (case side1 => repeat (first | exact (Kd.C_below HR0.out HB.out) | (with_reducible refine Kd.C_alloc ?_ _) | (with_reducible refine Kd.C_drewN ?_ _) | (with_reducible refine Kd.C_drew ?_))); (case side2 => exact HC0.out); rintro e w19 ⟨v451, rfl, ho0, hb⟩; refine ⟨_, rfl, ?_⟩; have n0_ := Aside0.mk (Kd.S_elder' (by (with_reducible repeat (first | apply Kd.S_alloc | apply Kd.S_drewN | apply Kd.S_drew)); exact HO444.out) (Kd.S_base ho0) hb); have n1_ := Aside0.mk (Kd.S_elder' (by (with_reducible repeat (first | apply Kd.S_alloc | apply Kd.S_drewN | apply Kd.S_drew)); exact HO447.out) (Kd.S_base ho0) hb); have n2_ := Aside0.mk (Kd.S_lower (Kd.S_new' (Kd.S_new' ho0 (Kd.S_lt (by (with_reducible repeat (first | apply Kd.S_alloc | apply Kd.S_drewN | apply Kd.S_drew)); exact HO444.out))) (Kd.S_lt (by (with_reducible repeat (first | apply Kd.S_alloc | apply Kd.S_drewN | apply Kd.S_drew)); exact HO447.out))) (below_size (by repeat (first | (with_reducible first | exact HB.out | apply below_alloc | apply pw_below_drewN | apply below_drew1) | exact HB.out)))); have n3_ := Aside0.mk (below_step (by repeat (first | (with_reducible first | exact HB.out | apply below_alloc | apply pw_below_drewN | apply below_drew1) | exact HB.out)) hb); clear HO444; clear HO447; clear HB; have HO444 := n0_; have HO447 := n1_; have HO452 := n2_; have HB := n3_; clear n0_ n1_ n2_ n3_; (try clear hb); (try clear hb2); (try clear hk); (try clear hi); (try clear ho0)) | ((with_reducible refine gate_callee (f := 17) rfl ?_); refine goesL_ (some 33) rfl rfl Try.func17 (by kernel_rfl) rfl #[.slice A1 l1.length c1] rfl (by (try simp only [List.map_toArray, List.map_cons, List.map_nil]); first | done | rfl | (simp only [List.length_drop, List.length_take]; rfl)) ?_; (with_reducible refine (laws_toIntSS.calls k _ _ l1 t453 _ ?side1 ?side2 A11.out).mono ?_); (case side1 => repeat (first | exact (Kd.C_below HR1.out HB.out) | (with_reducible refine Kd.C_alloc ?_ _) | (with_reducible refine Kd.C_drewN ?_ _) | (with_reducible refine Kd.C_drew ?_))); (case side2 => exact HC1.out); rintro e w20 ⟨v454, rfl, ho0, hb⟩; refine ⟨_, rfl, ?_⟩; have n0_ := Aside0.mk (Kd.S_elder' (by (with_reducible repeat (first | apply Kd.S_alloc | apply Kd.S_drewN | apply Kd.S_drew)); exact HO444.out) (Kd.S_base ho0) hb); have n1_ := Aside0.mk (Kd.S_elder' (by (with_reducible repeat (first | apply Kd.S_alloc | apply Kd.S_drewN | apply Kd.S_drew)); exact HO447.out) (Kd.S_base ho0) hb); have n2_ := Aside0.mk (Kd.S_elder' (by (with_reducible repeat (first | apply Kd.S_alloc | apply Kd.S_drewN | apply Kd.S_drew)); exact HO452.out) (Kd.S_base ho0) hb); have n3_ := Aside0.mk (Kd.S_lower (Kd.S_new' (Kd.S_new' (Kd.S_new' ho0 (Kd.S_lt (by (with_reducible repeat (first | apply Kd.S_alloc | apply Kd.S_drewN | apply Kd.S_drew)); exact HO444.out))) (Kd.S_lt (by (with_reducible repeat (first | apply Kd.S_alloc | apply Kd.S_drewN | apply Kd.S_drew)); exact HO447.out))) (Kd.S_lt (by (with_reducible repeat (first | apply Kd.S_alloc | apply Kd.S_drewN | apply Kd.S_drew)); exact HO452.out))) (below_size (by repeat (first | (with_reducible first | exact HB.out | apply below_alloc | apply pw_below_drewN | apply below_drew1) | exact HB.out)))); have n4_ := Aside0.mk (below_step (by repeat (first | (with_reducible first | exact HB.out | apply below_alloc | apply pw_below_drewN | apply below_drew1) | exact HB.out)) hb); clear HO444; clear HO447; clear HO452; clear HB; have HO444 := n0_; have HO447 := n1_; have HO452 := n2_; have HO455 := n3_; have HB := n4_; clear n0_ n1_ n2_ n3_ n4_; (try clear hb); (try clear hb2); (try clear hk); (try clear hi); (try clear ho0); obtain ⟨Ao21, co21, eo21⟩ := Kd.S_slice HO452.out; subst eo21; obtain ⟨Ao22, co22, eo22⟩ := Kd.S_slice HO455.out; subst eo22) | ((with_reducible refine gate_callee (f := 37) rfl ?_); refine goesL_ (some 37) rfl rfl Try.func37 (by kernel_rfl) rfl #[.slice Ao21 t450.length co21, .slice Ao22 t453.length co22] rfl (by (try simp only [List.map_toArray, List.map_cons, List.map_nil]); first | done | rfl | (simp only [List.length_drop, List.length_take]; rfl)) ?_; (with_reducible refine (impl_SpreadSame.calls k _ _ t450 _ _ t453 t456 t457 _ ?side1 ?side2 ?side3 ?side4 A12.out).mono ?_); (case side1 => repeat (first | exact (Kd.S_reads' HO452.out).2.2 | (with_reducible refine Kd.C_alloc ?_ _) | (with_reducible refine Kd.C_drewN ?_ _) | (with_reducible refine Kd.C_drew ?_))); (case side2 => exact (Kd.S_reads' HO452.out).2.1); (case side3 => repeat (first | exact (Kd.S_reads' HO455.out).2.2 | (with_reducible refine Kd.C_alloc ?_ _) | (with_reducible refine Kd.C_drewN ?_ _) | (with_reducible refine Kd.C_drew ?_))); (case side4 => exact (Kd.S_reads' HO455.out).2.1); rintro e w23 ⟨rfl, hb⟩; refine ⟨_, rfl, ?_⟩; have n0_ := Aside0.mk (Kd.S_below (by (with_reducible repeat (first | apply Kd.S_alloc | apply Kd.S_drewN | apply Kd.S_drew)); exact HO444.out) hb); have n1_ := Aside0.mk (Kd.S_below (by (with_reducible repeat (first | apply Kd.S_alloc | apply Kd.S_drewN | apply Kd.S_drew)); exact HO447.out) hb); have n2_ := Aside0.mk (Kd.S_below (by (with_reducible repeat (first | apply Kd.S_alloc | apply Kd.S_drewN | apply Kd.S_drew)); exact HO452.out) hb); have n3_ := Aside0.mk (Kd.S_below (by (with_reducible repeat (first | apply Kd.S_alloc | apply Kd.S_drewN | apply Kd.S_drew)); exact HO455.out) hb); have n4_ := Aside0.mk (below_step (by repeat (first | (with_reducible first | exact HB.out | apply below_alloc | apply pw_below_drewN | apply below_drew1) | exact HB.out)) hb); clear HO444; clear HO447; clear HO452; clear HO455; clear HB; have HO444 := n0_; have HO447 := n1_; have HO452 := n2_; have HO455 := n3_; have HB := n4_; clear n0_ n1_ n2_ n3_ n4_; (try clear hb); (try clear hb2); (try clear hk); (try clear hi)))
      (try simp only [Act.put, List.setIfInBounds_toArray, List.set_cons_zero, List.set_cons_succ])
      go_cut [47] (fun v47 wc => ∃ (kq : Nat) (x47_12 : Bool), v47 = .bool x47_12 ∧ Aside0 (laws_FnExactSpreadSame.j0 kq l0 l1 t450 t453 x47_12 = some r) ∧ Aside0 (kq ≤ k) ∧ Aside0 (Kd.S (Kd.slice 3 (Kd.int .i64)) 27 wc w.heap.size (fun k_ => some k_ ≠ ((.slice Ao22 t453.length co22) : Value).ownBlock) (.slice Ao21 t450.length co21) t450) ∧ Aside0 (Kd.S (Kd.slice 3 (Kd.int .i64)) 27 wc w.heap.size (fun k_ => some k_ ≠ ((.slice Ao21 t450.length co21) : Value).ownBlock) (.slice Ao22 t453.length co22) t453) ∧ Aside0 (Below w.heap.size w wc))
      case first =>
        have H := HC13.out
        clear HC13
        by_cases c24 : t456 = t448
        · rw [if_pos c24] at H
          have c24b0 : (t456 == t448) = true := beq_iff_eq.mpr c24
          have c24b1 : (t456 != t448) = false := bne_eq_false_iff_eq.mpr c24
          clear c24
          (first | rw [c24b0] | (simp only [i64_w, i32_w]; rw [c24b0]) | skip)
          have H' := Aside0.mk H
          clear H
          go_wp2
          go_meet
          case rel => exact ⟨_, ((t457 != t449)), (by first | rfl | (simp; done) | (simp [*]; done)), H', ⟨by first | omega | exact Nat.le_refl _⟩, ⟨by (with_reducible repeat (first | apply Kd.S_alloc | apply Kd.S_drewN | apply Kd.S_drew)); exact Kd.S_mono HO452.out (fun _ hk => hk.2)⟩, ⟨by (with_reducible repeat (first | apply Kd.S_alloc | apply Kd.S_drewN | apply Kd.S_drew)); exact Kd.S_mono HO455.out (fun _ hk => hk.2)⟩, ⟨by repeat (first | (with_reducible first | exact HB.out | apply below_alloc | apply pw_below_drewN | apply below_drew1) | exact HB.out)⟩⟩
        · rw [if_neg c24] at H
          have c24b0 : (t456 == t448) = false := beq_eq_false_iff_ne.mpr c24
          have c24b1 : (t456 != t448) = true := bne_iff_ne.mpr c24
          (first | rw [c24b0] | (simp only [i64_w, i32_w]; rw [c24b0]) | skip)
          have H' := Aside0.mk H
          clear H
          go_wp2
          go_meet
          case rel => exact ⟨_, (true), (by first | rfl | (simp; done) | (simp [*]; done)), H', ⟨by first | omega | exact Nat.le_refl _⟩, ⟨by (with_reducible repeat (first | apply Kd.S_alloc | apply Kd.S_drewN | apply Kd.S_drew)); exact Kd.S_mono HO452.out (fun _ hk => hk.2)⟩, ⟨by (with_reducible repeat (first | apply Kd.S_alloc | apply Kd.S_drewN | apply Kd.S_drew)); exact Kd.S_mono HO455.out (fun _ hk => hk.2)⟩, ⟨by repeat (first | (with_reducible first | exact HB.out | apply below_alloc | apply pw_below_drewN | apply below_drew1) | exact HB.out)⟩⟩
      case rest =>
        clear HC13
        try clear c1
        try clear c2
        try clear p2
        try clear c3
        try clear c4
        try clear c4b0
        try clear c6
        try clear c6b0
        try clear c8
        try clear c15
        try clear c17
        try clear c24
        try clear c24b0
        try clear c24b1
        obtain ⟨kq, x47_12, rfl, HA, HJ12, HO_8, HO_9, HB⟩ := hcut
        cases kq with
        | zero => exact absurd HA.out (by simp [laws_FnExactSpreadSame.j0])
        | succ kj12 =>
          have H := HA.out
          clear HA
          simp only [laws_FnExactSpreadSame.j0] at H
          by_cases c25 : x47_12 = true
          · subst c25
            have H1 : (some false) = some r := by rw [if_pos rfl] at H; exact H
            clear H
            have H := H1
            clear H1
            obtain rfl := Option.some.inj H
            go_wp2
            go_ret
            exact ⟨by first | rfl | (simp [errW_none, errW_some] <;> rfl) | (simp [*, errW_none, errW_some] <;> rfl), by repeat (first | (with_reducible first | exact HB.out | apply below_alloc | apply pw_below_drewN | apply below_drew1) | exact HB.out)⟩
          · replace c25 := Bool.eq_false_iff.mpr c25
            subst c25
            have H1 : ((laws_toIntSS.f kj12 l0).bind fun t458 => ((laws_eqIntSS.f kj12 t450 t458).bind fun t461 => (if t461 = true then ((laws_toIntSS.f kj12 l1).bind fun t462 => ((laws_eqIntSS.f kj12 t453 t462).bind fun t465 => (if t465 = true then (some true) else (some false)))) else (some false)))) = some r := by rw [if_neg (show ¬ (false = true) by decide)] at H; exact H
            clear H
            have H := H1
            clear H1
            replace H := Option.bind_eq_some_iff.mp H
            obtain ⟨t458, A260, H⟩ := H
            replace H : ((laws_eqIntSS.f kj12 t450 t458).bind fun t461 => (if t461 = true then ((laws_toIntSS.f kj12 l1).bind fun t462 => ((laws_eqIntSS.f kj12 t453 t462).bind fun t465 => (if t465 = true then (some true) else (some false)))) else (some false))) = some r := H
            have A26 := Aside0.mk A260
            clear A260
            replace H := Option.bind_eq_some_iff.mp H
            obtain ⟨t461, A270, H⟩ := H
            replace H : (if t461 = true then ((laws_toIntSS.f kj12 l1).bind fun t462 => ((laws_eqIntSS.f kj12 t453 t462).bind fun t465 => (if t465 = true then (some true) else (some false)))) else (some false)) = some r := H
            have A27 := Aside0.mk A270
            clear A270
            by_cases c28 : t461 = true
            · subst c28
              have H1 : ((laws_toIntSS.f kj12 l1).bind fun t462 => ((laws_eqIntSS.f kj12 t453 t462).bind fun t465 => (if t465 = true then (some true) else (some false)))) = some r := by rw [if_pos rfl] at H; exact H
              clear H
              have H := H1
              clear H1
              replace H := Option.bind_eq_some_iff.mp H
              obtain ⟨t462, A290, H⟩ := H
              replace H : ((laws_eqIntSS.f kj12 t453 t462).bind fun t465 => (if t465 = true then (some true) else (some false))) = some r := H
              have A29 := Aside0.mk A290
              clear A290
              replace H := Option.bind_eq_some_iff.mp H
              obtain ⟨t465, A300, H⟩ := H
              replace H : (if t465 = true then (some true) else (some false)) = some r := H
              have A30 := Aside0.mk A300
              clear A300
              by_cases c31 : t465 = true
              · subst c31
                have H1 : (some true) = some r := by rw [if_pos rfl] at H; exact H
                clear H
                have H := H1
                clear H1
                obtain rfl := Option.some.inj H
                go_wp2_with (first | ((with_reducible refine gate_callee (f := 17) rfl ?_); refine goesL_ (some 50) rfl rfl Try.func17 (by kernel_rfl) rfl #[.slice A0 l0.length c0] rfl (by (try simp only [List.map_toArray, List.map_cons, List.map_nil]); first | done | rfl | (simp only [List.length_drop, List.length_take]; rfl)) ?_; (with_reducible refine (laws_toIntSS.calls kj12 _ _ l0 t458 _ ?side1 ?side2 A26.out).mono ?_); (case side1 => repeat (first | exact (Kd.C_below HR0.out HB.out) | (with_reducible refine Kd.C_alloc ?_ _) | (with_reducible refine Kd.C_drewN ?_ _) | (with_reducible refine Kd.C_drew ?_))); (case side2 => exact HC0.out); rintro e w32 ⟨v459, rfl, ho0, hb⟩; refine ⟨_, rfl, ?_⟩; have n0_ := Aside0.mk (Kd.S_elder' (by (with_reducible repeat (first | apply Kd.S_alloc | apply Kd.S_drewN | apply Kd.S_drew)); exact HO_8.out) (Kd.S_base ho0) hb); have n1_ := Aside0.mk (Kd.S_elder' (by (with_reducible repeat (first | apply Kd.S_alloc | apply Kd.S_drewN | apply Kd.S_drew)); exact HO_9.out) (Kd.S_base ho0) hb); have n2_ := Aside0.mk (Kd.S_lower (Kd.S_new' (Kd.S_new' ho0 (Kd.S_lt (by (with_reducible repeat (first | apply Kd.S_alloc | apply Kd.S_drewN | apply Kd.S_drew)); exact HO_8.out))) (Kd.S_lt (by (with_reducible repeat (first | apply Kd.S_alloc | apply Kd.S_drewN | apply Kd.S_drew)); exact HO_9.out))) (below_size (by repeat (first | (with_reducible first | exact HB.out | apply below_alloc | apply pw_below_drewN | apply below_drew1) | exact HB.out)))); have n3_ := Aside0.mk (below_step (by repeat (first | (with_reducible first | exact HB.out | apply below_alloc | apply pw_below_drewN | apply below_drew1) | exact HB.out)) hb); clear HO_8; clear HO_9; clear HB; have HO_8 := n0_; have HO_9 := n1_; have HO460 := n2_; have HB := n3_; clear n0_ n1_ n2_ n3_; (try clear hb); (try clear hb2); (try clear hk); (try clear hi); (try clear ho0); obtain ⟨Ao33, co33, eo33⟩ := Kd.S_slice HO460.out; subst eo33) | ((with_reducible refine gate_callee (f := 19) rfl ?_); refine goesL_ (some 51) rfl rfl Try.func19 (by kernel_rfl) rfl #[.slice Ao21 t450.length co21, .slice Ao33 t458.length co33] rfl (by (try simp only [List.map_toArray, List.map_cons, List.map_nil]); first | done | rfl | (simp only [List.length_drop, List.length_take]; rfl)) ?_; (with_reducible refine (laws_eqIntSS.calls kj12 _ _ t450 _ _ t458 true _ ?side1 ?side2 ?side3 ?side4 A27.out).mono ?_); (case side1 => repeat (first | exact (Kd.S_reads' HO_8.out).2.2 | (with_reducible refine Kd.C_alloc ?_ _) | (with_reducible refine Kd.C_drewN ?_ _) | (with_reducible refine Kd.C_drew ?_))); (case side2 => exact (Kd.S_reads' HO_8.out).2.1); (case side3 => repeat (first | exact (Kd.S_reads' HO460.out).2.2 | (with_reducible refine Kd.C_alloc ?_ _) | (with_reducible refine Kd.C_drewN ?_ _) | (with_reducible refine Kd.C_drew ?_))); (case side4 => exact (Kd.S_reads' HO460.out).2.1); rintro e w' ⟨rfl, ⟨nd, rfl⟩⟩; refine ⟨_, rfl, ?_⟩) | ((with_reducible refine gate_callee (f := 17) rfl ?_); refine goesL_ (some 55) rfl rfl Try.func17 (by kernel_rfl) rfl #[.slice A1 l1.length c1] rfl (by (try simp only [List.map_toArray, List.map_cons, List.map_nil]); first | done | rfl | (simp only [List.length_drop, List.length_take]; rfl)) ?_; (with_reducible refine (laws_toIntSS.calls kj12 _ _ l1 t462 _ ?side1 ?side2 A29.out).mono ?_); (case side1 => repeat (first | exact (Kd.C_below HR1.out (by repeat (first | (with_reducible first | exact HB.out | apply below_alloc | apply pw_below_drewN | apply below_drew1) | exact HB.out))) | (with_reducible refine Kd.C_alloc ?_ _) | (with_reducible refine Kd.C_drewN ?_ _) | (with_reducible refine Kd.C_drew ?_))); (case side2 => exact HC1.out); rintro e w34 ⟨v463, rfl, ho0, hb⟩; refine ⟨_, rfl, ?_⟩; have n0_ := Aside0.mk (Kd.S_elder' (by (with_reducible repeat (first | apply Kd.S_alloc | apply Kd.S_drewN | apply Kd.S_drew)); exact HO_8.out) (Kd.S_base ho0) hb); have n1_ := Aside0.mk (Kd.S_elder' (by (with_reducible repeat (first | apply Kd.S_alloc | apply Kd.S_drewN | apply Kd.S_drew)); exact HO_9.out) (Kd.S_base ho0) hb); have n2_ := Aside0.mk (Kd.S_elder' (by (with_reducible repeat (first | apply Kd.S_alloc | apply Kd.S_drewN | apply Kd.S_drew)); exact HO460.out) (Kd.S_base ho0) hb); have n3_ := Aside0.mk (Kd.S_lower (Kd.S_new' (Kd.S_new' (Kd.S_new' ho0 (Kd.S_lt (by (with_reducible repeat (first | apply Kd.S_alloc | apply Kd.S_drewN | apply Kd.S_drew)); exact HO_8.out))) (Kd.S_lt (by (with_reducible repeat (first | apply Kd.S_alloc | apply Kd.S_drewN | apply Kd.S_drew)); exact HO_9.out))) (Kd.S_lt (by (with_reducible repeat (first | apply Kd.S_alloc | apply Kd.S_drewN | apply Kd.S_drew)); exact HO460.out))) (below_size (by repeat (first | (with_reducible first | exact HB.out | apply below_alloc | apply pw_below_drewN | apply below_drew1) | exact HB.out)))); have n4_ := Aside0.mk (below_step (by repeat (first | (with_reducible first | exact HB.out | apply below_alloc | apply pw_below_drewN | apply below_drew1) | exact HB.out)) hb); clear HO_8; clear HO_9; clear HO460; clear HB; have HO_8 := n0_; have HO_9 := n1_; have HO460 := n2_; have HO464 := n3_; have HB := n4_; clear n0_ n1_ n2_ n3_ n4_; (try clear hb); (try clear hb2); (try clear hk); (try clear hi); (try clear ho0); obtain ⟨Ao35, co35, eo35⟩ := Kd.S_slice HO464.out; subst eo35) | ((with_reducible refine gate_callee (f := 19) rfl ?_); refine goesL_ (some 56) rfl rfl Try.func19 (by kernel_rfl) rfl #[.slice Ao22 t453.length co22, .slice Ao35 t462.length co35] rfl (by (try simp only [List.map_toArray, List.map_cons, List.map_nil]); first | done | rfl | (simp only [List.length_drop, List.length_take]; rfl)) ?_; (with_reducible refine (laws_eqIntSS.calls kj12 _ _ t453 _ _ t462 true _ ?side1 ?side2 ?side3 ?side4 A30.out).mono ?_); (case side1 => repeat (first | exact (Kd.S_reads' HO_9.out).2.2 | (with_reducible refine Kd.C_alloc ?_ _) | (with_reducible refine Kd.C_drewN ?_ _) | (with_reducible refine Kd.C_drew ?_))); (case side2 => exact (Kd.S_reads' HO_9.out).2.1); (case side3 => repeat (first | exact (Kd.S_reads' HO464.out).2.2 | (with_reducible refine Kd.C_alloc ?_ _) | (with_reducible refine Kd.C_drewN ?_ _) | (with_reducible refine Kd.C_drew ?_))); (case side4 => exact (Kd.S_reads' HO464.out).2.1); rintro e w' ⟨rfl, ⟨nd, rfl⟩⟩; refine ⟨_, rfl, ?_⟩))
                go_ret
                exact ⟨by first | rfl | (simp [errW_none, errW_some] <;> rfl) | (simp [*, errW_none, errW_some] <;> rfl), by repeat (first | (with_reducible first | exact HB.out | apply below_alloc | apply pw_below_drewN | apply below_drew1) | exact HB.out)⟩
              · replace c31 := Bool.eq_false_iff.mpr c31
                subst c31
                have H1 : (some false) = some r := by rw [if_neg (show ¬ (false = true) by decide)] at H; exact H
                clear H
                have H := H1
                clear H1
                obtain rfl := Option.some.inj H
                go_wp2_with (first | ((with_reducible refine gate_callee (f := 17) rfl ?_); refine goesL_ (some 50) rfl rfl Try.func17 (by kernel_rfl) rfl #[.slice A0 l0.length c0] rfl (by (try simp only [List.map_toArray, List.map_cons, List.map_nil]); first | done | rfl | (simp only [List.length_drop, List.length_take]; rfl)) ?_; (with_reducible refine (laws_toIntSS.calls kj12 _ _ l0 t458 _ ?side1 ?side2 A26.out).mono ?_); (case side1 => repeat (first | exact (Kd.C_below HR0.out HB.out) | (with_reducible refine Kd.C_alloc ?_ _) | (with_reducible refine Kd.C_drewN ?_ _) | (with_reducible refine Kd.C_drew ?_))); (case side2 => exact HC0.out); rintro e w36 ⟨v459, rfl, ho0, hb⟩; refine ⟨_, rfl, ?_⟩; have n0_ := Aside0.mk (Kd.S_elder' (by (with_reducible repeat (first | apply Kd.S_alloc | apply Kd.S_drewN | apply Kd.S_drew)); exact HO_8.out) (Kd.S_base ho0) hb); have n1_ := Aside0.mk (Kd.S_elder' (by (with_reducible repeat (first | apply Kd.S_alloc | apply Kd.S_drewN | apply Kd.S_drew)); exact HO_9.out) (Kd.S_base ho0) hb); have n2_ := Aside0.mk (Kd.S_lower (Kd.S_new' (Kd.S_new' ho0 (Kd.S_lt (by (with_reducible repeat (first | apply Kd.S_alloc | apply Kd.S_drewN | apply Kd.S_drew)); exact HO_8.out))) (Kd.S_lt (by (with_reducible repeat (first | apply Kd.S_alloc | apply Kd.S_drewN | apply Kd.S_drew)); exact HO_9.out))) (below_size (by repeat (first | (with_reducible first | exact HB.out | apply below_alloc | apply pw_below_drewN | apply below_drew1) | exact HB.out)))); have n3_ := Aside0.mk (below_step (by repeat (first | (with_reducible first | exact HB.out | apply below_alloc | apply pw_below_drewN | apply below_drew1) | exact HB.out)) hb); clear HO_8; clear HO_9; clear HB; have HO_8 := n0_; have HO_9 := n1_; have HO460 := n2_; have HB := n3_; clear n0_ n1_ n2_ n3_; (try clear hb); (try clear hb2); (try clear hk); (try clear hi); (try clear ho0); obtain ⟨Ao37, co37, eo37⟩ := Kd.S_slice HO460.out; subst eo37) | ((with_reducible refine gate_callee (f := 19) rfl ?_); refine goesL_ (some 51) rfl rfl Try.func19 (by kernel_rfl) rfl #[.slice Ao21 t450.length co21, .slice Ao37 t458.length co37] rfl (by (try simp only [List.map_toArray, List.map_cons, List.map_nil]); first | done | rfl | (simp only [List.length_drop, List.length_take]; rfl)) ?_; (with_reducible refine (laws_eqIntSS.calls kj12 _ _ t450 _ _ t458 true _ ?side1 ?side2 ?side3 ?side4 A27.out).mono ?_); (case side1 => repeat (first | exact (Kd.S_reads' HO_8.out).2.2 | (with_reducible refine Kd.C_alloc ?_ _) | (with_reducible refine Kd.C_drewN ?_ _) | (with_reducible refine Kd.C_drew ?_))); (case side2 => exact (Kd.S_reads' HO_8.out).2.1); (case side3 => repeat (first | exact (Kd.S_reads' HO460.out).2.2 | (with_reducible refine Kd.C_alloc ?_ _) | (with_reducible refine Kd.C_drewN ?_ _) | (with_reducible refine Kd.C_drew ?_))); (case side4 => exact (Kd.S_reads' HO460.out).2.1); rintro e w' ⟨rfl, ⟨nd, rfl⟩⟩; refine ⟨_, rfl, ?_⟩) | ((with_reducible refine gate_callee (f := 17) rfl ?_); refine goesL_ (some 55) rfl rfl Try.func17 (by kernel_rfl) rfl #[.slice A1 l1.length c1] rfl (by (try simp only [List.map_toArray, List.map_cons, List.map_nil]); first | done | rfl | (simp only [List.length_drop, List.length_take]; rfl)) ?_; (with_reducible refine (laws_toIntSS.calls kj12 _ _ l1 t462 _ ?side1 ?side2 A29.out).mono ?_); (case side1 => repeat (first | exact (Kd.C_below HR1.out (by repeat (first | (with_reducible first | exact HB.out | apply below_alloc | apply pw_below_drewN | apply below_drew1) | exact HB.out))) | (with_reducible refine Kd.C_alloc ?_ _) | (with_reducible refine Kd.C_drewN ?_ _) | (with_reducible refine Kd.C_drew ?_))); (case side2 => exact HC1.out); rintro e w38 ⟨v463, rfl, ho0, hb⟩; refine ⟨_, rfl, ?_⟩; have n0_ := Aside0.mk (Kd.S_elder' (by (with_reducible repeat (first | apply Kd.S_alloc | apply Kd.S_drewN | apply Kd.S_drew)); exact HO_8.out) (Kd.S_base ho0) hb); have n1_ := Aside0.mk (Kd.S_elder' (by (with_reducible repeat (first | apply Kd.S_alloc | apply Kd.S_drewN | apply Kd.S_drew)); exact HO_9.out) (Kd.S_base ho0) hb); have n2_ := Aside0.mk (Kd.S_elder' (by (with_reducible repeat (first | apply Kd.S_alloc | apply Kd.S_drewN | apply Kd.S_drew)); exact HO460.out) (Kd.S_base ho0) hb); have n3_ := Aside0.mk (Kd.S_lower (Kd.S_new' (Kd.S_new' (Kd.S_new' ho0 (Kd.S_lt (by (with_reducible repeat (first | apply Kd.S_alloc | apply Kd.S_drewN | apply Kd.S_drew)); exact HO_8.out))) (Kd.S_lt (by (with_reducible repeat (first | apply Kd.S_alloc | apply Kd.S_drewN | apply Kd.S_drew)); exact HO_9.out))) (Kd.S_lt (by (with_reducible repeat (first | apply Kd.S_alloc | apply Kd.S_drewN | apply Kd.S_drew)); exact HO460.out))) (below_size (by repeat (first | (with_reducible first | exact HB.out | apply below_alloc | apply pw_below_drewN | apply below_drew1) | exact HB.out)))); have n4_ := Aside0.mk (below_step (by repeat (first | (with_reducible first | exact HB.out | apply below_alloc | apply pw_below_drewN | apply below_drew1) | exact HB.out)) hb); clear HO_8; clear HO_9; clear HO460; clear HB; have HO_8 := n0_; have HO_9 := n1_; have HO460 := n2_; have HO464 := n3_; have HB := n4_; clear n0_ n1_ n2_ n3_ n4_; (try clear hb); (try clear hb2); (try clear hk); (try clear hi); (try clear ho0); obtain ⟨Ao39, co39, eo39⟩ := Kd.S_slice HO464.out; subst eo39) | ((with_reducible refine gate_callee (f := 19) rfl ?_); refine goesL_ (some 56) rfl rfl Try.func19 (by kernel_rfl) rfl #[.slice Ao22 t453.length co22, .slice Ao39 t462.length co39] rfl (by (try simp only [List.map_toArray, List.map_cons, List.map_nil]); first | done | rfl | (simp only [List.length_drop, List.length_take]; rfl)) ?_; (with_reducible refine (laws_eqIntSS.calls kj12 _ _ t453 _ _ t462 false _ ?side1 ?side2 ?side3 ?side4 A30.out).mono ?_); (case side1 => repeat (first | exact (Kd.S_reads' HO_9.out).2.2 | (with_reducible refine Kd.C_alloc ?_ _) | (with_reducible refine Kd.C_drewN ?_ _) | (with_reducible refine Kd.C_drew ?_))); (case side2 => exact (Kd.S_reads' HO_9.out).2.1); (case side3 => repeat (first | exact (Kd.S_reads' HO464.out).2.2 | (with_reducible refine Kd.C_alloc ?_ _) | (with_reducible refine Kd.C_drewN ?_ _) | (with_reducible refine Kd.C_drew ?_))); (case side4 => exact (Kd.S_reads' HO464.out).2.1); rintro e w' ⟨rfl, ⟨nd, rfl⟩⟩; refine ⟨_, rfl, ?_⟩))
                go_ret
                exact ⟨by first | rfl | (simp [errW_none, errW_some] <;> rfl) | (simp [*, errW_none, errW_some] <;> rfl), by repeat (first | (with_reducible first | exact HB.out | apply below_alloc | apply pw_below_drewN | apply below_drew1) | exact HB.out)⟩
            · replace c28 := Bool.eq_false_iff.mpr c28
              subst c28
              have H1 : (some false) = some r := by rw [if_neg (show ¬ (false = true) by decide)] at H; exact H
              clear H
              have H := H1
              clear H1
              obtain rfl := Option.some.inj H
              go_wp2_with (first | ((with_reducible refine gate_callee (f := 17) rfl ?_); refine goesL_ (some 50) rfl rfl Try.func17 (by kernel_rfl) rfl #[.slice A0 l0.length c0] rfl (by (try simp only [List.map_toArray, List.map_cons, List.map_nil]); first | done | rfl | (simp only [List.length_drop, List.length_take]; rfl)) ?_; (with_reducible refine (laws_toIntSS.calls kj12 _ _ l0 t458 _ ?side1 ?side2 A26.out).mono ?_); (case side1 => repeat (first | exact (Kd.C_below HR0.out HB.out) | (with_reducible refine Kd.C_alloc ?_ _) | (with_reducible refine Kd.C_drewN ?_ _) | (with_reducible refine Kd.C_drew ?_))); (case side2 => exact HC0.out); rintro e w40 ⟨v459, rfl, ho0, hb⟩; refine ⟨_, rfl, ?_⟩; have n0_ := Aside0.mk (Kd.S_elder' (by (with_reducible repeat (first | apply Kd.S_alloc | apply Kd.S_drewN | apply Kd.S_drew)); exact HO_8.out) (Kd.S_base ho0) hb); have n1_ := Aside0.mk (Kd.S_elder' (by (with_reducible repeat (first | apply Kd.S_alloc | apply Kd.S_drewN | apply Kd.S_drew)); exact HO_9.out) (Kd.S_base ho0) hb); have n2_ := Aside0.mk (Kd.S_lower (Kd.S_new' (Kd.S_new' ho0 (Kd.S_lt (by (with_reducible repeat (first | apply Kd.S_alloc | apply Kd.S_drewN | apply Kd.S_drew)); exact HO_8.out))) (Kd.S_lt (by (with_reducible repeat (first | apply Kd.S_alloc | apply Kd.S_drewN | apply Kd.S_drew)); exact HO_9.out))) (below_size (by repeat (first | (with_reducible first | exact HB.out | apply below_alloc | apply pw_below_drewN | apply below_drew1) | exact HB.out)))); have n3_ := Aside0.mk (below_step (by repeat (first | (with_reducible first | exact HB.out | apply below_alloc | apply pw_below_drewN | apply below_drew1) | exact HB.out)) hb); clear HO_8; clear HO_9; clear HB; have HO_8 := n0_; have HO_9 := n1_; have HO460 := n2_; have HB := n3_; clear n0_ n1_ n2_ n3_; (try clear hb); (try clear hb2); (try clear hk); (try clear hi); (try clear ho0); obtain ⟨Ao41, co41, eo41⟩ := Kd.S_slice HO460.out; subst eo41) | ((with_reducible refine gate_callee (f := 19) rfl ?_); refine goesL_ (some 51) rfl rfl Try.func19 (by kernel_rfl) rfl #[.slice Ao21 t450.length co21, .slice Ao41 t458.length co41] rfl (by (try simp only [List.map_toArray, List.map_cons, List.map_nil]); first | done | rfl | (simp only [List.length_drop, List.length_take]; rfl)) ?_; (with_reducible refine (laws_eqIntSS.calls kj12 _ _ t450 _ _ t458 false _ ?side1 ?side2 ?side3 ?side4 A27.out).mono ?_); (case side1 => repeat (first | exact (Kd.S_reads' HO_8.out).2.2 | (with_reducible refine Kd.C_alloc ?_ _) | (with_reducible refine Kd.C_drewN ?_ _) | (with_reducible refine Kd.C_drew ?_))); (case side2 => exact (Kd.S_reads' HO_8.out).2.1); (case side3 => repeat (first | exact (Kd.S_reads' HO460.out).2.2 | (with_reducible refine Kd.C_alloc ?_ _) | (with_reducible refine Kd.C_drewN ?_ _) | (with_reducible refine Kd.C_drew ?_))); (case side4 => exact (Kd.S_reads' HO460.out).2.1); rintro e w' ⟨rfl, ⟨nd, rfl⟩⟩; refine ⟨_, rfl, ?_⟩))
              go_ret
              exact ⟨by first | rfl | (simp [errW_none, errW_some] <;> rfl) | (simp [*, errW_none, errW_some] <;> rfl), by repeat (first | (with_reducible first | exact HB.out | apply below_alloc | apply pw_below_drewN | apply below_drew1) | exact HB.out)⟩

end Go.Proofs.Ytfoadgbffidgaaa.P

namespace Go.Proofs.Ytfoadgbffidgaaa.P
open Go.RowKit Go.Proofs.YtfoadgbffidgaaaW.PrintWords Go.Proofs.YtfoadgbffidgaaaW.PrintLast Go.Proofs.YtfoadgbffidgaaaW.PrintMore
attribute [local go_sem] max2_int min2_int max_two min_two max_three min_three max_four min_four   -- for this text's walks alone
set_option linter.unusedVariables false
set_option linter.unusedSimpArgs false

/-! ### spec_l1In: function 116 -/
def spec_l1In.f (a0 : Int) : Option (Bool) := (spec_l6In.f a0 0 8).bind fun t181 => (some t181)
set_option maxHeartbeats 8000000 in
set_option maxRecDepth 100000 in
theorem spec_l1In.calls (a0 : Int) (r : Bool) (w : World) (h : spec_l1In.f a0 = some r) :
    Calls Try.prog 116 #[.int .i64 a0] w fun e w' => e = .returned (.bool r) ∧ Drawn0 w w' := by
  have H : ((spec_l6In.f a0 0 8).bind fun t181 => (some t181)) = some r := h
  clear h
  replace H := Option.bind_eq_some_iff.mp H
  obtain ⟨t181, A20, H⟩ := H
  replace H : (some t181) = some r := H
  have A2 := Aside0.mk A20
  clear A20
  obtain rfl := Option.some.inj H
  go_enter Try.func116, Try.ntmps116
  go_wp2_with (first | ((with_reducible refine gate_callee (f := 56) rfl ?_); refine goesL_ (some 4) rfl rfl Try.func56 (by kernel_rfl) rfl #[.int .i64 a0, .int .i64 0, .int .i64 8] rfl (by (try simp only [List.map_toArray, List.map_cons, List.map_nil]); first | done | rfl | (simp only [List.length_drop, List.length_take]; rfl)) ?_; (with_reducible refine (spec_l6In.calls a0 0 8 t181 _ A2.out).mono ?_); rintro e w' ⟨rfl, ⟨nd, rfl⟩⟩; refine ⟨_, rfl, ?_⟩))
  go_ret
  exact ⟨by first | rfl | (simp; done) | (simp [*]; done), by repeat (first | exact Drawn0.refl _ | apply Drawn0.step)⟩

end Go.Proofs.Ytfoadgbffidgaaa.P

namespace Go.Proofs.Ytfoadgbffidgaaa.P
open Go.RowKit Go.Proofs.YtfoadgbffidgaaaW.PrintWords Go.Proofs.YtfoadgbffidgaaaW.PrintLast Go.Proofs.YtfoadgbffidgaaaW.PrintMore
attribute [local go_sem] max2_int min2_int max_two min_two max_three min_three max_four min_four   -- for this text's walks alone
set_option linter.unusedVariables false
set_option linter.unusedSimpArgs false

/-! ### spec_l2Table: function 75 -/
def spec_l2Table.l0 : Nat → List Int → Int → Option (Bool)
  | 0, _, _ => none
  | k + 1, x0, x3 => if x3 < (x0.length : Int) then (if 0 ≤ x3 then ((spec_l1In.f (rd x0 x3)).bind fun t183 => (if t183 = true then (spec_l2Table.l0 k x0 (wrap64 (x3 + 1))) else (some false))) else (none)) else (some ((x0.length : Int) == 81))
def spec_l2Table.f (k : Nat) (l0 : List Int) : Option (Bool) := spec_l2Table.l0 k l0 0
theorem spec_l2Table.mono_l : ∀ k, (∀ y0 y1, LeO (spec_l2Table.l0 k y0 y1) (spec_l2Table.l0 (k + 1) y0 y1))
  | 0 => fun _ _ r h => by simp [spec_l2Table.l0] at h
  | k + 1 => by
    have ih0 := spec_l2Table.mono_l k
    · intro y0 y1
      unfold spec_l2Table.l0
      repeat' first
      | (with_reducible exact ih0 _ _)
      | (with_reducible exact LeO.refl _)
      | (with_reducible exact LeO.none _)
      | (with_reducible refine LeO.ite ?_ ?_)
      | (with_reducible refine LeO.bind ?_ (fun _ => ?_))
      | exact ih0 _ _
      | exact LeO.none _
      | refine LeO.ite ?_ ?_
      | refine LeO.bind ?_ (fun _ => ?_)
theorem spec_l2Table.mono : ∀ a0 k, LeO (spec_l2Table.f k a0) (spec_l2Table.f (k + 1) a0) := by
  intro a0 k
  have ih0 := spec_l2Table.mono_l k
  unfold spec_l2Table.f
  repeat' first
      | (with_reducible exact ih0 _ _)
      | (with_reducible exact LeO.refl _)
      | (with_reducible exact LeO.none _)
      | (with_reducible refine LeO.ite ?_ ?_)
      | (with_reducible refine LeO.bind ?_ (fun _ => ?_))
      | exact ih0 _ _
      | exact LeO.none _
      | refine LeO.ite ?_ ?_
      | refine LeO.bind ?_ (fun _ => ?_)
set_option maxHeartbeats 8000000 in
set_option maxRecDepth 100000 in
theorem spec_l2Table.calls (k : Nat) (A0 : Option Addr) (c0 : Nat) (l0 : List Int) (r : Bool) (w : World) (hr0 : Kd.C (Kd.int .i64) w A0 l0.length l0) (hc0 : l0.length ≤ c0) (h : spec_l2Table.f k l0 = some r) :
    Calls Try.prog 75 #[.slice A0 l0.length c0] w fun e w' => e = .returned (.bool r) ∧ Drawn0 w w' := by
  have HR0 := Aside0.mk hr0
  have HC0 := Aside0.mk hc0
  clear hr0 hc0
  have H : (spec_l2Table.l0 k l0 0) = some r := h
  clear h
  have H' := Aside0.mk H
  clear H
  go_enter Try.func75, Try.ntmps75
  go_wp2
  go_loopg [3] k (fun kq v3 w' => ∃ (x3_1 : Int), v3 = .int .i64 x3_1 ∧ Aside0 (spec_l2Table.l0 kq l0 x3_1 = some r) ∧ Aside0 (kq ≤ k) ∧ Drawn0 w w')
  case atStart => exact ⟨(0), (by first | rfl | (simp; done) | (simp [*]; done)), H', ⟨Nat.le_refl _⟩, by repeat (first | exact Drawn0.refl _ | apply Drawn0.step)⟩
  case round =>
    clear H'
    obtain ⟨x3_1, rfl, HA, HK1, ⟨m1, rfl⟩⟩ := hrel
    cases gk with
    | zero => exact absurd HA.out (by simp [spec_l2Table.l0])
    | succ k1 =>
      have H := HA.out
      clear HA
      simp only [spec_l2Table.l0] at H
      by_cases c2 : x3_1 < (l0.length : Int)
      · rw [if_pos c2] at H
        have c2b0 : decide (x3_1 < (l0.length : Int)) = true := decide_eq_true c2
        clear c2
        by_cases c3 : 0 ≤ x3_1
        · rw [if_pos c3] at H
          have c3b0 : decide (0 ≤ x3_1) = true := decide_eq_true c3
          clear c3
          replace H := Option.bind_eq_some_iff.mp H
          obtain ⟨t183, A40, H⟩ := H
          replace H : (if t183 = true then (spec_l2Table.l0 k1 l0 (wrap64 (x3_1 + 1))) else (some false)) = some r := H
          have A4 := Aside0.mk A40
          clear A40
          by_cases c5 : t183 = true
          · subst c5
            have H1 : (spec_l2Table.l0 k1 l0 (wrap64 (x3_1 + 1))) = some r := by rw [if_pos rfl] at H; exact H
            clear H
            have H := H1
            clear H1
            have H' := Aside0.mk H
            clear H
            have p182 : 0 ≤ (x3_1 : Int) := of_decide_eq_true (by first | (with_reducible assumption) | assumption)
            have q182 : x3_1 < (l0.length : Int) := of_decide_eq_true (by first | (with_reducible assumption) | assumption)
            obtain ⟨ad182, e182, hx182_0⟩ := Kd.at_int HR0.out x3_1 p182 q182
            cases e182
            replace p182 := eq_true p182
            replace q182 := eq_true q182
            go_wp2_with (first | ((with_reducible refine gate_callee (f := 116) rfl ?_); refine goesL_ (some 14) rfl rfl Try.func116 (by kernel_rfl) rfl #[.int .i64 (rd l0 x3_1)] rfl (by (try simp only [List.map_toArray, List.map_cons, List.map_nil]); first | done | rfl | (simp only [List.length_drop, List.length_take]; rfl)) ?_; (with_reducible refine (spec_l1In.calls (rd l0 x3_1) true _ A4.out).mono ?_); rintro e w' ⟨rfl, ⟨nd, rfl⟩⟩; refine ⟨_, rfl, ?_⟩))
            go_roundg k1
            case measure => have := HK1.out; omega
            case rel => exact ⟨(wrap64 (x3_1 + 1)), (by first | rfl | (simp; done) | (simp [*]; done)), H', ⟨by have := HK1.out; omega⟩, by repeat (first | exact Drawn0.refl _ | apply Drawn0.step)⟩
          · replace c5 := Bool.eq_false_iff.mpr c5
            subst c5
            have H1 : (some false) = some r := by rw [if_neg (show ¬ (false = true) by decide)] at H; exact H
            clear H
            have H := H1
            clear H1
            obtain rfl := Option.some.inj H
            have p182 : 0 ≤ (x3_1 : Int) := of_decide_eq_true (by first | (with_reducible assumption) | assumption)
            have q182 : x3_1 < (l0.length : Int) := of_decide_eq_true (by first | (with_reducible assumption) | assumption)
            obtain ⟨ad182, e182, hx182_0⟩ := Kd.at_int HR0.out x3_1 p182 q182
            cases e182
            replace p182 := eq_true p182
            replace q182 := eq_true q182
            go_wp2_with (first | ((with_reducible refine gate_callee (f := 116) rfl ?_); refine goesL_ (some 14) rfl rfl Try.func116 (by kernel_rfl) rfl #[.int .i64 (rd l0 x3_1)] rfl (by (try simp only [List.map_toArray, List.map_cons, List.map_nil]); first | done | rfl | (simp only [List.length_drop, List.length_take]; rfl)) ?_; (with_reducible refine (spec_l1In.calls (rd l0 x3_1) false _ A4.out).mono ?_); rintro e w' ⟨rfl, ⟨nd, rfl⟩⟩; refine ⟨_, rfl, ?_⟩))
            go_ret
            exact ⟨by first | rfl | (simp; done) | (simp [*]; done), by repeat (first | exact Drawn0.refl _ | apply Drawn0.step)⟩
        · rw [if_neg c3] at H
          exact absurd H (by simp)
      · rw [if_neg c2] at H
        have c2b0 : decide (x3_1 < (l0.length : Int)) = false := decide_eq_false c2
        clear c2
        obtain rfl := Option.some.inj H
        go_wp2
        go_ret
        exact ⟨by first | rfl | (simp; done) | (simp [*]; done), by repeat (first | exact Drawn0.refl _ | apply Drawn0.step)⟩

end Go.Proofs.Ytfoadgbffidgaaa.P

namespace Go.Proofs.Ytfoadgbffidgaaa.P
open Go.RowKit Go.Proofs.YtfoadgbffidgaaaW.PrintWords Go.Proofs.YtfoadgbffidgaaaW.PrintLast Go.Proofs.YtfoadgbffidgaaaW.PrintMore
attribute [local go_sem] max2_int min2_int max_two min_two max_three min_three max_four min_four   -- for this text's walks alone
set_option linter.unusedVariables false
set_option linter.unusedSimpArgs false

/-! ### spec_l2Units: function 101 -/
def spec_l2Units.l0 : Nat → List Int → Int → Option (Bool)
  | 0, _, _ => none
  | k + 1, x0, x3 => if x3 < 9 then (if 0 ≤ x3 then (if x3 < (x0.length : Int) then (if (rd x0 x3) = 0 then (if 0 ≤ (wrap64 (9 * x3)) then (if (wrap64 (9 * x3)) < (x0.length : Int) then (if (rd x0 (wrap64 (9 * x3))) = 0 then (if 0 ≤ (wrap64 (9 + x3)) then (if (wrap64 (9 + x3)) < (x0.length : Int) then (if (rd x0 (wrap64 (9 + x3))) = x3 then (if 0 ≤ (wrap64 ((wrap64 (9 * x3)) + 1)) then (if (wrap64 ((wrap64 (9 * x3)) + 1)) < (x0.length : Int) then (if (rd x0 (wrap64 ((wrap64 (9 * x3)) + 1))) = x3 then (spec_l2Units.l0 k x0 (wrap64 (x3 + 1))) else (some false)) else (none)) else (none)) else (some false)) else (none)) else (none)) else (some false)) else (none)) else (none)) else (some false)) else (none)) else (none)) else (some true)
def spec_l2Units.f (k : Nat) (l0 : List Int) : Option (Bool) := spec_l2Units.l0 k l0 0
theorem spec_l2Units.mono_l : ∀ k, (∀ y0 y1, LeO (spec_l2Units.l0 k y0 y1) (spec_l2Units.l0 (k + 1) y0 y1))
  | 0 => fun _ _ r h => by simp [spec_l2Units.l0] at h
  | k + 1 => by
    have ih0 := spec_l2Units.mono_l k
    · intro y0 y1
      unfold spec_l2Units.l0
      repeat' first
      | (with_reducible exact ih0 _ _)
      | (with_reducible exact LeO.refl _)
      | (with_reducible exact LeO.none _)
      | (with_reducible refine LeO.ite ?_ ?_)
      | (with_reducible refine LeO.bind ?_ (fun _ => ?_))
      | exact ih0 _ _
      | exact LeO.none _
      | refine LeO.ite ?_ ?_
      | refine LeO.bind ?_ (fun _ => ?_)
theorem spec_l2Units.mono : ∀ a0 k, LeO (spec_l2Units.f k a0) (spec_l2Units.f (k + 1) a0) := by
  intro a0 k
  have ih0 := spec_l2Units.mono_l k
  unfold spec_l2Units.f
  repeat' first
      | (with_reducible exact ih0 _ _)
      | (with_reducible exact LeO.refl _)
      | (with_reducible exact LeO.none _)
      | (with_reducible refine LeO.ite ?_ ?_)
      | (with_reducible refine LeO.bind ?_ (fun _ => ?_))
      | exact ih0 _ _
      | exact LeO.none _
      | refine LeO.ite ?_ ?_
      | refine LeO.bind ?_ (fun _ => ?_)
set_option maxHeartbeats 8000000 in
set_option maxRecDepth 100000 in
theorem spec_l2Units.calls (k : Nat) (A0 : Option Addr) (c0 : Nat) (l0 : List Int) (r : Bool) (w : World) (hr0 : Kd.C (Kd.int .i64) w A0 l0.length l0) (hc0 : l0.length ≤ c0) (h : spec_l2Units.f k l0 = some r) :
    Calls Try.prog 101 #[.slice A0 l0.length c0] w fun e w' => e = .returned (.bool r) ∧ Drawn0 w w' := by
  have HR0 := Aside0.mk hr0
  have HC0 := Aside0.mk hc0
  clear hr0 hc0
  have H : (spec_l2Units.l0 k l0 0) = some r := h
  clear h
  have H' := Aside0.mk H
  clear H
  go_enter Try.func101, Try.ntmps101
  go_wp2
  go_loopg [3] k (fun kq v3 w' => ∃ (x3_1 : Int), v3 = .int .i64 x3_1 ∧ Aside0 (spec_l2Units.l0 kq l0 x3_1 = some r) ∧ Aside0 (kq ≤ k) ∧ Drawn0 w w')
  case atStart => exact ⟨(0), (by first | rfl | (simp; done) | (simp [*]; done)), H', ⟨Nat.le_refl _⟩, by repeat (first | exact Drawn0.refl _ | apply Drawn0.step)⟩
  case round =>
    clear H'
    try clear c1
    obtain ⟨x3_1, rfl, HA, HK1, ⟨m1, rfl⟩⟩ := hrel
    cases gk with
    | zero => exact absurd HA.out (by simp [spec_l2Units.l0])
    | succ k1 =>
      have H := HA.out
      clear HA
      simp only [spec_l2Units.l0] at H
      by_cases c2 : x3_1 < 9
      · rw [if_pos c2] at H
        have c2b0 : decide (x3_1 < 9) = true := decide_eq_true c2
        clear c2
        by_cases c3 : 0 ≤ x3_1
        · rw [if_pos c3] at H
          have c3b0 : decide (0 ≤ x3_1) = true := decide_eq_true c3
          clear c3
          by_cases c4 : x3_1 < (l0.length : Int)
          · rw [if_pos c4] at H
            have c4b0 : decide (x3_1 < (l0.length : Int)) = true := decide_eq_true c4
            clear c4
            by_cases c5 : (rd l0 x3_1) = 0
            · rw [if_pos c5] at H
              have c5b0 : ((rd l0 x3_1) == 0) = true := beq_iff_eq.mpr c5
              have c5b1 : ((rd l0 x3_1) != 0) = false := bne_eq_false_iff_eq.mpr c5
              clear c5
              obtain ⟨ji6, hji6⟩ : ∃ j_ : Int, (wrap64 (9 * x3_1)) = j_ := ⟨_, rfl⟩
              replace H : (if 0 ≤ (ji6) then (if (ji6) < (l0.length : Int) then (if (rd l0 (ji6)) = 0 then (if 0 ≤ (wrap64 (9 + x3_1)) then (if (wrap64 (9 + x3_1)) < (l0.length : Int) then (if (rd l0 (wrap64 (9 + x3_1))) = x3_1 then (if 0 ≤ (wrap64 ((ji6) + 1)) then (if (wrap64 ((ji6) + 1)) < (l0.length : Int) then (if (rd l0 (wrap64 ((ji6) + 1))) = x3_1 then (spec_l2Units.l0 k1 l0 (wrap64 (x3_1 + 1))) else (some false)) else (none)) else (none)) else (some false)) else (none)) else (none)) else (some false)) else (none)) else (none)) = some r := by first | (rw [hji6] at H; exact H) | (simp only [hji6] at H ⊢; exact H)
              have hji6w : (IntKind.i64.wrap (9 * x3_1)) = ji6 := (i64_w _).trans hji6
              by_cases c7 : 0 ≤ (ji6)
              · rw [if_pos c7] at H
                have c7b0 : decide (0 ≤ (ji6)) = true := decide_eq_true c7
                clear c7
                by_cases c8 : (ji6) < (l0.length : Int)
                · rw [if_pos c8] at H
                  have c8b0 : decide ((ji6) < (l0.length : Int)) = true := decide_eq_true c8
                  clear c8
                  by_cases c9 : (rd l0 (ji6)) = 0
                  · rw [if_pos c9] at H
                    have c9b0 : ((rd l0 (ji6)) == 0) = true := beq_iff_eq.mpr c9
                    have c9b1 : ((rd l0 (ji6)) != 0) = false := bne_eq_false_iff_eq.mpr c9
                    clear c9
                    obtain ⟨ji10, hji10⟩ : ∃ j_ : Int, (wrap64 (9 + x3_1)) = j_ := ⟨_, rfl⟩
                    replace H : (if 0 ≤ (ji10) then (if (ji10) < (l0.length : Int) then (if (rd l0 (ji10)) = x3_1 then (if 0 ≤ (wrap64 ((ji6) + 1)) then (if (wrap64 ((ji6) + 1)) < (l0.length : Int) then (if (rd l0 (wrap64 ((ji6) + 1))) = x3_1 then (spec_l2Units.l0 k1 l0 (wrap64 (x3_1 + 1))) else (some false)) else (none)) else (none)) else (some false)) else (none)) else (none)) = some r := by first | (rw [hji10] at H; exact H) | (simp only [hji10] at H ⊢; exact H)
                    have hji10w : (IntKind.i64.wrap (9 + x3_1)) = ji10 := (i64_w _).trans hji10
                    by_cases c11 : 0 ≤ (ji10)
                    · rw [if_pos c11] at H
                      have c11b0 : decide (0 ≤ (ji10)) = true := decide_eq_true c11
                      clear c11
                      by_cases c12 : (ji10) < (l0.length : Int)
                      · rw [if_pos c12] at H
                        have c12b0 : decide ((ji10) < (l0.length : Int)) = true := decide_eq_true c12
                        clear c12
                        by_cases c13 : (rd l0 (ji10)) = x3_1
                        · rw [if_pos c13] at H
                          have c13b0 : ((rd l0 (ji10)) == x3_1) = true := beq_iff_eq.mpr c13
                          have c13b1 : ((rd l0 (ji10)) != x3_1) = false := bne_eq_false_iff_eq.mpr c13
                          clear c13
                          obtain ⟨ji14, hji14⟩ : ∃ j_ : Int, (wrap64 ((ji6) + 1)) = j_ := ⟨_, rfl⟩
                          replace H : (if 0 ≤ (ji14) then (if (ji14) < (l0.length : Int) then (if (rd l0 (ji14)) = x3_1 then (spec_l2Units.l0 k1 l0 (wrap64 (x3_1 + 1))) else (some false)) else (none)) else (none)) = some r := by first | (rw [hji14] at H; exact H) | (simp only [hji14] at H ⊢; exact H)
                          have hji14w : (IntKind.i64.wrap ((ji6) + 1)) = ji14 := (i64_w _).trans hji14
                          by_cases c15 : 0 ≤ (ji14)
                          · rw [if_pos c15] at H
                            have c15b0 : decide (0 ≤ (ji14)) = true := decide_eq_true c15
                            clear c15
                            by_cases c16 : (ji14) < (l0.length : Int)
                            · rw [if_pos c16] at H
                              have c16b0 : decide ((ji14) < (l0.length : Int)) = true := decide_eq_true c16
                              clear c16
                              by_cases c17 : (rd l0 (ji14)) = x3_1
                              · rw [if_pos c17] at H
                                have c17b0 : ((rd l0 (ji14)) == x3_1) = true := beq_iff_eq.mpr c17
                                have c17b1 : ((rd l0 (ji14)) != x3_1) = false := bne_eq_false_iff_eq.mpr c17
                                clear c17
                                have H' := Aside0.mk H
                                clear H
                                have p184 : 0 ≤ (x3_1 : Int) := of_decide_eq_true (by first | (with_reducible assumption) | assumption)
                                have q184 : x3_1 < (l0.length : Int) := of_decide_eq_true (by first | (with_reducible assumption) | assumption)
                                obtain ⟨ad184, e184, hx184_0⟩ := Kd.at_int HR0.out x3_1 p184 q184
                                cases e184
                                replace p184 := eq_true p184
                                replace q184 := eq_true q184
                                have p185 : 0 ≤ ((ji6) : Int) := of_decide_eq_true (by first | (with_reducible assumption) | assumption)
                                have q185 : (ji6) < (l0.length : Int) := of_decide_eq_true (by first | (with_reducible assumption) | assumption)
                                obtain ⟨ad185, e185, hx185_0⟩ := Kd.at_int HR0.out (ji6) p185 q185
                                obtain rfl : ad184 = ad185 := (by injection e185)
                                replace p185 := eq_true p185
                                replace q185 := eq_true q185
                                have p186 : 0 ≤ ((ji10) : Int) := of_decide_eq_true (by first | (with_reducible assumption) | assumption)
                                have q186 : (ji10) < (l0.length : Int) := of_decide_eq_true (by first | (with_reducible assumption) | assumption)
                                obtain ⟨ad186, e186, hx186_0⟩ := Kd.at_int HR0.out (ji10) p186 q186
                                obtain rfl : ad184 = ad186 := (by injection e186)
                                replace p186 := eq_true p186
                                replace q186 := eq_true q186
                                have p187 : 0 ≤ ((ji14) : Int) := of_decide_eq_true (by first | (with_reducible assumption) | assumption)
                                have q187 : (ji14) < (l0.length : Int) := of_decide_eq_true (by first | (with_reducible assumption) | assumption)
                                obtain ⟨ad187, e187, hx187_0⟩ := Kd.at_int HR0.out (ji14) p187 q187
                                obtain rfl : ad184 = ad187 := (by injection e187)
                                replace p187 := eq_true p187
                                replace q187 := eq_true q187
                                go_wp2
                                go_roundg k1
                                case measure => have := HK1.out; omega
                                case rel => exact ⟨(wrap64 (x3_1 + 1)), (by first | rfl | (simp; done) | (simp [*]; done)), H', ⟨by have := HK1.out; omega⟩, by repeat (first | exact Drawn0.refl _ | apply Drawn0.step)⟩
                              · rw [if_neg c17] at H
                                have c17b0 : ((rd l0 (ji14)) == x3_1) = false := beq_eq_false_iff_ne.mpr c17
                                have c17b1 : ((rd l0 (ji14)) != x3_1) = true := bne_iff_ne.mpr c17
                                obtain rfl := Option.some.inj H
                                have p184 : 0 ≤ (x3_1 : Int) := of_decide_eq_true (by first | (with_reducible assumption) | assumption)
                                have q184 : x3_1 < (l0.length : Int) := of_decide_eq_true (by first | (with_reducible assumption) | assumption)
                                obtain ⟨ad184, e184, hx184_0⟩ := Kd.at_int HR0.out x3_1 p184 q184
                                cases e184
                                replace p184 := eq_true p184
                                replace q184 := eq_true q184
                                have p185 : 0 ≤ ((ji6) : Int) := of_decide_eq_true (by first | (with_reducible assumption) | assumption)
                                have q185 : (ji6) < (l0.length : Int) := of_decide_eq_true (by first | (with_reducible assumption) | assumption)
                                obtain ⟨ad185, e185, hx185_0⟩ := Kd.at_int HR0.out (ji6) p185 q185
                                obtain rfl : ad184 = ad185 := (by injection e185)
                                replace p185 := eq_true p185
                                replace q185 := eq_true q185
                                have p186 : 0 ≤ ((ji10) : Int) := of_decide_eq_true (by first | (with_reducible assumption) | assumption)
                                have q186 : (ji10) < (l0.length : Int) := of_decide_eq_true (by first | (with_reducible assumption) | assumption)
                                obtain ⟨ad186, e186, hx186_0⟩ := Kd.at_int HR0.out (ji10) p186 q186
                                obtain rfl : ad184 = ad186 := (by injection e186)
                                replace p186 := eq_true p186
                                replace q186 := eq_true q186
                                have p187 : 0 ≤ ((ji14) : Int) := of_decide_eq_true (by first | (with_reducible assumption) | assumption)
                                have q187 : (ji14) < (l0.length : Int) := of_decide_eq_true (by first | (with_reducible assumption) | assumption)
                                obtain ⟨ad187, e187, hx187_0⟩ := Kd.at_int HR0.out (ji14) p187 q187
                                obtain rfl : ad184 = ad187 := (by injection e187)
                                replace p187 := eq_true p187
                                replace q187 := eq_true q187
                                go_wp2
                                go_ret
                                exact ⟨by first | rfl | (simp; done) | (simp only [← hji6, ← hji10, ← hji14] <;> (first | rfl | simp)) | (simp [*]; done), by repeat (first | exact Drawn0.refl _ | apply Drawn0.step)⟩
                            · rw [if_neg c16] at H
                              exact absurd H (by simp)
                          · rw [if_neg c15] at H
                            exact absurd H (by simp)
                        · rw [if_neg c13] at H
                          have c13b0 : ((rd l0 (ji10)) == x3_1) = false := beq_eq_false_iff_ne.mpr c13
                          have c13b1 : ((rd l0 (ji10)) != x3_1) = true := bne_iff_ne.mpr c13
                          obtain rfl := Option.some.inj H
                          have p184 : 0 ≤ (x3_1 : Int) := of_decide_eq_true (by first | (with_reducible assumption) | assumption)
                          have q184 : x3_1 < (l0.length : Int) := of_decide_eq_true (by first | (with_reducible assumption) | assumption)
                          obtain ⟨ad184, e184, hx184_0⟩ := Kd.at_int HR0.out x3_1 p184 q184
                          cases e184
                          replace p184 := eq_true p184
                          replace q184 := eq_true q184
                          have p185 : 0 ≤ ((ji6) : Int) := of_decide_eq_true (by first | (with_reducible assumption) | assumption)
                          have q185 : (ji6) < (l0.length : Int) := of_decide_eq_true (by first | (with_reducible assumption) | assumption)
                          obtain ⟨ad185, e185, hx185_0⟩ := Kd.at_int HR0.out (ji6) p185 q185
                          obtain rfl : ad184 = ad185 := (by injection e185)
                          replace p185 := eq_true p185
                          replace q185 := eq_true q185
                          have p186 : 0 ≤ ((ji10) : Int) := of_decide_eq_true (by first | (with_reducible assumption) | assumption)
                          have q186 : (ji10) < (l0.length : Int) := of_decide_eq_true (by first | (with_reducible assumption) | assumption)
                          obtain ⟨ad186, e186, hx186_0⟩ := Kd.at_int HR0.out (ji10) p186 q186
                          obtain rfl : ad184 = ad186 := (by injection e186)
                          replace p186 := eq_true p186
                          replace q186 := eq_true q186
                          go_wp2
                          go_ret
                          exact ⟨by first | rfl | (simp; done) | (simp only [← hji6, ← hji10] <;> (first | rfl | simp)) | (simp [*]; done), by repeat (first | exact Drawn0.refl _ | apply Drawn0.step)⟩
                      · rw [if_neg c12] at H
                        exact absurd H (by simp)
                    · rw [if_neg c11] at H
                      exact absurd H (by simp)
                  · rw [if_neg c9] at H
                    have c9b0 : ((rd l0 (ji6)) == 0) = false := beq_eq_false_iff_ne.mpr c9
                    have c9b1 : ((rd l0 (ji6)) != 0) = true := bne_iff_ne.mpr c9
                    obtain rfl := Option.some.inj H
                    have p184 : 0 ≤ (x3_1 : Int) := of_decide_eq_true (by first | (with_reducible assumption) | assumption)
                    have q184 : x3_1 < (l0.length : Int) := of_decide_eq_true (by first | (with_reducible assumption) | assumption)
                    obtain ⟨ad184, e184, hx184_0⟩ := Kd.at_int HR0.out x3_1 p184 q184
                    cases e184
                    replace p184 := eq_true p184
                    replace q184 := eq_true q184
                    have p185 : 0 ≤ ((ji6) : Int) := of_decide_eq_true (by first | (with_reducible assumption) | assumption)
                    have q185 : (ji6) < (l0.length : Int) := of_decide_eq_true (by first | (with_reducible assumption) | assumption)
                    obtain ⟨ad185, e185, hx185_0⟩ := Kd.at_int HR0.out (ji6) p185 q185
                    obtain rfl : ad184 = ad185 := (by injection e185)
                    replace p185 := eq_true p185
                    replace q185 := eq_true q185
                    go_wp2
                    go_ret
                    exact ⟨by first | rfl | (simp; done) | (simp only [← hji6] <;> (first | rfl | simp)) | (simp [*]; done), by repeat (first | exact Drawn0.refl _ | apply Drawn0.step)⟩
                · rw [if_neg c8] at H
                  exact absurd H (by simp)
              · rw [if_neg c7] at H
                exact absurd H (by simp)
            · rw [if_neg c5] at H
              have c5b0 : ((rd l0 x3_1) == 0) = false := beq_eq_false_iff_ne.mpr c5
              have c5b1 : ((rd l0 x3_1) != 0) = true := bne_iff_ne.mpr c5
              obtain rfl := Option.some.inj H
              have p184 : 0 ≤ (x3_1 : Int) := of_decide_eq_true (by first | (with_reducible assumption) | assumption)
              have q184 : x3_1 < (l0.length : Int) := of_decide_eq_true (by first | (with_reducible assumption) | assumption)
              obtain ⟨ad184, e184, hx184_0⟩ := Kd.at_int HR0.out x3_1 p184 q184
              cases e184
              replace p184 := eq_true p184
              replace q184 := eq_true q184
              go_wp2
              go_ret
              exact ⟨by first | rfl | (simp; done) | (simp [*]; done), by repeat (first | exact Drawn0.refl _ | apply Drawn0.step)⟩
          · rw [if_neg c4] at H
            exact absurd H (by simp)
        · rw [if_neg c3] at H
          exact absurd H (by simp)
      · rw [if_neg c2] at H
        have c2b0 : decide (x3_1 < 9) = false := decide_eq_false c2
        clear c2
        obtain rfl := Option.some.inj H
        go_wp2
        go_ret
        exact ⟨by first | rfl | (simp; done) | (simp [*]; done), by repeat (first | exact Drawn0.refl _ | apply Drawn0.step)⟩

end Go.Proofs.Ytfoadgbffidgaaa.P

namespace Go.Proofs.Ytfoadgbffidgaaa.P
open Go.RowKit Go.Proofs.YtfoadgbffidgaaaW.PrintWords Go.Proofs.YtfoadgbffidgaaaW.PrintLast Go.Proofs.YtfoadgbffidgaaaW.PrintMore
attribute [local go_sem] max2_int min2_int max_two min_two max_three min_three max_four min_four   -- for this text's walks alone
set_option linter.unusedVariables false
set_option linter.unusedSimpArgs false

/-! ### spec_SystemIn: function 55 -/
mutual
def spec_SystemIn.j0 : Nat → List Int → Bool → Option (Bool)
  | 0, _, _ => none
  | k + 1, x0, x17 => if x17 = true then (some false) else (spec_SystemIn.l0 k x0 0)
def spec_SystemIn.l0 : Nat → List Int → Int → Option (Bool)
  | 0, _, _ => none
  | k + 1, x0, x3 => if x3 < 9 then (spec_SystemIn.l1 k x0 x3 0) else (some true)
def spec_SystemIn.l1 : Nat → List Int → Int → Int → Option (Bool)
  | 0, _, _, _ => none
  | k + 1, x0, x3, x4 => if x4 < x3 then ((spec_l2Solves.f x0 x3 x4).bind fun t191 => (if t191 = true then (spec_SystemIn.l1 k x0 x3 (wrap64 (x4 + 1))) else (some false))) else (spec_SystemIn.l0 k x0 (wrap64 (x3 + 1)))
end
def spec_SystemIn.f (k : Nat) (l0 : List Int) : Option (Bool) := (spec_l2Table.f k l0).bind fun t188 => (if t188 = true then ((spec_l2Units.f k l0).bind fun t189 => (if t189 = true then ((spec_l2Shares.f l0).bind fun t190 => (spec_SystemIn.j0 k l0 (!t190))) else (spec_SystemIn.j0 k l0 true))) else (spec_SystemIn.j0 k l0 true))
theorem spec_SystemIn.mono_l : ∀ k, (∀ y0 y1, LeO (spec_SystemIn.j0 k y0 y1) (spec_SystemIn.j0 (k + 1) y0 y1)) ∧ (∀ y0 y1, LeO (spec_SystemIn.l0 k y0 y1) (spec_SystemIn.l0 (k + 1) y0 y1)) ∧ (∀ y0 y1 y2, LeO (spec_SystemIn.l1 k y0 y1 y2) (spec_SystemIn.l1 (k + 1) y0 y1 y2))
  | 0 => ⟨fun _ _ r h => by simp [spec_SystemIn.j0] at h, fun _ _ r h => by simp [spec_SystemIn.l0] at h, fun _ _ _ r h => by simp [spec_SystemIn.l1] at h⟩
  | k + 1 => by
    obtain ⟨ih0, ih1, ih2⟩ := spec_SystemIn.mono_l k
    refine ⟨?_, ?_, ?_⟩
    · intro y0 y1
      unfold spec_SystemIn.j0
      repeat' first
      | (with_reducible exact ih0 _ _)
      | (with_reducible exact ih1 _ _)
      | (with_reducible exact ih2 _ _ _)
      | (with_reducible exact spec_l2Table.mono _ _)
      | (with_reducible exact spec_l2Units.mono _ _)
      | (with_reducible exact LeO.refl _)
      | (with_reducible exact LeO.none _)
      | (with_reducible refine LeO.ite ?_ ?_)
      | (with_reducible refine LeO.bind ?_ (fun _ => ?_))
      | exact ih0 _ _
      | exact ih1 _ _
      | exact ih2 _ _ _
      | exact spec_l2Table.mono _ _
      | exact spec_l2Units.mono _ _
      | exact LeO.none _
      | refine LeO.ite ?_ ?_
      | refine LeO.bind ?_ (fun _ => ?_)
    · intro y0 y1
      unfold spec_SystemIn.l0
      repeat' first
      | (with_reducible exact ih0 _ _)
      | (with_reducible exact ih1 _ _)
      | (with_reducible exact ih2 _ _ _)
      | (with_reducible exact spec_l2Table.mono _ _)
      | (with_reducible exact spec_l2Units.mono _ _)
      | (with_reducible exact LeO.refl _)
      | (with_reducible exact LeO.none _)
      | (with_reducible refine LeO.ite ?_ ?_)
      | (with_reducible refine LeO.bind ?_ (fun _ => ?_))
      | exact ih0 _ _
      | exact ih1 _ _
      | exact ih2 _ _ _
      | exact spec_l2Table.mono _ _
      | exact spec_l2Units.mono _ _
      | exact LeO.none _
      | refine LeO.ite ?_ ?_
      | refine LeO.bind ?_ (fun _ => ?_)
    · intro y0 y1 y2
      unfold spec_SystemIn.l1
      repeat' first
      | (with_reducible exact ih0 _ _)
      | (with_reducible exact ih1 _ _)
      | (with_reducible exact ih2 _ _ _)
      | (with_reducible exact spec_l2Table.mono _ _)
      | (with_reducible exact spec_l2Units.mono _ _)
      | (with_reducible exact LeO.refl _)
      | (with_reducible exact LeO.none _)
      | (with_reducible refine LeO.ite ?_ ?_)
      | (with_reducible refine LeO.bind ?_ (fun _ => ?_))
      | exact ih0 _ _
      | exact ih1 _ _
      | exact ih2 _ _ _
      | exact spec_l2Table.mono _ _
      | exact spec_l2Units.mono _ _
      | exact LeO.none _
      | refine LeO.ite ?_ ?_
      | refine LeO.bind ?_ (fun _ => ?_)
theorem spec_SystemIn.mono : ∀ a0 k, LeO (spec_SystemIn.f k a0) (spec_SystemIn.f (k + 1) a0) := by
  intro a0 k
  obtain ⟨ih0, ih1, ih2⟩ := spec_SystemIn.mono_l k
  unfold spec_SystemIn.f
  repeat' first
      | (with_reducible exact ih0 _ _)
      | (with_reducible exact ih1 _ _)
      | (with_reducible exact ih2 _ _ _)
      | (with_reducible exact spec_l2Table.mono _ _)
      | (with_reducible exact spec_l2Units.mono _ _)
      | (with_reducible exact LeO.refl _)
      | (with_reducible exact LeO.none _)
      | (with_reducible refine LeO.ite ?_ ?_)
      | (with_reducible refine LeO.bind ?_ (fun _ => ?_))
      | exact ih0 _ _
      | exact ih1 _ _
      | exact ih2 _ _ _
      | exact spec_l2Table.mono _ _
      | exact spec_l2Units.mono _ _
      | exact LeO.none _
      | refine LeO.ite ?_ ?_
      | refine LeO.bind ?_ (fun _ => ?_)
set_option maxHeartbeats 8000000 in
set_option maxRecDepth 100000 in
theorem spec_SystemIn.calls (k : Nat) (A0 : Option Addr) (c0 : Nat) (l0 : List Int) (r : Bool) (w : World) (hr0 : Kd.C (Kd.int .i64) w A0 l0.length l0) (hc0 : l0.length ≤ c0) (h : spec_SystemIn.f k l0 = some r) :
    Calls Try.prog 55 #[.slice A0 l0.length c0] w fun e w' => e = .returned (.bool r) ∧ Below w.heap.size w w' := by
  have HR0 := Aside0.mk hr0
  have HC0 := Aside0.mk hc0
  clear hr0 hc0
  have HB := Aside0.mk (Below.refl w.heap.size w)
  have H : ((spec_l2Table.f k l0).bind fun t188 => (if t188 = true then ((spec_l2Units.f k l0).bind fun t189 => (if t189 = true then ((spec_l2Shares.f l0).bind fun t190 => (spec_SystemIn.j0 k l0 (!t190))) else (spec_SystemIn.j0 k l0 true))) else (spec_SystemIn.j0 k l0 true))) = some r := h
  clear h
  have HC2 := Aside0.mk H
  clear H
  go_enter Try.func55, Try.ntmps55
  go_upto_region 1 with (fail)
  go_cut [17] (fun v17 wc => ∃ (kq : Nat) (x17_1 : Bool), v17 = .bool x17_1 ∧ Aside0 (spec_SystemIn.j0 kq l0 x17_1 = some r) ∧ Aside0 (kq ≤ k) ∧ Aside0 (Below w.heap.size w wc))
  case first =>
    have H := HC2.out
    clear HC2
    replace H := Option.bind_eq_some_iff.mp H
    obtain ⟨t188, A30, H⟩ := H
    replace H : (if t188 = true then ((spec_l2Units.f k l0).bind fun t189 => (if t189 = true then ((spec_l2Shares.f l0).bind fun t190 => (spec_SystemIn.j0 k l0 (!t190))) else (spec_SystemIn.j0 k l0 true))) else (spec_SystemIn.j0 k l0 true)) = some r := H
    have A3 := Aside0.mk A30
    clear A30
    by_cases c4 : t188 = true
    · subst c4
      have H1 : ((spec_l2Units.f k l0).bind fun t189 => (if t189 = true then ((spec_l2Shares.f l0).bind fun t190 => (spec_SystemIn.j0 k l0 (!t190))) else (spec_SystemIn.j0 k l0 true))) = some r := by rw [if_pos rfl] at H; exact H
      clear H
      have H := H1
      clear H1
      replace H := Option.bind_eq_some_iff.mp H
      obtain ⟨t189, A50, H⟩ := H
      replace H : (if t189 = true then ((spec_l2Shares.f l0).bind fun t190 => (spec_SystemIn.j0 k l0 (!t190))) else (spec_SystemIn.j0 k l0 true)) = some r := H
      have A5 := Aside0.mk A50
      clear A50
      by_cases c6 : t189 = true
      · subst c6
        have H1 : ((spec_l2Shares.f l0).bind fun t190 => (spec_SystemIn.j0 k l0 (!t190))) = some r := by rw [if_pos rfl] at H; exact H
        clear H
        have H := H1
        clear H1
        replace H := Option.bind_eq_some_iff.mp H
        obtain ⟨t190, A70, H⟩ := H
        replace H : (spec_SystemIn.j0 k l0 (!t190)) = some r := H
        have A7 := Aside0.mk A70
        clear A70
        have H' := Aside0.mk H
        clear H
        go_wp2_with (first | ((with_reducible refine gate_callee (f := 75) rfl ?_); refine goesL_ (some 6) rfl rfl Try.func75 (by kernel_rfl) rfl #[.slice A0 l0.length c0] rfl (by (try simp only [List.map_toArray, List.map_cons, List.map_nil]); first | done | rfl | (simp only [List.length_drop, List.length_take]; rfl)) ?_; (with_reducible refine (spec_l2Table.calls k _ _ l0 true _ ?side1 ?side2 A3.out).mono ?_); (case side1 => repeat (first | exact (Kd.C_below HR0.out HB.out) | (with_reducible refine Kd.C_alloc ?_ _) | (with_reducible refine Kd.C_drewN ?_ _) | (with_reducible refine Kd.C_drew ?_))); (case side2 => exact HC0.out); rintro e w' ⟨rfl, ⟨nd, rfl⟩⟩; refine ⟨_, rfl, ?_⟩) | (go_at_call 101; (with_reducible refine (spec_l2Units.calls k _ _ l0 true _ ?side1 ?side2 A5.out).mono ?_); (case side1 => repeat (first | exact (Kd.C_below HR0.out (by repeat (first | (with_reducible first | exact HB.out | apply below_alloc | apply pw_below_drewN | apply below_drew1) | exact HB.out))) | (with_reducible refine Kd.C_alloc ?_ _) | (with_reducible refine Kd.C_drewN ?_ _) | (with_reducible refine Kd.C_drew ?_))); (case side2 => exact HC0.out); rintro e w' ⟨rfl, ⟨nd, rfl⟩⟩) | (go_at_call 102; (with_reducible refine (spec_l2Shares.calls _ _ l0 t190 _ ?side1 ?side2 A7.out).mono ?_); (case side1 => repeat (first | exact (Kd.C_below HR0.out (by repeat (first | (with_reducible first | exact HB.out | apply below_alloc | apply pw_below_drewN | apply below_drew1) | exact HB.out))) | (with_reducible refine Kd.C_alloc ?_ _) | (with_reducible refine Kd.C_drewN ?_ _) | (with_reducible refine Kd.C_drew ?_))); (case side2 => exact HC0.out); rintro e w' ⟨rfl, ⟨nd, rfl⟩⟩))
        go_meet
        case rel => exact ⟨_, (!t190), (by first | rfl | (simp; done) | (simp [*]; done)), H', ⟨by first | omega | exact Nat.le_refl _⟩, ⟨by repeat (first | (with_reducible first | exact HB.out | apply below_alloc | apply pw_below_drewN | apply below_drew1) | exact HB.out)⟩⟩
      · replace c6 := Bool.eq_false_iff.mpr c6
        subst c6
        have H1 : (spec_SystemIn.j0 k l0 true) = some r := by rw [if_neg (show ¬ (false = true) by decide)] at H; exact H
        clear H
        have H := H1
        clear H1
        have H' := Aside0.mk H
        clear H
        go_wp2_with (first | ((with_reducible refine gate_callee (f := 75) rfl ?_); refine goesL_ (some 6) rfl rfl Try.func75 (by kernel_rfl) rfl #[.slice A0 l0.length c0] rfl (by (try simp only [List.map_toArray, List.map_cons, List.map_nil]); first | done | rfl | (simp only [List.length_drop, List.length_take]; rfl)) ?_; (with_reducible refine (spec_l2Table.calls k _ _ l0 true _ ?side1 ?side2 A3.out).mono ?_); (case side1 => repeat (first | exact (Kd.C_below HR0.out HB.out) | (with_reducible refine Kd.C_alloc ?_ _) | (with_reducible refine Kd.C_drewN ?_ _) | (with_reducible refine Kd.C_drew ?_))); (case side2 => exact HC0.out); rintro e w' ⟨rfl, ⟨nd, rfl⟩⟩; refine ⟨_, rfl, ?_⟩) | (go_at_call 101; (with_reducible refine (spec_l2Units.calls k _ _ l0 false _ ?side1 ?side2 A5.out).mono ?_); (case side1 => repeat (first | exact (Kd.C_below HR0.out (by repeat (first | (with_reducible first | exact HB.out | apply below_alloc | apply pw_below_drewN | apply below_drew1) | exact HB.out))) | (with_reducible refine Kd.C_alloc ?_ _) | (with_reducible refine Kd.C_drewN ?_ _) | (with_reducible refine Kd.C_drew ?_))); (case side2 => exact HC0.out); rintro e w' ⟨rfl, ⟨nd, rfl⟩⟩))
        go_meet
        case rel => exact ⟨_, (true), (by first | rfl | (simp; done) | (simp [*]; done)), H', ⟨by first | omega | exact Nat.le_refl _⟩, ⟨by repeat (first | (with_reducible first | exact HB.out | apply below_alloc | apply pw_below_drewN | apply below_drew1) | exact HB.out)⟩⟩
    · replace c4 := Bool.eq_false_iff.mpr c4
      subst c4
      have H1 : (spec_SystemIn.j0 k l0 true) = some r := by rw [if_neg (show ¬ (false = true) by decide)] at H; exact H
      clear H
      have H := H1
      clear H1
      have H' := Aside0.mk H
      clear H
      go_wp2_with (first | ((with_reducible refine gate_callee (f := 75) rfl ?_); refine goesL_ (some 6) rfl rfl Try.func75 (by kernel_rfl) rfl #[.slice A0 l0.length c0] rfl (by (try simp only [List.map_toArray, List.map_cons, List.map_nil]); first | done | rfl | (simp only [List.length_drop, List.length_take]; rfl)) ?_; (with_reducible refine (spec_l2Table.calls k _ _ l0 false _ ?side1 ?side2 A3.out).mono ?_); (case side1 => repeat (first | exact (Kd.C_below HR0.out HB.out) | (with_reducible refine Kd.C_alloc ?_ _) | (with_reducible refine Kd.C_drewN ?_ _) | (with_reducible refine Kd.C_drew ?_))); (case side2 => exact HC0.out); rintro e w' ⟨rfl, ⟨nd, rfl⟩⟩; refine ⟨_, rfl, ?_⟩))
      go_meet
      case rel => exact ⟨_, (true), (by first | rfl | (simp; done) | (simp [*]; done)), H', ⟨by first | omega | exact Nat.le_refl _⟩, ⟨by repeat (first | (with_reducible first | exact HB.out | apply below_alloc | apply pw_below_drewN | apply below_drew1) | exact HB.out)⟩⟩
  case rest =>
    clear HC2
    try clear p2
    try clear c4
    try clear c5
    try clear c6
    try clear c7
    obtain ⟨kq, x17_1, rfl, HA, HJ1, HB⟩ := hcut
    cases kq with
    | zero => exact absurd HA.out (by simp [spec_SystemIn.j0])
    | succ kj1 =>
      have H := HA.out
      clear HA
      simp only [spec_SystemIn.j0] at H
      by_cases c8 : x17_1 = true
      · subst c8
        have H1 : (some false) = some r := by rw [if_pos rfl] at H; exact H
        clear H
        have H := H1
        clear H1
        obtain rfl := Option.some.inj H
        go_wp2
        go_ret
        exact ⟨by first | rfl | (simp [errW_none, errW_some] <;> rfl) | (simp [*, errW_none, errW_some] <;> rfl), by repeat (first | (with_reducible first | exact HB.out | apply below_alloc | apply pw_below_drewN | apply below_drew1) | exact HB.out)⟩
      · replace c8 := Bool.eq_false_iff.mpr c8
        subst c8
        have H1 : (spec_SystemIn.l0 kj1 l0 0) = some r := by rw [if_neg (show ¬ (false = true) by decide)] at H; exact H
        clear H
        have H := H1
        clear H1
        have H' := Aside0.mk H
        clear H
        go_wp2
        go_loopg [3] kj1 (fun kq v3 w' => ∃ (x3_2 : Int), v3 = .int .i64 x3_2 ∧ Aside0 (spec_SystemIn.l0 kq l0 x3_2 = some r) ∧ Aside0 (kq ≤ kj1) ∧ Aside0 (Below w.heap.size w w'))
        case atStart => exact ⟨(0), (by first | rfl | (simp; done) | (simp [*]; done)), H', ⟨Nat.le_refl _⟩, ⟨by repeat (first | (with_reducible first | exact HB.out | apply below_alloc | apply pw_below_drewN | apply below_drew1) | exact HB.out)⟩⟩
        case round =>
          clear H'
          try clear p2
          try clear c4
          try clear c5
          try clear c6
          try clear c7
          try clear c8
          try clear p2
          obtain ⟨x3_2, rfl, HA, HK2, HB⟩ := hrel
          cases gk with
          | zero => exact absurd HA.out (by simp [spec_SystemIn.l0])
          | succ k2 =>
            have H := HA.out
            clear HA
            simp only [spec_SystemIn.l0] at H
            by_cases c9 : x3_2 < 9
            · rw [if_pos c9] at H
              have c9b0 : decide (x3_2 < 9) = true := decide_eq_true c9
              clear c9
              have H' := Aside0.mk H
              clear H
              go_wp2
              go_loopg [4] k2 (fun kq v4 w' => ∃ (x4_3 : Int), v4 = .int .i64 x4_3 ∧ Aside0 (spec_SystemIn.l1 kq l0 x3_2 x4_3 = some r) ∧ Aside0 (kq ≤ k2) ∧ Aside0 (Below w.heap.size w w'))
              case atStart => exact ⟨(0), (by first | rfl | (simp; done) | (simp [*]; done)), H', ⟨Nat.le_refl _⟩, ⟨by repeat (first | (with_reducible first | exact HB.out | apply below_alloc | apply pw_below_drewN | apply below_drew1) | exact HB.out)⟩⟩
              case round =>
                clear H'
                try clear p2
                try clear c4
                try clear c5
                try clear c6
                try clear c7
                try clear c8
                try clear c9
                try clear c9b0
                try clear p2
                obtain ⟨x4_3, rfl, HA, HK3, HB⟩ := hrel
                cases gk with
                | zero => exact absurd HA.out (by simp [spec_SystemIn.l1])
                | succ k3 =>
                  have H := HA.out
                  clear HA
                  simp only [spec_SystemIn.l1] at H
                  by_cases c10 : x4_3 < x3_2
                  · rw [if_pos c10] at H
                    have c10b0 : decide (x4_3 < x3_2) = true := decide_eq_true c10
                    clear c10
                    replace H := Option.bind_eq_some_iff.mp H
                    obtain ⟨t191, A110, H⟩ := H
                    replace H : (if t191 = true then (spec_SystemIn.l1 k3 l0 x3_2 (wrap64 (x4_3 + 1))) else (some false)) = some r := H
                    have A11 := Aside0.mk A110
                    clear A110
                    by_cases c12 : t191 = true
                    · subst c12
                      have H1 : (spec_SystemIn.l1 k3 l0 x3_2 (wrap64 (x4_3 + 1))) = some r := by rw [if_pos rfl] at H; exact H
                      clear H
                      have H := H1
                      clear H1
                      have H' := Aside0.mk H
                      clear H
                      go_wp2_with (first | ((with_reducible refine gate_callee (f := 103) rfl ?_); refine goesL_ (some 30) rfl rfl Try.func103 (by kernel_rfl) rfl #[.slice A0 l0.length c0, .int .i64 x3_2, .int .i64 x4_3] rfl (by (try simp only [List.map_toArray, List.map_cons, List.map_nil]); first | done | rfl | (simp only [List.length_drop, List.length_take]; rfl)) ?_; (with_reducible refine (spec_l2Solves.calls _ _ l0 x3_2 x4_3 true _ ?side1 ?side2 A11.out).mono ?_); (case side1 => repeat (first | exact (Kd.C_below HR0.out HB.out) | (with_reducible refine Kd.C_alloc ?_ _) | (with_reducible refine Kd.C_drewN ?_ _) | (with_reducible refine Kd.C_drew ?_))); (case side2 => exact HC0.out); rintro e w13 ⟨rfl, hb⟩; refine ⟨_, rfl, ?_⟩; have n0_ := Aside0.mk (below_step (by repeat (first | (with_reducible first | exact HB.out | apply below_alloc | apply pw_below_drewN | apply below_drew1) | exact HB.out)) hb); clear HB; have HB := n0_; clear n0_; (try clear hb); (try clear hb2); (try clear hk); (try clear hi)))
                      go_roundg k3
                      case measure => have := HJ1.out; have := HK2.out; have := HK3.out; omega
                      case rel => exact ⟨(wrap64 (x4_3 + 1)), (by first | rfl | (simp; done) | (simp [*]; done)), H', ⟨by have := HJ1.out; have := HK2.out; have := HK3.out; omega⟩, ⟨by repeat (first | (with_reducible first | exact HB.out | apply below_alloc | apply pw_below_drewN | apply below_drew1) | exact HB.out)⟩⟩
                    · replace c12 := Bool.eq_false_iff.mpr c12
                      subst c12
                      have H1 : (some false) = some r := by rw [if_neg (show ¬ (false = true) by decide)] at H; exact H
                      clear H
                      have H := H1
                      clear H1
                      obtain rfl := Option.some.inj H
                      go_wp2_with (first | ((with_reducible refine gate_callee (f := 103) rfl ?_); refine goesL_ (some 30) rfl rfl Try.func103 (by kernel_rfl) rfl #[.slice A0 l0.length c0, .int .i64 x3_2, .int .i64 x4_3] rfl (by (try simp only [List.map_toArray, List.map_cons, List.map_nil]); first | done | rfl | (simp only [List.length_drop, List.length_take]; rfl)) ?_; (with_reducible refine (spec_l2Solves.calls _ _ l0 x3_2 x4_3 false _ ?side1 ?side2 A11.out).mono ?_); (case side1 => repeat (first | exact (Kd.C_below HR0.out HB.out) | (with_reducible refine Kd.C_alloc ?_ _) | (with_reducible refine Kd.C_drewN ?_ _) | (with_reducible refine Kd.C_drew ?_))); (case side2 => exact HC0.out); rintro e w14 ⟨rfl, hb⟩; refine ⟨_, rfl, ?_⟩; have n0_ := Aside0.mk (below_step (by repeat (first | (with_reducible first | exact HB.out | apply below_alloc | apply pw_below_drewN | apply below_drew1) | exact HB.out)) hb); clear HB; have HB := n0_; clear n0_; (try clear hb); (try clear hb2); (try clear hk); (try clear hi)))
                      go_ret
                      exact ⟨by first | rfl | (simp [errW_none, errW_some] <;> rfl) | (simp [*, errW_none, errW_some] <;> rfl), by repeat (first | (with_reducible first | exact HB.out | apply below_alloc | apply pw_below_drewN | apply below_drew1) | exact HB.out)⟩
                  · rw [if_neg c10] at H
                    have c10b0 : decide (x4_3 < x3_2) = false := decide_eq_false c10
                    clear c10
                    have H' := Aside0.mk H
                    clear H
                    go_wp2
                    go_roundg k3
                    case measure => have := HJ1.out; have := HK2.out; have := HK3.out; omega
                    case rel => exact ⟨(wrap64 (x3_2 + 1)), (by first | rfl | (simp; done) | (simp [*]; done)), H', ⟨by have := HJ1.out; have := HK2.out; have := HK3.out; omega⟩, ⟨by repeat (first | (with_reducible first | exact HB.out | apply below_alloc | apply pw_below_drewN | apply below_drew1) | exact HB.out)⟩⟩
            · rw [if_neg c9] at H
              have c9b0 : decide (x3_2 < 9) = false := decide_eq_false c9
              clear c9
              obtain rfl := Option.some.inj H
              go_wp2
              go_ret
              exact ⟨by first | rfl | (simp [errW_none, errW_some] <;> rfl) | (simp [*, errW_none, errW_some] <;> rfl), by repeat (first | (with_reducible first | exact HB.out | apply below_alloc | apply pw_below_drewN | apply below_drew1) | exact HB.out)⟩

end Go.Proofs.Ytfoadgbffidgaaa.P

set_option linter.unusedVariables false
set_option linter.unusedSimpArgs false
namespace Go.Proofs.Ytfoadgbffidgaaa.X
open Go.RowKit Go.Proofs.YtfoadgbffidgaaaW.PrintWords Go.Proofs.YtfoadgbffidgaaaW.PrintLast Go.Proofs.Ytfoadgbffidgaaa.P

theorem l6In_eq (a b c : Int) : spec_l6In.f a b c = some (decide (b ≤ a) && decide (a ≤ c)) := by
  unfold spec_l6In.f
  by_cases h : a ≥ b
  · rw [if_pos h, decide_eq_true h]; simp
  · rw [if_neg h, decide_eq_false h]; simp
theorem l1In_eq (a : Int) : spec_l1In.f a = some (isN a) := by
  unfold spec_l1In.f isN
  rw [l6In_eq]
  show some _ = _
  rw [show decide (a ≤ 8) = decide (a < 9) from decide_eq_decide.2 (by omega)]
theorem l2Table_loop (l : List Int) (hl : l.length ≤ 1048576) (d : Nat) : ∀ (i : Int), 0 ≤ i → i + d = l.length → (∀ j : Nat, (j : Int) < i → isN (rd l j) = true) → Ev (fun k => spec_l2Table.l0 k l i) (ninesB l 81) := by
  induction d with
  | zero =>
    intro i h0 h1 h
    refine Ev.step (fun k => by rw [spec_l2Table.l0]) ?_
    refine Ev.neg (by omega) (Ev.done ?_)
    have ha : l.all isN = true := by
      rw [List.all_eq_true]
      intro x hx
      obtain ⟨j, hj, rfl⟩ := List.mem_iff_getElem.1 hx
      rw [← rd_cast l j hj]
      exact h j (by omega)
    unfold ninesB
    rw [ha, Bool.and_true]
    congr 1
    rw [Bool.eq_iff_iff]; simp; omega
  | succ d ih =>
    intro i h0 h1 h
    refine Ev.step (fun k => by rw [spec_l2Table.l0]) ?_
    simp (disch := omega) only [w64, l1In_eq, Option.bind_some]
    refine Ev.pos (by omega) (Ev.pos (by omega) ?_)
    by_cases e : isN (rd l i) = true
    · refine Ev.pos e (ih (i + 1) (by omega) (by omega) fun j hj => ?_)
      by_cases ej : (j : Int) = i
      · rw [ej]; exact e
      · exact h j (by omega)
    · refine Ev.neg e (Ev.done ?_)
      have : l.all isN = false := by
        rw [List.all_eq_false]
        exact ⟨rd l i, rd_mem (by omega) h0, e⟩
      unfold ninesB
      rw [this, Bool.and_false]
theorem l2Table_ev (l : List Int) (hl : l.length ≤ 1048576) : Ev (fun k => spec_l2Table.f k l) (ninesB l 81) :=
  l2Table_loop l hl l.length 0 (by omega) (by omega) (fun j h => by omega)
theorem l2Units_loop (t : List Int) (hl : t.length = 81) (d : Nat) : ∀ (i : Int), 0 ≤ i → i + d = 9 → (∀ x : Int, 0 ≤ x → x < i → unitB t x = true) → Ev (fun k => spec_l2Units.l0 k t i) (unitsB t) := by
  induction d with
  | zero =>
    intro i h0 h1 h
    refine Ev.step (fun k => by rw [spec_l2Units.l0]) ?_
    refine Ev.neg (by omega) (Ev.done ?_)
    rw [unitsB_iff.2 fun x x0 x1 => h x x0 (by omega)]
  | succ d ih =>
    intro i h0 h1 h
    have hu : unitB t i = (decide (rd t i = 0) && decide (rd t (9 * i) = 0) && decide (rd t (9 + i) = i) && decide (rd t (9 * i + 1) = i)) := rfl
    refine Ev.step (fun k => by rw [spec_l2Units.l0]) ?_
    have z1 : wrap64 (9 * i) = 9 * i := w64 (by omega) (by omega)
    have z2 : wrap64 (9 + i) = 9 + i := w64 (by omega) (by omega)
    have z3 : wrap64 (9 * i + 1) = 9 * i + 1 := w64 (by omega) (by omega)
    have z4 : wrap64 (i + 1) = i + 1 := w64 (by omega) (by omega)
    simp only [z1, z2, z3, z4]
    refine Ev.pos (by omega) (Ev.pos (by omega) (Ev.pos (by omega) ?_))
    by_cases e1 : rd t i = 0
    case neg => exact Ev.neg e1 (Ev.done (by rw [unitsB_hit h0 (by omega) (by rw [hu, decide_eq_false e1]; rfl)]))
    refine Ev.pos e1 (Ev.pos (by omega) (Ev.pos (by omega) ?_))
    by_cases e2 : rd t (9 * i) = 0
    case neg => exact Ev.neg e2 (Ev.done (by rw [unitsB_hit h0 (by omega) (by rw [hu, decide_eq_false e2, Bool.and_false]; rfl)]))
    refine Ev.pos e2 (Ev.pos (by omega) (Ev.pos (by omega) ?_))
    by_cases e3 : rd t (9 + i) = i
    case neg => exact Ev.neg e3 (Ev.done (by rw [unitsB_hit h0 (by omega) (by rw [hu, decide_eq_false e3, Bool.and_false]; rfl)]))
    refine Ev.pos e3 (Ev.pos (by omega) (Ev.pos (by omega) ?_))
    by_cases e4 : rd t (9 * i + 1) = i
    case neg => exact Ev.neg e4 (Ev.done (by rw [unitsB_hit h0 (by omega) (by rw [hu, decide_eq_false e4, Bool.and_false])]))
    refine Ev.pos e4 (ih (i + 1) (by omega) (by omega) fun x x0 x1 => ?_)
    by_cases e : x = i
    · rw [e, hu, decide_eq_true e1, decide_eq_true e2, decide_eq_true e3, decide_eq_true e4]; rfl
    · exact h x x0 (by omega)
theorem l2Units_ev (t : List Int) (hl : t.length = 81) : Ev (fun k => spec_l2Units.f k t) (unitsB t) :=
  l2Units_loop t hl 9 0 (by omega) (by omega) (fun x h0 h1 => by omega)
theorem SystemIn_l1 (t : List Int) (hn : ninesB t 81 = true) (c : Int) (hc : In9 c) (hr : (∀ d : Int, 0 ≤ d → d < c → gapsB t c d = true) → Ev (fun k => spec_SystemIn.l0 k t (c + 1)) (solvesB t)) (n : Nat) :
    ∀ (d : Int), 0 ≤ d → d + n = c → (∀ x : Int, 0 ≤ x → x < d → gapsB t c x = true) → Ev (fun k => spec_SystemIn.l1 k t c d) (solvesB t) := by
  obtain ⟨c0, c1⟩ := hc
  induction n with
  | zero =>
    intro d h0 h1 h
    refine Ev.step (fun k => by rw [spec_SystemIn.l1]) ?_
    simp (disch := omega) only [w64]
    exact Ev.neg (by omega) (hr fun x x0 x1 => h x x0 (by omega))
  | succ n ih =>
    intro d h0 h1 h
    refine Ev.step (fun k => by rw [spec_SystemIn.l1]) ?_
    have hs : spec_l2Solves.f t c d = some (gapsB t c d) := by unfold spec_l2Solves.f; exact if_pos ⟨hn, ⟨c0, c1⟩, ⟨h0, by omega⟩⟩
    simp (disch := omega) only [w64, hs, Option.bind_some]
    refine Ev.pos (by omega) ?_
    by_cases e : gapsB t c d = true
    · refine Ev.pos e (ih (d + 1) (by omega) (by omega) fun x x0 x1 => ?_)
      by_cases ex : x = d
      · rw [ex]; exact e
      · exact h x x0 (by omega)
    · refine Ev.neg e (Ev.done ?_)
      rw [solvesB_hit h0 (by omega) c1 (Bool.eq_false_iff.2 e)]
theorem SystemIn_l0 (t : List Int) (hn : ninesB t 81 = true) (n : Nat) : ∀ (c : Int), 0 ≤ c → c + n = 9 → (∀ x y : Int, 0 ≤ y → y < x → x < c → gapsB t x y = true) → Ev (fun k => spec_SystemIn.l0 k t c) (solvesB t) := by
  induction n with
  | zero =>
    intro c h0 h1 h
    refine Ev.step (fun k => by rw [spec_SystemIn.l0]) ?_
    refine Ev.neg (by omega) (Ev.done ?_)
    rw [solvesB_all fun x y y0 yx x9 => h x y y0 yx (by omega)]
  | succ n ih =>
    intro c h0 h1 h
    refine Ev.step (fun k => by rw [spec_SystemIn.l0]) ?_
    refine Ev.pos (by omega) ?_
    refine SystemIn_l1 t hn c ⟨h0, by omega⟩ (fun hg => ih (c + 1) (by omega) (by omega) fun x y y0 yx x1 => ?_) c.toNat 0 (by omega) (by omega) (fun x x0 x1 => by omega)
    by_cases e : x = c
    · subst e; exact hg y y0 yx
    · exact h x y y0 yx (by omega)
theorem SystemIn_ev (t : List Int) (hl : t.length ≤ 1048576) : Ev (fun k => spec_SystemIn.f k t) (sysB t) := by
  unfold spec_SystemIn.f
  refine Ev.bind (l2Table_ev t hl) ?_
  by_cases hn : ninesB t 81 = true
  case neg =>
    refine Ev.neg hn (Ev.step (fun k => by rw [spec_SystemIn.j0]) (Ev.pos rfl (Ev.done ?_)))
    unfold sysB; rw [Bool.eq_false_iff.2 hn]; rfl
  refine Ev.pos hn (Ev.bind (l2Units_ev t (ninesB_iff.1 hn).1) ?_)
  by_cases hu : unitsB t = true
  case neg =>
    refine Ev.neg hu (Ev.step (fun k => by rw [spec_SystemIn.j0]) (Ev.pos rfl (Ev.done ?_)))
    rw [sysB_of hn, Bool.eq_false_iff.2 hu]; rfl
  have hs : spec_l2Shares.f t = some (sharesB t) := by unfold spec_l2Shares.f; exact if_pos hn
  refine Ev.pos hu (Ev.fix hs ?_)
  rw [sysB_of hn, hu]
  by_cases h : sharesB t = true
  · rw [h]
    refine Ev.step (fun k => by rw [spec_SystemIn.j0]) ?_
    refine Ev.neg (by simp) ?_
    exact SystemIn_l0 t hn 9 0 (by omega) (by omega) (fun x y h0 h1 h2 => by omega)
  · rw [Bool.eq_false_iff.2 h]
    refine Ev.step (fun k => by rw [spec_SystemIn.j0]) ?_
    exact Ev.pos rfl (Ev.done rfl)

end Go.Proofs.Ytfoadgbffidgaaa.X

set_option linter.unusedVariables false
set_option linter.unusedSimpArgs false
namespace Go.Proofs.Ytfoadgbffidgaaa.X
open Go.RowKit Go.Proofs.YtfoadgbffidgaaaW.PrintWords Go.Proofs.YtfoadgbffidgaaaW.PrintLast Go.Proofs.Ytfoadgbffidgaaa.P

def squareRow (s : List Int) (k : Int) : Bool := onceB fun x => rd s (9 * k + x)
def squareCol (s : List Int) (k : Int) : Bool := onceB fun x => rd s (9 * x + k)
def squareB (s : List Int) : Bool := ninesB s 81 && allI 9 fun k => squareRow s k && squareCol s k
theorem squareB_hit {s : List Int} {k : Int} (h0 : 0 ≤ k) (h1 : k < 9) (h : (squareRow s k && squareCol s k) = false) : squareB s = false := by
  cases e : squareB s with
  | false => rfl
  | true =>
    unfold squareB at e
    have := allI_int (Bool.and_eq_true _ _ ▸ e).2 k h0 h1
    rw [h] at this; exact absurd this (by decide)
theorem squareB_all {s : List Int} (hn : ninesB s 81 = true) (h : ∀ k : Int, 0 ≤ k → k < 9 → squareRow s k = true ∧ squareCol s k = true) : squareB s = true := by
  unfold squareB
  rw [hn, allI_int_iff.2 fun k k0 k1 => by rw [(h k k0 k1).1, (h k k0 k1).2]; rfl]; rfl

set_option maxHeartbeats 2000000 in
theorem isSquare1_calls (b bk : Nat) (A0 : Option Addr) (c0 : Nat) (s : List Int) (w : World) (hb : BoxT w b A0 c0 s) (hn : ninesB s 81 = true) (k : Int) (hK : In9 k)
    (hk : w.cell? ⟨bk, 0, none⟩ = some (.int .i64 k)) (x : Int) (hx : In9 x) :
    Calls Try.prog 114 #[.int .i64 x, .pointer (some ⟨b, 0, none⟩), .pointer (some ⟨bk, 0, none⟩)] w fun e w' => e = .returned (.int .i64 (rd s (9 * k + x))) ∧ Below w.heap.size w w' := by
  obtain ⟨hl, _⟩ := ninesB_iff.1 hn
  obtain ⟨ad, rfl⟩ := hb.some (by omega)
  obtain ⟨x0, x1⟩ := hx
  obtain ⟨k0, k1⟩ := hK
  have hcc := hb.cell
  have g1 := hb.at (9 * k + x) (by omega) (by omega)
  have hlen : 81 ≤ s.length := by omega
  clear hb hn hl
  go_enter Try.func114, Try.ntmps114
  go_wp2
  go_ret
  exact ⟨rfl, Below.refl _ _⟩
set_option maxHeartbeats 2000000 in
theorem isSquare2_calls (b bk : Nat) (A0 : Option Addr) (c0 : Nat) (s : List Int) (w : World) (hb : BoxT w b A0 c0 s) (hn : ninesB s 81 = true) (k : Int) (hK : In9 k)
    (hk : w.cell? ⟨bk, 0, none⟩ = some (.int .i64 k)) (x : Int) (hx : In9 x) :
    Calls Try.prog 115 #[.int .i64 x, .pointer (some ⟨b, 0, none⟩), .pointer (some ⟨bk, 0, none⟩)] w fun e w' => e = .returned (.int .i64 (rd s (9 * x + k))) ∧ Below w.heap.size w w' := by
  obtain ⟨hl, _⟩ := ninesB_iff.1 hn
  obtain ⟨ad, rfl⟩ := hb.some (by omega)
  obtain ⟨x0, x1⟩ := hx
  obtain ⟨k0, k1⟩ := hK
  have hcc := hb.cell
  have g1 := hb.at (9 * x + k) (by omega) (by omega)
  have hlen : 81 ≤ s.length := by omega
  clear hb hn hl
  go_enter Try.func115, Try.ntmps115
  go_wp2
  go_ret
  exact ⟨rfl, Below.refl _ _⟩
theorem entersQ1 : Eg 114 := enters_of Try.func114 (by kernel_rfl) rfl
theorem entersQ2 : Eg 115 := enters_of Try.func115 (by kernel_rfl) rfl

set_option maxRecDepth 100000 in
set_option maxHeartbeats 8000000 in
theorem isSquare_calls (A0 : Option Addr) (c0 : Nat) (t : List Int) (w : World) (hr : Kd.C (Kd.int .i64) w A0 t.length t) :
    Calls Try.prog 74 #[.slice A0 t.length c0] w fun e w' => e = .returned (.bool (squareB t)) ∧ Below w.heap.size w w' := by
  have hmf : ∀ (fn : Fn) (first cap : Array Value) (w : World), (Instr.makeFunc fn first cap).run Try.prog w = .ok (.func fn first cap) w := fun _ _ _ _ => rfl
  have HC0 := Aside0.mk (areNines_calls A0 c0 t 81 (w.alloc (.cells #[.slice A0 t.length c0] 27)) (BoxT.alloc (c0 := c0) hr).read)
  have HX := Aside0.mk (BoxT.alloc (c0 := c0) hr)
  have hB0 := Aside0.mk ((Below.refl w.heap.size w).alloc (Nat.le_refl _) (.cells #[.slice A0 t.length c0] 27))
  by_cases hn : ninesB t 81 = true
  case neg =>
    have hn := Bool.eq_false_iff.2 hn
    have e : squareB t = false := by unfold squareB; rw [hn]; rfl
    rw [e]
    have e2 : (decide ((t.length : Int) = 81) && t.all isN) = false := by
      unfold ninesB at hn
      rw [← hn, show decide ((t.length : Int) = 81) = decide (t.length = 81) from decide_eq_decide.2 (by omega)]
    rw [e2] at HC0
    clear hn e e2 hr HX
    go_enter Try.func74, Try.ntmps74
    go_wp2_with (go_at_call 104; refine HC0.out.mono ?_; rintro e w' ⟨rfl, hb⟩)
    go_ret
    exact ⟨rfl, hB0.out.trans (hb.mono (by simp))⟩
  case pos =>
    have e2 : (decide ((t.length : Int) = 81) && t.all isN) = true := by
      have := hn
      unfold ninesB at this
      rw [← this, show decide ((t.length : Int) = 81) = decide (t.length = 81) from decide_eq_decide.2 (by omega)]
    rw [e2] at HC0
    have HN := Aside0.mk hn
    obtain ⟨hl, _⟩ := ninesB_iff.1 hn
    have hlen : 81 ≤ t.length := by omega
    clear e2 hr hl hn
    go_enter Try.func74, Try.ntmps74
    go_wp2_with (go_at_call 104; refine HC0.out.mono ?_; rintro e w1 ⟨rfl, hb⟩)
    have HX1 := Aside0.mk (HX.out.below hb)
    have HB1 := Aside0.mk (hB0.out.trans (hb.mono (by simp)))
    clear hb HX hB0 HC0
    go_loopg [7] 9 (fun kq v9 w' => ∃ i : Int, v9 = .int .i64 i ∧ Aside0 (0 ≤ i ∧ i ≤ 9) ∧ Aside0 ((9 : Int) - i ≤ kq) ∧ Aside0 (∀ x : Int, 0 ≤ x → x < i → squareRow t x = true ∧ squareCol t x = true) ∧ Aside0 (BoxT w' w.heap.size A0 c0 t) ∧ Aside0 (Below w.heap.size w w'))
    case atStart => exact ⟨0, rfl, ⟨by omega⟩, ⟨by omega⟩, ⟨fun x h0 h1 => by omega⟩, HX1, HB1⟩
    case round =>
      clear HX1 HB1
      obtain ⟨d, rfl, HI, HK, HA, HX, HB⟩ := hrel
      have h0 : 0 ≤ d := HI.out.1
      by_cases c6 : d < 9
      · have hbel := (Below.refl wr.heap.size wr).alloc (Nat.le_refl _) (.cells #[.int .i64 d] 3)
        have HXd := Aside0.mk (HX.out.below hbel)
        have HBd := Aside0.mk (HB.out.alloc HB.out.size (.cells #[.int .i64 d] 3))
        have hdd : (wr.alloc (.cells #[.int .i64 d] 3)).cell? ⟨wr.heap.size, 0, none⟩ = some (.int .i64 d) := World.cell?_alloc_at _ _ _ _ rfl
        have hp1 : Fn1 114 #[.pointer (some ⟨w.heap.size, 0, none⟩), .pointer (some ⟨wr.heap.size, 0, none⟩)] (wr.alloc (.cells #[.int .i64 d] 3)) In9 (fun x => .int .i64 (rd t (9 * d + x))) :=
          fun W x hW hx => isSquare1_calls w.heap.size wr.heap.size A0 c0 t W (HXd.out.below hW) HN.out d ⟨h0, c6⟩ ((hW.cell (World.block_lt_of_cell? _ _ hdd)).trans hdd) x hx
        have hcall := isOnce_calls 114 #[.pointer (some ⟨w.heap.size, 0, none⟩), .pointer (some ⟨wr.heap.size, 0, none⟩)] entersQ1 _ _ hp1 (fun x hx => nines_rd HN.out (by have := hx.1; omega) (by have := hx.2; omega))
        have eg : onceB (fun x => rd t (9 * d + x)) = squareRow t d := rfl
        rw [eg] at hcall
        clear hp1 eg
        have HD := Aside0.mk hdd
        clear hdd hbel
        by_cases hg : squareRow t d = true
        · rw [hg] at hcall
          have HG := Aside0.mk hg
          have HCA := Aside0.mk hcall
          clear hg hcall
          go_wp2_with fail
          refine HCA.out.mono ?_
          rintro e w2 ⟨rfl, hb2⟩
          have HX2 := Aside0.mk (HXd.out.below hb2)
          have HB2 := Aside0.mk (bstep HBd.out hb2)
          have hd2 : w2.cell? ⟨wr.heap.size, 0, none⟩ = some (.int .i64 d) := (hb2.cell (World.block_lt_of_cell? _ _ HD.out)).trans HD.out
          have hp2 : Fn1 115 #[.pointer (some ⟨w.heap.size, 0, none⟩), .pointer (some ⟨wr.heap.size, 0, none⟩)] w2 In9 (fun x => .int .i64 (rd t (9 * x + d))) :=
            fun W x hW hx => isSquare2_calls w.heap.size wr.heap.size A0 c0 t W (HX2.out.below hW) HN.out d ⟨h0, c6⟩ ((hW.cell (World.block_lt_of_cell? _ _ hd2)).trans hd2) x hx
          have hcall := isOnce_calls 115 #[.pointer (some ⟨w.heap.size, 0, none⟩), .pointer (some ⟨wr.heap.size, 0, none⟩)] entersQ2 _ _ hp2 (fun x hx => nines_rd HN.out (by have := hx.1; omega) (by have := hx.2; omega))
          have eg : onceB (fun x => rd t (9 * x + d)) = squareCol t d := rfl
          rw [eg] at hcall
          clear hp2 eg hd2 hb2
          by_cases hg2 : squareCol t d = true
          · rw [hg2] at hcall
            have HG2 := Aside0.mk hg2
            have HCA2 := Aside0.mk hcall
            clear hg2 hcall
            go_wp2_with (go_at_call 107; refine HCA2.out.mono ?_; rintro e w3 ⟨rfl, hb3⟩)
            go_roundg (9 - (d.toNat + 1))
            case measure => have := HK.out; omega
            case rel =>
              refine ⟨d + 1, rfl, ⟨by omega⟩, ⟨by omega⟩, ⟨fun x hx0 hx1 => ?_⟩, ⟨HX2.out.below hb3⟩, ⟨bstep HB2.out hb3⟩⟩
              by_cases e : x = d
              · rw [e]; exact ⟨HG.out, HG2.out⟩
              · exact HA.out x hx0 (by omega)
          · have hg2 := Bool.eq_false_iff.2 hg2
            rw [hg2] at hcall
            have HG2 := Aside0.mk hg2
            have HCA2 := Aside0.mk hcall
            clear hg2 hcall
            go_wp2_with (go_at_call 107; refine HCA2.out.mono ?_; rintro e w3 ⟨rfl, hb3⟩)
            go_ret
            exact ⟨by rw [squareB_hit h0 c6 (by rw [HG2.out, Bool.and_false])]; rfl, bstep HB2.out hb3⟩
        · have hg := Bool.eq_false_iff.2 hg
          rw [hg] at hcall
          have HG := Aside0.mk hg
          have HCA := Aside0.mk hcall
          clear hg hcall
          go_wp2_with (go_at_call 107; refine HCA.out.mono ?_; rintro e w2 ⟨rfl, hb2⟩)
          go_ret
          exact ⟨by rw [squareB_hit h0 c6 (by rw [HG.out, Bool.false_and])]; rfl, bstep HBd.out hb2⟩
      · go_wp2
        go_ret
        have hall : squareB t = true := squareB_all HN.out fun k k0 k1 => HA.out k k0 (by have := HI.out; omega)
        exact ⟨by rw [hall]; rfl, HB.out⟩

end Go.Proofs.Ytfoadgbffidgaaa.X
namespace Go.Proofs.Ytfoadgbffidgaaa.P
open Go.RowKit Go.Proofs.YtfoadgbffidgaaaW.PrintWords Go.Proofs.YtfoadgbffidgaaaW.PrintLast
def impl_isSquare.f (l0 : List Int) : Option Bool := some (X.squareB l0)
theorem impl_isSquare.calls (A0 : Option Addr) (c0 : Nat) (l0 : List Int) (r : Bool) (w : World) (hr0 : Kd.C (Kd.int .i64) w A0 l0.length l0) (hc0 : l0.length ≤ c0) (h : impl_isSquare.f l0 = some r) :
    Calls Try.prog 74 #[.slice A0 l0.length c0] w fun e w' => e = .returned (.bool r) ∧ Below w.heap.size w w' := by
  obtain rfl := Option.some.inj h
  exact X.isSquare_calls A0 c0 l0 w hr0
end Go.Proofs.Ytfoadgbffidgaaa.P

set_option linter.unusedVariables false
set_option linter.unusedSimpArgs false
namespace Go.Proofs.Ytfoadgbffidgaaa.X
open Go.RowKit Go.Proofs.YtfoadgbffidgaaaW.PrintWords Go.Proofs.YtfoadgbffidgaaaW.PrintLast Go.Proofs.Ytfoadgbffidgaaa.P

def onceN (n : Nat) (p : Int → Int) : Bool := allI n fun i => allI n fun j => !decide (i < j) || !decide (p i = p j)
theorem onceN_iff {n : Nat} {p : Int → Int} : onceN n p = true ↔ ∀ i j : Int, 0 ≤ i → i < j → j < n → p i ≠ p j := by
  unfold onceN
  constructor
  · intro h i j hi hij hj
    have := allI_int (allI_int h i hi (by omega)) j (by omega) hj
    rw [decide_eq_true hij] at this
    simpa using this
  · intro h
    refine allI_int_iff.2 fun i i0 i1 => allI_int_iff.2 fun j j0 j1 => ?_
    by_cases e : i < j
    · rw [decide_eq_false (h i j i0 e j1)]; simp
    · rw [decide_eq_false e]; rfl
theorem onceN_hit {n : Nat} {p : Int → Int} (i j : Int) (h0 : 0 ≤ i) (h1 : i < j) (h2 : j < n) (h : p i = p j) : onceN n p = false := by
  cases e : onceN n p with
  | false => rfl
  | true => exact absurd h (onceN_iff.1 e i j h0 h1 h2)
def pairI (a b : List Int) (i : Int) : Int := 9 * rd a i + rd b i
def apartB (a b : List Int) : Bool := squareB a && (squareB b && onceN 81 (pairI a b))
theorem squareB_nines {s : List Int} (h : squareB s = true) : ninesB s 81 = true := by
  unfold squareB at h; exact (Bool.and_eq_true _ _ ▸ h).1

theorem tabA {w : World} {ad : Addr} {t : List Int} {n : Nat} (h : Kd.C (Kd.int .i64) w (some ad) n t) (i : Int) (h0 : 0 ≤ i) (h1 : i < n) : w.cell? (ad.add i.toNat) = some (.int .i64 (rd t i)) := by
  obtain ⟨ad', e, hc⟩ := Kd.at_int h i h0 h1
  cases e; exact hc
set_option maxRecDepth 100000 in
set_option maxHeartbeats 8000000 in
theorem squareApart_calls (A0 : Option Addr) (c0 : Nat) (a : List Int) (A1 : Option Addr) (c1 : Nat) (b : List Int) (w : World) (hr : Kd.C (Kd.int .i64) w A0 a.length a) (hr2 : Kd.C (Kd.int .i64) w A1 b.length b) :
    Calls Try.prog 35 #[.slice A0 a.length c0, .slice A1 b.length c1] w fun e w' => e = .returned (.bool (apartB a b)) ∧ Below w.heap.size w w' := by
  have hz : ∀ w, Sem.run Try.prog (zeroValue 61) w = .ok (.agg (bA 81 (fun _ => false))) w := fun _ => by kernel_rfl
  have hst := fun w => arr_store (P := Try.prog) 61 81 (fun _ => false) (by kernel_rfl) w
  have hcall := isSquare_calls A0 c0 a w hr
  have HR := Aside0.mk hr
  have HR2 := Aside0.mk hr2
  clear hr hr2
  by_cases ha : squareB a = true
  case neg =>
    have ha := Bool.eq_false_iff.2 ha
    have e : apartB a b = false := by unfold apartB; rw [ha]; rfl
    rw [e]
    rw [ha] at hcall
    have HC := Aside0.mk hcall
    clear ha e hcall
    go_enter Try.func35, Try.ntmps35
    go_wp2_with (go_at_call 74; refine HC.out.mono ?_; rintro e w' ⟨rfl, hb⟩)
    go_ret
    exact ⟨rfl, hb⟩
  case pos =>
    rw [ha] at hcall
    have HC := Aside0.mk hcall
    have HA := Aside0.mk ha
    clear hcall ha
    go_enter Try.func35, Try.ntmps35
    go_wp2_with fail
    refine HC.out.mono ?_
    rintro e w1 ⟨rfl, hb1⟩
    have hcall := isSquare_calls A1 c1 b w1 (Kd.C_below HR2.out hb1)
    have HB1 := Aside0.mk hb1
    clear hb1
    by_cases hb : squareB b = true
    case neg =>
      have hb := Bool.eq_false_iff.2 hb
      have e : apartB a b = false := by unfold apartB; rw [HA.out, hb]; rfl
      rw [hb] at hcall
      have E := Aside0.mk e
      have HC := Aside0.mk hcall
      clear hb e hcall
      go_wp2_with (go_at_call 74; refine HC.out.mono ?_; rintro e w' ⟨rfl, hb⟩)
      go_ret
      exact ⟨by rw [E.out]; rfl, bstep HB1.out hb⟩
    case pos =>
      rw [hb] at hcall
      have HC := Aside0.mk hcall
      have E := Aside0.mk (show apartB a b = onceN 81 (pairI a b) by unfold apartB; rw [HA.out, hb]; rfl)
      have NA := Aside0.mk (squareB_nines HA.out)
      have NB := Aside0.mk (squareB_nines hb)
      have hla : a.length = 81 := (ninesB_iff.1 NA.out).1
      have hlb : b.length = 81 := (ninesB_iff.1 NB.out).1
      have HLA := Aside0.mk hla
      have HLB := Aside0.mk hlb
      obtain ⟨ad, rfl⟩ : ∃ ad, A0 = some ad := by obtain ⟨x, e, _⟩ := Kd.at_int HR.out 0 (by omega) (by omega); exact ⟨x, e⟩
      obtain ⟨bd, rfl⟩ : ∃ bd, A1 = some bd := by obtain ⟨x, e, _⟩ := Kd.at_int HR2.out 0 (by omega) (by omega); exact ⟨x, e⟩
      clear hcall hb hla hlb
      go_wp2_with fail
      refine HC.out.mono ?_
      rintro e w2 ⟨rfl, hb2⟩
      have HB2 := Aside0.mk (bstep HB1.out hb2)
      have HS := Aside0.mk (Arr.alloc w2 61 81 (fun _ => false))
      have HB3 := Aside0.mk ((bstep HB1.out hb2).alloc ((bstep HB1.out hb2).size) (.cells (bA 81 (fun _ => false)) 61))
      clear hb2
      go_wp2
      have la1 : a.length ≤ 81 := by rw [HLA.out]; exact Nat.le_refl _
      have lb1 : 81 ≤ b.length := by rw [HLB.out]; exact Nat.le_refl _
      go_loopg [20] 81 (fun kq v20 w' => ∃ i : Int, v20 = .int .i64 i ∧ Aside0 (0 ≤ i ∧ i ≤ 81) ∧ Aside0 ((81 : Int) - i ≤ kq) ∧ Aside0 (∀ x y : Int, 0 ≤ x → x < y → y < i → pairI a b x ≠ pairI a b y) ∧ Aside0 (Arr w' w2.heap.size 61 81 (seenO (pairI a b) i)) ∧ Aside0 (Below w.heap.size w w'))
      case atStart => exact ⟨0, rfl, ⟨by omega⟩, ⟨by omega⟩, ⟨fun x y h0 h1 => by omega⟩, ⟨HS.out.congr (fun j hj => rfl)⟩, HB3⟩
      case round =>
        have HW2 := Aside0.mk HB2.out.size
        clear HS HB3 HB2 hz hst
        obtain ⟨i, rfl, HI, HK, HA2, HS, HB⟩ := hrel
        have h0 : 0 ≤ i := HI.out.1
        by_cases c6 : i < (a.length : Int)
        · have c81 : i < 81 := by omega
          have g1 := tabA (Kd.C_below HR.out HB.out) i h0 c6
          have g2 := tabA (Kd.C_below HR2.out HB.out) i h0 (by omega)
          obtain ⟨qa0, qa1⟩ := nines_rd NA.out h0 c81
          obtain ⟨qb0, qb1⟩ := nines_rd NB.out h0 c81
          have hv : pairI a b i = 9 * rd a i + rd b i := rfl
          obtain ⟨x, hx⟩ : ∃ x, rd a i = x := ⟨_, rfl⟩
          obtain ⟨y, hy⟩ : ∃ y, rd b i = y := ⟨_, rfl⟩
          rw [hx] at g1 qa0 qa1 hv
          rw [hy] at g2 qb0 qb1 hv
          have HV := Aside0.mk hv
          clear hv hx hy
          have hcl := HS.out.cell (9 * x + y).toNat (by omega)
          have hf := HS.out.frozen (9 * x + y).toNat
          by_cases hs : seenO (pairI a b) i (9 * x + y).toNat = true
          · rw [hs] at hcl
            have HF := Aside0.mk hs
            clear hs
            go_wp2
            go_ret
            have : onceN 81 (pairI a b) = false := by
              have h := HF.out
              unfold seenO at h
              obtain ⟨z, hz, hpz⟩ := List.any_eq_true.1 h
              have hz := List.mem_range.1 hz
              have hpz := of_decide_eq_true hpz
              exact onceN_hit z i (by omega) (by omega) c81 (by rw [hpz, HV.out]; omega)
            exact ⟨by rw [E.out, this]; rfl, HB.out⟩
          · have hs := Bool.eq_false_iff.2 hs
            rw [hs] at hcl
            have HF := Aside0.mk hs
            have HS6 := Aside0.mk (HS.out.set (9 * x + y).toNat true)
            have HB2 := Aside0.mk (HB.out.setCell (p := ⟨w2.heap.size, (9 * x + y).toNat, none⟩) HW2.out (.bool true))
            clear hs
            go_wp2
            go_roundg (81 - (i.toNat + 1))
            case measure => have := HK.out; omega
            case rel =>
              refine ⟨i + 1, rfl, ⟨by omega⟩, ⟨by omega⟩, ⟨fun u v hu huv hv => ?_⟩, ⟨HS6.out.congr (fun j hj => ?_)⟩, HB2⟩
              · by_cases e : v = i
                · subst e
                  intro hue
                  have h := HF.out
                  unfold seenO at h
                  have := List.any_eq_false.1 h u.toNat (List.mem_range.2 (by omega))
                  rw [Int.toNat_of_nonneg hu, hue, HV.out] at this
                  exact this (decide_eq_true (by omega))
                · exact HA2.out u v hu huv (by omega)
              · rw [seenO_succ _ i h0 j, HV.out]
                by_cases e : j = (9 * x + y).toNat
                · subst e; rw [if_pos rfl, decide_eq_true (by omega), Bool.or_true]
                · rw [if_neg e, decide_eq_false (by omega), Bool.or_false]
        · go_wp2
          go_ret
          have hall : onceN 81 (pairI a b) = true := onceN_iff.2 fun x y hx hxy hy => HA2.out x y hx hxy (by have := HI.out; have := HLA.out; omega)
          exact ⟨by rw [E.out, hall]; rfl, HB.out⟩

end Go.Proofs.Ytfoadgbffidgaaa.X
namespace Go.Proofs.Ytfoadgbffidgaaa.P
open Go.RowKit Go.Proofs.YtfoadgbffidgaaaW.PrintWords Go.Proofs.YtfoadgbffidgaaaW.PrintLast
def impl_SquareApart.f (l0 l1 : List Int) : Option Bool := some (X.apartB l0 l1)
theorem impl_SquareApart.calls (A0 : Option Addr) (c0 : Nat) (l0 : List Int) (A1 : Option Addr) (c1 : Nat) (l1 : List Int) (r : Bool) (w : World) (hr0 : Kd.C (Kd.int .i64) w A0 l0.length l0) (hc0 : l0.length ≤ c0) (hr1 : Kd.C (Kd.int .i64) w A1 l1.length l1) (hc1 : l1.length ≤ c1) (h : impl_SquareApart.f l0 l1 = some r) :
    Calls Try.prog 35 #[.slice A0 l0.length c0, .slice A1 l1.length c1] w fun e w' => e = .returned (.bool r) ∧ Below w.heap.size w w' := by
  obtain rfl := Option.some.inj h
  exact X.squareApart_calls A0 c0 l0 A1 c1 l1 w hr0 hr1
end Go.Proofs.Ytfoadgbffidgaaa.P

namespace Go.Proofs.Ytfoadgbffidgaaa.P
open Go.RowKit Go.Proofs.YtfoadgbffidgaaaW.PrintWords Go.Proofs.YtfoadgbffidgaaaW.PrintLast Go.Proofs.YtfoadgbffidgaaaW.PrintMore
attribute [local go_sem] max2_int min2_int max_two min_two max_three min_three max_four min_four   -- for this text's walks alone
set_option linter.unusedVariables false
set_option linter.unusedSimpArgs false

/-! ### spec_SquareIn: function 34 -/
mutual
def spec_SquareIn.l0 : Nat → List Int → Int → Option (Bool)
  | 0, _, _ => none
  | k + 1, x0, x3 => if x3 < 9 then (if 9 ≤ 281474976710656 then (spec_SquareIn.l1 k x0 x3 (List.replicate 9 false) (List.replicate 9 false) 0) else (none)) else (some true)
def spec_SquareIn.l1 : Nat → List Int → Int → List Bool → List Bool → Int → Option (Bool)
  | 0, _, _, _, _, _ => none
  | k + 1, x0, x3, x4, x5, x6 => if x6 < 9 then (if 0 ≤ (wrap64 ((wrap64 (9 * x3)) + x6)) then (if (wrap64 ((wrap64 (9 * x3)) + x6)) < (x0.length : Int) then (if 0 ≤ (rd x0 (wrap64 ((wrap64 (9 * x3)) + x6))) then (if (rd x0 (wrap64 ((wrap64 (9 * x3)) + x6))) < (x4.length : Int) then (if rdOf false x4 (rd x0 (wrap64 ((wrap64 (9 * x3)) + x6))) = true then (some false) else (if 0 ≤ (wrap64 ((wrap64 (9 * x6)) + x3)) then (if (wrap64 ((wrap64 (9 * x6)) + x3)) < (x0.length : Int) then (if 0 ≤ (rd x0 (wrap64 ((wrap64 (9 * x6)) + x3))) then (if (rd x0 (wrap64 ((wrap64 (9 * x6)) + x3))) < (x5.length : Int) then (if rdOf false x5 (rd x0 (wrap64 ((wrap64 (9 * x6)) + x3))) = true then (some false) else (spec_SquareIn.l1 k x0 x3 (x4.set ((rd x0 (wrap64 ((wrap64 (9 * x3)) + x6))) : Int).toNat true) (x5.set ((rd x0 (wrap64 ((wrap64 (9 * x6)) + x3))) : Int).toNat true) (wrap64 (x6 + 1)))) else (none)) else (none)) else (none)) else (none))) else (none)) else (none)) else (none)) else (none)) else (spec_SquareIn.l0 k x0 (wrap64 (x3 + 1)))
end
def spec_SquareIn.f (k : Nat) (l0 : List Int) : Option (Bool) := (spec_l2Table.f k l0).bind fun t362 => (if t362 = true then (spec_SquareIn.l0 k l0 0) else (some false))
theorem spec_SquareIn.mono_l : ∀ k, (∀ y0 y1, LeO (spec_SquareIn.l0 k y0 y1) (spec_SquareIn.l0 (k + 1) y0 y1)) ∧ (∀ y0 y1 y2 y3 y4, LeO (spec_SquareIn.l1 k y0 y1 y2 y3 y4) (spec_SquareIn.l1 (k + 1) y0 y1 y2 y3 y4))
  | 0 => ⟨fun _ _ r h => by simp [spec_SquareIn.l0] at h, fun _ _ _ _ _ r h => by simp [spec_SquareIn.l1] at h⟩
  | k + 1 => by
    obtain ⟨ih0, ih1⟩ := spec_SquareIn.mono_l k
    refine ⟨?_, ?_⟩
    · intro y0 y1
      unfold spec_SquareIn.l0
      repeat' first
      | (with_reducible exact ih0 _ _)
      | (with_reducible exact ih1 _ _ _ _ _)
      | (with_reducible exact spec_l2Table.mono _ _)
      | (with_reducible exact LeO.refl _)
      | (with_reducible exact LeO.none _)
      | (with_reducible refine LeO.ite ?_ ?_)
      | (with_reducible refine LeO.bind ?_ (fun _ => ?_))
      | exact ih0 _ _
      | exact ih1 _ _ _ _ _
      | exact spec_l2Table.mono _ _
      | exact LeO.none _
      | refine LeO.ite ?_ ?_
      | refine LeO.bind ?_ (fun _ => ?_)
    · intro y0 y1 y2 y3 y4
      unfold spec_SquareIn.l1
      repeat' first
      | (with_reducible exact ih0 _ _)
      | (with_reducible exact ih1 _ _ _ _ _)
      | (with_reducible exact spec_l2Table.mono _ _)
      | (with_reducible exact LeO.refl _)
      | (with_reducible exact LeO.none _)
      | (with_reducible refine LeO.ite ?_ ?_)
      | (with_reducible refine LeO.bind ?_ (fun _ => ?_))
      | exact ih0 _ _
      | exact ih1 _ _ _ _ _
      | exact spec_l2Table.mono _ _
      | exact LeO.none _
      | refine LeO.ite ?_ ?_
      | refine LeO.bind ?_ (fun _ => ?_)
theorem spec_SquareIn.mono : ∀ a0 k, LeO (spec_SquareIn.f k a0) (spec_SquareIn.f (k + 1) a0) := by
  intro a0 k
  obtain ⟨ih0, ih1⟩ := spec_SquareIn.mono_l k
  unfold spec_SquareIn.f
  repeat' first
      | (with_reducible exact ih0 _ _)
      | (with_reducible exact ih1 _ _ _ _ _)
      | (with_reducible exact spec_l2Table.mono _ _)
      | (with_reducible exact LeO.refl _)
      | (with_reducible exact LeO.none _)
      | (with_reducible refine LeO.ite ?_ ?_)
      | (with_reducible refine LeO.bind ?_ (fun _ => ?_))
      | exact ih0 _ _
      | exact ih1 _ _ _ _ _
      | exact spec_l2Table.mono _ _
      | exact LeO.none _
      | refine LeO.ite ?_ ?_
      | refine LeO.bind ?_ (fun _ => ?_)
set_option maxHeartbeats 8000000 in
set_option maxRecDepth 100000 in
theorem spec_SquareIn.calls (k : Nat) (A0 : Option Addr) (c0 : Nat) (l0 : List Int) (r : Bool) (w : World) (hr0 : Kd.C (Kd.int .i64) w A0 l0.length l0) (hc0 : l0.length ≤ c0) (h : spec_SquareIn.f k l0 = some r) :
    Calls Try.prog 34 #[.slice A0 l0.length c0] w fun e w' => e = .returned (.bool r) ∧ Below w.heap.size w w' := by
  have HR0 := Aside0.mk hr0
  have HC0 := Aside0.mk hc0
  clear hr0 hc0
  have HB := Aside0.mk (Below.refl w.heap.size w)
  have H : ((spec_l2Table.f k l0).bind fun t362 => (if t362 = true then (spec_SquareIn.l0 k l0 0) else (some false))) = some r := h
  clear h
  replace H := Option.bind_eq_some_iff.mp H
  obtain ⟨t362, A20, H⟩ := H
  replace H : (if t362 = true then (spec_SquareIn.l0 k l0 0) else (some false)) = some r := H
  have A2 := Aside0.mk A20
  clear A20
  by_cases c3 : t362 = true
  · subst c3
    have H1 : (spec_SquareIn.l0 k l0 0) = some r := by rw [if_pos rfl] at H; exact H
    clear H
    have H := H1
    clear H1
    have H' := Aside0.mk H
    clear H
    go_enter Try.func34, Try.ntmps34
    go_wp2_with (first | ((with_reducible refine gate_callee (f := 75) rfl ?_); refine goesL_ (some 8) rfl rfl Try.func75 (by kernel_rfl) rfl #[.slice A0 l0.length c0] rfl (by (try simp only [List.map_toArray, List.map_cons, List.map_nil]); first | done | rfl | (simp only [List.length_drop, List.length_take]; rfl)) ?_; (with_reducible refine (spec_l2Table.calls k _ _ l0 true _ ?side1 ?side2 A2.out).mono ?_); (case side1 => repeat (first | exact HR0.out | (with_reducible refine Kd.C_alloc ?_ _) | (with_reducible refine Kd.C_drewN ?_ _) | (with_reducible refine Kd.C_drew ?_))); (case side2 => exact HC0.out); rintro e w' ⟨rfl, ⟨nd, rfl⟩⟩; refine ⟨_, rfl, ?_⟩))
    go_loopg [3] k (fun kq v3 w' => ∃ (x3_1 : Int), v3 = .int .i64 x3_1 ∧ Aside0 (spec_SquareIn.l0 kq l0 x3_1 = some r) ∧ Aside0 (kq ≤ k) ∧ Aside0 (Below w.heap.size w w'))
    case atStart => exact ⟨(0), (by first | rfl | (simp; done) | (simp [*]; done)), H', ⟨Nat.le_refl _⟩, ⟨by repeat (first | (with_reducible first | exact HB.out | apply below_alloc | apply pw_below_drewN | apply below_drew1) | exact HB.out)⟩⟩
    case round =>
      clear H'
      try clear p2
      try clear c3
      obtain ⟨x3_1, rfl, HA, HK1, HB⟩ := hrel
      cases gk with
      | zero => exact absurd HA.out (by simp [spec_SquareIn.l0])
      | succ k1 =>
        have H := HA.out
        clear HA
        simp only [spec_SquareIn.l0] at H
        by_cases c4 : x3_1 < 9
        · rw [if_pos c4] at H
          have c4b0 : decide (x3_1 < 9) = true := decide_eq_true c4
          clear c4
          by_cases c5 : 9 ≤ 281474976710656
          · rw [if_pos c5] at H
            have c5b0 := eq_true c5
            have c5b1 : decide (9 ≤ 281474976710656) = true := decide_eq_true c5
            clear c5
            obtain ⟨y363, hy363⟩ : ∃ y_ : List Bool, y_ = (List.replicate 9 false) := ⟨_, rfl⟩
            replace H : (spec_SquareIn.l1 k1 l0 x3_1 y363 (List.replicate 9 false) 0) = some r := by first | (rw [hy363]; with_reducible exact H) | (have H2_ := (Option.bind_some _ _).symm.trans H; rw [hy363]; with_reducible exact H2_) | (have H2_ := (Option.bind_some _ _).symm.trans H; with_reducible exact H2_) | with_reducible exact H | (rw [hy363]; exact H) | exact H
            have Ny363 := Aside0.mk hy363
            clear hy363
            obtain ⟨y366, hy366⟩ : ∃ y_ : List Bool, y_ = (List.replicate 9 false) := ⟨_, rfl⟩
            replace H : (spec_SquareIn.l1 k1 l0 x3_1 y363 y366 0) = some r := by first | (rw [hy366]; with_reducible exact H) | (have H2_ := (Option.bind_some _ _).symm.trans H; rw [hy366]; with_reducible exact H2_) | (have H2_ := (Option.bind_some _ _).symm.trans H; with_reducible exact H2_) | with_reducible exact H | (rw [hy366]; exact H) | exact H
            have Ny366 := Aside0.mk hy366
            clear hy366
            have H' := Aside0.mk H
            clear H
            go_wp2_with (first | ((with_reducible refine gate_dst (N := 14) rfl ?_); refine Kd.R_make Kd.bool _ 4 rfl (N := 14) rfl 51 _ _ rfl 9 rfl rfl Try.underlying51 (.bool false) 1 info4 rfl (by decide) (by omega) false (ok := fun _ => True) (okp := fun _ => True) rfl (fun _ hk => hk) trivial (by omega) (by omega) (Below.refl _ _) (Nat.le_refl _) ?_; intro v364 w6 ho7 hb hg_ hnew_; clear hg_ hnew_; (first | rw [← Ny363.out] at ho7 | (simp only [Int.reduceToNat] at ho7; rw [← Ny363.out] at ho7)); have n0_ := Aside0.mk (Kd.R_lower ho7 (below_size (by repeat (first | (with_reducible first | exact HB.out | apply below_alloc | apply pw_below_drewN | apply below_drew1) | exact HB.out)))); have n1_ := Aside0.mk (below_step (by repeat (first | (with_reducible first | exact HB.out | apply below_alloc | apply pw_below_drewN | apply below_drew1) | exact HB.out)) hb); clear HB; have HO365 := n0_; have HB := n1_; clear n0_ n1_; clear hb ho7) | ((with_reducible refine gate_dst (N := 15) rfl ?_); refine Kd.R_make Kd.bool _ 4 rfl (N := 15) rfl 51 _ _ rfl 9 rfl rfl Try.underlying51 (.bool false) 1 info4 rfl (by decide) (by omega) false (ok := fun _ => True) (okp := fun _ => True) rfl (fun _ hk => hk) trivial (by omega) (by omega) (Below.refl _ _) (Nat.le_refl _) ?_; intro v367 w8 ho9 hb hg_ hnew_; clear hg_ hnew_; (first | rw [← Ny366.out] at ho9 | (simp only [Int.reduceToNat] at ho9; rw [← Ny366.out] at ho9)); have n0_ := Aside0.mk (Kd.R_elder' (by (with_reducible repeat (first | apply Kd.R_alloc | apply Kd.R_drewN | apply Kd.R_drew)); exact HO365.out) (Kd.R_base ho9) hb); have n1_ := Aside0.mk (Kd.R_lower (Kd.R_new' ho9 (Kd.R_lt (by (with_reducible repeat (first | apply Kd.R_alloc | apply Kd.R_drewN | apply Kd.R_drew)); exact HO365.out))) (below_size (by repeat (first | (with_reducible first | exact HB.out | apply below_alloc | apply pw_below_drewN | apply below_drew1) | exact HB.out)))); have n2_ := Aside0.mk (below_step (by repeat (first | (with_reducible first | exact HB.out | apply below_alloc | apply pw_below_drewN | apply below_drew1) | exact HB.out)) hb); clear HO365; clear HB; have HO365 := n0_; have HO368 := n1_; have HB := n2_; clear n0_ n1_ n2_; clear hb ho9))
            go_loopg [6] k1 (fun kq v6 w' => ∃ (x4_2 : List Bool) (x5_2 : List Bool) (x6_2 : Int), v6 = .int .i64 x6_2 ∧ Aside0 (spec_SquareIn.l1 kq l0 x3_1 x4_2 x5_2 x6_2 = some r) ∧ Aside0 (kq ≤ k1) ∧ Aside0 (Kd.R Kd.bool 4 w' w.heap.size (fun k_ => some k_ ≠ (v367 : Value).ownBlock) v364 x4_2) ∧ Aside0 (Kd.R Kd.bool 4 w' w.heap.size (fun k_ => some k_ ≠ (v364 : Value).ownBlock) v367 x5_2) ∧ Aside0 (Below w.heap.size w w'))
            case atStart => exact ⟨(y363), (y366), (0), (by first | rfl | (simp; done) | (simp [*]; done)), H', ⟨Nat.le_refl _⟩, ⟨by (with_reducible repeat (first | apply Kd.R_alloc | apply Kd.R_drewN | apply Kd.R_drew)); exact Kd.R_mono HO365.out (fun _ hk => hk.2)⟩, ⟨by (with_reducible repeat (first | apply Kd.R_alloc | apply Kd.R_drewN | apply Kd.R_drew)); exact Kd.R_mono HO368.out (fun _ hk => hk.2)⟩, ⟨by repeat (first | (with_reducible first | exact HB.out | apply below_alloc | apply pw_below_drewN | apply below_drew1) | exact HB.out)⟩⟩
            case round =>
              clear H'
              try clear p2
              try clear c3
              try clear c4
              try clear c4b0
              try clear c5
              try clear c5b0
              try clear c5b1
              try clear c7
              try clear p2
              obtain ⟨x4_2, x5_2, x6_2, rfl, HA, HK2, HO_4, HO_5, HB⟩ := hrel
              cases gk with
              | zero => exact absurd HA.out (by simp [spec_SquareIn.l1])
              | succ k2 =>
                have H := HA.out
                clear HA
                simp only [spec_SquareIn.l1] at H
                by_cases c10 : x6_2 < 9
                · rw [if_pos c10] at H
                  have c10b0 : decide (x6_2 < 9) = true := decide_eq_true c10
                  clear c10
                  obtain ⟨ji11, hji11⟩ : ∃ j_ : Int, (wrap64 ((wrap64 (9 * x3_1)) + x6_2)) = j_ := ⟨_, rfl⟩
                  replace H : (if 0 ≤ (ji11) then (if (ji11) < (l0.length : Int) then (if 0 ≤ (rd l0 (ji11)) then (if (rd l0 (ji11)) < (x4_2.length : Int) then (if rdOf false x4_2 (rd l0 (ji11)) = true then (some false) else (if 0 ≤ (wrap64 ((wrap64 (9 * x6_2)) + x3_1)) then (if (wrap64 ((wrap64 (9 * x6_2)) + x3_1)) < (l0.length : Int) then (if 0 ≤ (rd l0 (wrap64 ((wrap64 (9 * x6_2)) + x3_1))) then (if (rd l0 (wrap64 ((wrap64 (9 * x6_2)) + x3_1))) < (x5_2.length : Int) then (if rdOf false x5_2 (rd l0 (wrap64 ((wrap64 (9 * x6_2)) + x3_1))) = true then (some false) else (spec_SquareIn.l1 k2 l0 x3_1 (x4_2.set ((rd l0 (ji11)) : Int).toNat true) (x5_2.set ((rd l0 (wrap64 ((wrap64 (9 * x6_2)) + x3_1))) : Int).toNat true) (wrap64 (x6_2 + 1)))) else (none)) else (none)) else (none)) else (none))) else (none)) else (none)) else (none)) else (none)) = some r := by first | (rw [hji11] at H; exact H) | (simp only [hji11] at H ⊢; exact H)
                  have hji11w : (IntKind.i64.wrap ((wrap64 (9 * x3_1)) + x6_2)) = ji11 := (i64_w _).trans hji11
                  by_cases c12 : 0 ≤ (ji11)
                  · rw [if_pos c12] at H
                    have c12b0 : decide (0 ≤ (ji11)) = true := decide_eq_true c12
                    clear c12
                    by_cases c13 : (ji11) < (l0.length : Int)
                    · rw [if_pos c13] at H
                      have c13b0 : decide ((ji11) < (l0.length : Int)) = true := decide_eq_true c13
                      clear c13
                      by_cases c14 : 0 ≤ (rd l0 (ji11))
                      · rw [if_pos c14] at H
                        have c14b0 : decide (0 ≤ (rd l0 (ji11))) = true := decide_eq_true c14
                        clear c14
                        by_cases c15 : (rd l0 (ji11)) < (x4_2.length : Int)
                        · rw [if_pos c15] at H
                          have c15b0 : decide ((rd l0 (ji11)) < (x4_2.length : Int)) = true := decide_eq_true c15
                          clear c15
                          obtain ⟨bq16, hbq16⟩ : ∃ b_ : Bool, b_ = (rdOf false x4_2 (rd l0 (ji11))) := ⟨_, rfl⟩
                          replace H : (if bq16 = true then (some false) else (if 0 ≤ (wrap64 ((wrap64 (9 * x6_2)) + x3_1)) then (if (wrap64 ((wrap64 (9 * x6_2)) + x3_1)) < (l0.length : Int) then (if 0 ≤ (rd l0 (wrap64 ((wrap64 (9 * x6_2)) + x3_1))) then (if (rd l0 (wrap64 ((wrap64 (9 * x6_2)) + x3_1))) < (x5_2.length : Int) then (if rdOf false x5_2 (rd l0 (wrap64 ((wrap64 (9 * x6_2)) + x3_1))) = true then (some false) else (spec_SquareIn.l1 k2 l0 x3_1 (x4_2.set ((rd l0 (ji11)) : Int).toNat true) (x5_2.set ((rd l0 (wrap64 ((wrap64 (9 * x6_2)) + x3_1))) : Int).toNat true) (wrap64 (x6_2 + 1)))) else (none)) else (none)) else (none)) else (none))) = some r := by rw [← hbq16] at H; exact H
                          have Nbq16 := Aside0.mk hbq16
                          clear hbq16
                          by_cases c17 : bq16 = true
                          · subst c17
                            have H1 : (some false) = some r := by rw [if_pos rfl] at H; exact H
                            clear H
                            have H := H1
                            clear H1
                            obtain rfl := Option.some.inj H
                            have p369 : 0 ≤ ((ji11) : Int) := of_decide_eq_true (by first | (with_reducible assumption) | assumption)
                            have q369 : (ji11) < (l0.length : Int) := of_decide_eq_true (by first | (with_reducible assumption) | assumption)
                            obtain ⟨ad369, e369, hx369_0⟩ := Kd.at_int HR0.out (ji11) p369 q369
                            cases e369
                            replace hx369_0 := (HB.out.cell (World.block_lt_of_cell? w _ hx369_0)).trans hx369_0
                            replace p369 := eq_true p369
                            replace q369 := eq_true q369
                            obtain ⟨Ao18, co18, eo18⟩ := Kd.R_slice HO_4.out
                            subst eo18
                            have p370 : 0 ≤ ((rd l0 (ji11)) : Int) := of_decide_eq_true (by first | (with_reducible assumption) | assumption)
                            have q370 : (rd l0 (ji11)) < (x4_2.length : Int) := of_decide_eq_true (by first | (with_reducible assumption) | assumption)
                            obtain ⟨ad370, e370, hx370_0⟩ := Kd.at_bool (Kd.R_reads' HO_4.out).2.2 (rd l0 (ji11)) p370 q370
                            (try rw [← Nbq16.out] at hx370_0)
                            cases e370
                            replace p370 := eq_true p370
                            replace q370 := eq_true q370
                            go_wp2
                            go_ret
                            exact ⟨by first | rfl | (simp [errW_none, errW_some] <;> rfl) | (simp only [← hji11]; first | rfl | (simp [errW_none, errW_some] <;> rfl)) | (simp [*, errW_none, errW_some] <;> rfl), by repeat (first | (with_reducible first | exact HB.out | apply below_alloc | apply pw_below_drewN | apply below_drew1) | exact HB.out)⟩
                          · replace c17 := Bool.eq_false_iff.mpr c17
                            subst c17
                            have H1 : (if 0 ≤ (wrap64 ((wrap64 (9 * x6_2)) + x3_1)) then (if (wrap64 ((wrap64 (9 * x6_2)) + x3_1)) < (l0.length : Int) then (if 0 ≤ (rd l0 (wrap64 ((wrap64 (9 * x6_2)) + x3_1))) then (if (rd l0 (wrap64 ((wrap64 (9 * x6_2)) + x3_1))) < (x5_2.length : Int) then (if rdOf false x5_2 (rd l0 (wrap64 ((wrap64 (9 * x6_2)) + x3_1))) = true then (some false) else (spec_SquareIn.l1 k2 l0 x3_1 (x4_2.set ((rd l0 (ji11)) : Int).toNat true) (x5_2.set ((rd l0 (wrap64 ((wrap64 (9 * x6_2)) + x3_1))) : Int).toNat true) (wrap64 (x6_2 + 1)))) else (none)) else (none)) else (none)) else (none)) = some r := by rw [if_neg (show ¬ (false = true) by decide)] at H; exact H
                            clear H
                            have H := H1
                            clear H1
                            obtain ⟨ji19, hji19⟩ : ∃ j_ : Int, (wrap64 ((wrap64 (9 * x6_2)) + x3_1)) = j_ := ⟨_, rfl⟩
                            replace H : (if 0 ≤ (ji19) then (if (ji19) < (l0.length : Int) then (if 0 ≤ (rd l0 (ji19)) then (if (rd l0 (ji19)) < (x5_2.length : Int) then (if rdOf false x5_2 (rd l0 (ji19)) = true then (some false) else (spec_SquareIn.l1 k2 l0 x3_1 (x4_2.set ((rd l0 (ji11)) : Int).toNat true) (x5_2.set ((rd l0 (ji19)) : Int).toNat true) (wrap64 (x6_2 + 1)))) else (none)) else (none)) else (none)) else (none)) = some r := by first | (rw [hji19] at H; exact H) | (simp only [hji19] at H ⊢; exact H)
                            have hji19w : (IntKind.i64.wrap ((wrap64 (9 * x6_2)) + x3_1)) = ji19 := (i64_w _).trans hji19
                            by_cases c20 : 0 ≤ (ji19)
                            · rw [if_pos c20] at H
                              have c20b0 : decide (0 ≤ (ji19)) = true := decide_eq_true c20
                              clear c20
                              by_cases c21 : (ji19) < (l0.length : Int)
                              · rw [if_pos c21] at H
                                have c21b0 : decide ((ji19) < (l0.length : Int)) = true := decide_eq_true c21
                                clear c21
                                by_cases c22 : 0 ≤ (rd l0 (ji19))
                                · rw [if_pos c22] at H
                                  have c22b0 : decide (0 ≤ (rd l0 (ji19))) = true := decide_eq_true c22
                                  clear c22
                                  by_cases c23 : (rd l0 (ji19)) < (x5_2.length : Int)
                                  · rw [if_pos c23] at H
                                    have c23b0 : decide ((rd l0 (ji19)) < (x5_2.length : Int)) = true := decide_eq_true c23
                                    clear c23
                                    obtain ⟨bq24, hbq24⟩ : ∃ b_ : Bool, b_ = (rdOf false x5_2 (rd l0 (ji19))) := ⟨_, rfl⟩
                                    replace H : (if bq24 = true then (some false) else (spec_SquareIn.l1 k2 l0 x3_1 (x4_2.set ((rd l0 (ji11)) : Int).toNat true) (x5_2.set ((rd l0 (ji19)) : Int).toNat true) (wrap64 (x6_2 + 1)))) = some r := by rw [← hbq24] at H; exact H
                                    have Nbq24 := Aside0.mk hbq24
                                    clear hbq24
                                    by_cases c25 : bq24 = true
                                    · subst c25
                                      have H1 : (some false) = some r := by rw [if_pos rfl] at H; exact H
                                      clear H
                                      have H := H1
                                      clear H1
                                      obtain rfl := Option.some.inj H
                                      have p369 : 0 ≤ ((ji11) : Int) := of_decide_eq_true (by first | (with_reducible assumption) | assumption)
                                      have q369 : (ji11) < (l0.length : Int) := of_decide_eq_true (by first | (with_reducible assumption) | assumption)
                                      obtain ⟨ad369, e369, hx369_0⟩ := Kd.at_int HR0.out (ji11) p369 q369
                                      cases e369
                                      replace hx369_0 := (HB.out.cell (World.block_lt_of_cell? w _ hx369_0)).trans hx369_0
                                      replace p369 := eq_true p369
                                      replace q369 := eq_true q369
                                      obtain ⟨Ao26, co26, eo26⟩ := Kd.R_slice HO_4.out
                                      subst eo26
                                      have p370 : 0 ≤ ((rd l0 (ji11)) : Int) := of_decide_eq_true (by first | (with_reducible assumption) | assumption)
                                      have q370 : (rd l0 (ji11)) < (x4_2.length : Int) := of_decide_eq_true (by first | (with_reducible assumption) | assumption)
                                      obtain ⟨ad370, e370, hx370_0⟩ := Kd.at_bool (Kd.R_reads' HO_4.out).2.2 (rd l0 (ji11)) p370 q370
                                      (try rw [← Nbq16.out] at hx370_0)
                                      (try rw [← Nbq24.out] at hx370_0)
                                      cases e370
                                      replace p370 := eq_true p370
                                      replace q370 := eq_true q370
                                      have p371 : 0 ≤ ((ji19) : Int) := of_decide_eq_true (by first | (with_reducible assumption) | assumption)
                                      have q371 : (ji19) < (l0.length : Int) := of_decide_eq_true (by first | (with_reducible assumption) | assumption)
                                      obtain ⟨ad371, e371, hx371_0⟩ := Kd.at_int HR0.out (ji19) p371 q371
                                      obtain rfl : ad369 = ad371 := (by injection e371)
                                      replace hx371_0 := (HB.out.cell (World.block_lt_of_cell? w _ hx371_0)).trans hx371_0
                                      replace p371 := eq_true p371
                                      replace q371 := eq_true q371
                                      obtain ⟨Ao27, co27, eo27⟩ := Kd.R_slice HO_5.out
                                      subst eo27
                                      have p372 : 0 ≤ ((rd l0 (ji19)) : Int) := of_decide_eq_true (by first | (with_reducible assumption) | assumption)
                                      have q372 : (rd l0 (ji19)) < (x5_2.length : Int) := of_decide_eq_true (by first | (with_reducible assumption) | assumption)
                                      obtain ⟨ad372, e372, hx372_0⟩ := Kd.at_bool (Kd.R_reads' HO_5.out).2.2 (rd l0 (ji19)) p372 q372
                                      (try rw [← Nbq16.out] at hx372_0)
                                      (try rw [← Nbq24.out] at hx372_0)
                                      cases e372
                                      replace p372 := eq_true p372
                                      replace q372 := eq_true q372
                                      go_wp2
                                      go_ret
                                      exact ⟨by first | rfl | (simp [errW_none, errW_some] <;> rfl) | (simp only [← hji11, ← hji19]; first | rfl | (simp [errW_none, errW_some] <;> rfl)) | (simp [*, errW_none, errW_some] <;> rfl), by repeat (first | (with_reducible first | exact HB.out | apply below_alloc | apply pw_below_drewN | apply below_drew1) | exact HB.out)⟩
                                    · replace c25 := Bool.eq_false_iff.mpr c25
                                      subst c25
                                      have H1 : (spec_SquareIn.l1 k2 l0 x3_1 (x4_2.set ((rd l0 (ji11)) : Int).toNat true) (x5_2.set ((rd l0 (ji19)) : Int).toNat true) (wrap64 (x6_2 + 1))) = some r := by rw [if_neg (show ¬ (false = true) by decide)] at H; exact H
                                      clear H
                                      have H := H1
                                      clear H1
                                      obtain ⟨y374, hy374⟩ : ∃ y_ : List Bool, y_ = (x4_2.set ((rd l0 (ji11)) : Int).toNat true) := ⟨_, rfl⟩
                                      replace H : (spec_SquareIn.l1 k2 l0 x3_1 y374 (x5_2.set ((rd l0 (ji19)) : Int).toNat true) (wrap64 (x6_2 + 1))) = some r := by first | (rw [hy374]; with_reducible exact H) | (have H2_ := (Option.bind_some _ _).symm.trans H; rw [hy374]; with_reducible exact H2_) | (have H2_ := (Option.bind_some _ _).symm.trans H; with_reducible exact H2_) | with_reducible exact H | (rw [hy374]; exact H) | exact H
                                      have Ny374 := Aside0.mk hy374
                                      clear hy374
                                      obtain ⟨y376, hy376⟩ : ∃ y_ : List Bool, y_ = (x5_2.set ((rd l0 (ji19)) : Int).toNat true) := ⟨_, rfl⟩
                                      replace H : (spec_SquareIn.l1 k2 l0 x3_1 y374 y376 (wrap64 (x6_2 + 1))) = some r := by first | (rw [hy376]; with_reducible exact H) | (have H2_ := (Option.bind_some _ _).symm.trans H; rw [hy376]; with_reducible exact H2_) | (have H2_ := (Option.bind_some _ _).symm.trans H; with_reducible exact H2_) | with_reducible exact H | (rw [hy376]; exact H) | exact H
                                      have Ny376 := Aside0.mk hy376
                                      clear hy376
                                      have H' := Aside0.mk H
                                      clear H
                                      have p369 : 0 ≤ ((ji11) : Int) := of_decide_eq_true (by first | (with_reducible assumption) | assumption)
                                      have q369 : (ji11) < (l0.length : Int) := of_decide_eq_true (by first | (with_reducible assumption) | assumption)
                                      obtain ⟨ad369, e369, hx369_0⟩ := Kd.at_int HR0.out (ji11) p369 q369
                                      cases e369
                                      replace hx369_0 := (HB.out.cell (World.block_lt_of_cell? w _ hx369_0)).trans hx369_0
                                      replace p369 := eq_true p369
                                      replace q369 := eq_true q369
                                      obtain ⟨Ao30, co30, eo30⟩ := Kd.R_slice HO_4.out
                                      subst eo30
                                      have p370 : 0 ≤ ((rd l0 (ji11)) : Int) := of_decide_eq_true (by first | (with_reducible assumption) | assumption)
                                      have q370 : (rd l0 (ji11)) < (x4_2.length : Int) := of_decide_eq_true (by first | (with_reducible assumption) | assumption)
                                      obtain ⟨ad370, e370, hx370_0⟩ := Kd.at_bool (Kd.R_reads' HO_4.out).2.2 (rd l0 (ji11)) p370 q370
                                      (try rw [← Nbq16.out] at hx370_0)
                                      (try rw [← Nbq24.out] at hx370_0)
                                      cases e370
                                      replace p370 := eq_true p370
                                      replace q370 := eq_true q370
                                      have p371 : 0 ≤ ((ji19) : Int) := of_decide_eq_true (by first | (with_reducible assumption) | assumption)
                                      have q371 : (ji19) < (l0.length : Int) := of_decide_eq_true (by first | (with_reducible assumption) | assumption)
                                      obtain ⟨ad371, e371, hx371_0⟩ := Kd.at_int HR0.out (ji19) p371 q371
                                      obtain rfl : ad369 = ad371 := (by injection e371)
                                      replace hx371_0 := (HB.out.cell (World.block_lt_of_cell? w _ hx371_0)).trans hx371_0
                                      replace p371 := eq_true p371
                                      replace q371 := eq_true q371
                                      obtain ⟨Ao31, co31, eo31⟩ := Kd.R_slice HO_5.out
                                      subst eo31
                                      have p372 : 0 ≤ ((rd l0 (ji19)) : Int) := of_decide_eq_true (by first | (with_reducible assumption) | assumption)
                                      have q372 : (rd l0 (ji19)) < (x5_2.length : Int) := of_decide_eq_true (by first | (with_reducible assumption) | assumption)
                                      obtain ⟨ad372, e372, hx372_0⟩ := Kd.at_bool (Kd.R_reads' HO_5.out).2.2 (rd l0 (ji19)) p372 q372
                                      (try rw [← Nbq16.out] at hx372_0)
                                      (try rw [← Nbq24.out] at hx372_0)
                                      cases e372
                                      replace p372 := eq_true p372
                                      replace q372 := eq_true q372
                                      have p373 : 0 ≤ ((ji11) : Int) := of_decide_eq_true (by first | (with_reducible assumption) | assumption)
                                      have q373 : (ji11) < (l0.length : Int) := of_decide_eq_true (by first | (with_reducible assumption) | assumption)
                                      obtain ⟨ad373, e373, hx373_0⟩ := Kd.at_int HR0.out (ji11) p373 q373
                                      obtain rfl : ad369 = ad373 := (by injection e373)
                                      replace hx373_0 := (HB.out.cell (World.block_lt_of_cell? w _ hx373_0)).trans hx373_0
                                      replace p373 := eq_true p373
                                      replace q373 := eq_true q373
                                      have p28 : 0 ≤ ((rd l0 (ji11)) : Int) := of_decide_eq_true (by first | (with_reducible assumption) | assumption)
                                      have q28 : ((rd l0 (ji11)) : Int) < ((x4_2.length : Int) : Int) := of_decide_eq_true (by first | (with_reducible assumption) | assumption)
                                      obtain ⟨go28, co28, eo28, gb28, gl28, cl28, HG28⟩ := Kd.R_form HO_4.out (by omega)
                                      (first | cases eo28 | (injection eo28 with ea_ en_ ec_; (first | subst ea_ | (injection ea_ with ea_; subst ea_)); subst ec_; clear en_))
                                      have GB28 := Aside0.mk gb28
                                      have GG28 := Aside0.mk HG28
                                      clear gb28 gl28 HG28
                                      (first | simp only [add_plain] at hx370_0 | skip)
                                      obtain ⟨hx28_0, hf28_0⟩ := Kd.R_celln false HO_4.out ((rd l0 (ji11)) : Int) p28 q28
                                      replace p28 := eq_true p28
                                      replace q28 := eq_true q28
                                      have HP32 := Kd.R_putg HO_4.out ((rd l0 (ji11)) : Int) true
                                      go_wp2_with (first | ((with_reducible refine gate_store (t := 4) (p := 50) rfl ?_); refine store_event (t := 4) (p := 50) (v := ?vo_w33) (w1 := (wr.setCell ⟨go28, ((rd l0 (ji11)) : Int).toNat, none⟩ (.bool true))) ?hg ?ho ?hn ?hr ?_; (case ho => rfl); (case hg => rfl); (case hn => rfl); (case hr => first | (go_simp; done) | (go_simp; rfl)); intro w33 hw; have hg : wr.grownBy w33 (some go28) := (by rw [hw]; exact HP32.2); have hp_ : Kd.R Kd.bool 4 w33 w.heap.size (fun k_ => some k_ ≠ (.slice (some ad372) x5_2.length co31 : Value).ownBlock) (.slice (some ⟨go28, 0, none⟩) x4_2.length co30) y374 := (by rw [hw, Ny374.out]; exact HP32.1); clear HP32; have n0_ := Aside0.mk (hp_); have n1_ := Aside0.mk (Kd.R_after (v := (.slice (some ⟨go28, 0, none⟩) x4_2.length co30)) (v1 := (.slice (some ⟨go28, 0, none⟩) x4_2.length co30)) (ok := (fun _ => True)) (by (with_reducible repeat (first | apply Kd.R_alloc | apply Kd.R_drewN | apply Kd.R_drew)); exact Kd.R_mono HO_5.out (fun _ hk => ⟨trivial, hk⟩)) hg (.inl rfl)); have n2_ := Aside0.mk ((by rw [hw]; exact below_set (HB.out) GB28.out : Below w.heap.size w w33)); clear HO_4; clear HO_5; clear HB; have HO_4 := n0_; have HO_5 := n1_; have HB := n2_; clear n0_ n1_ n2_; clear hg hw hp_; have p375 : 0 ≤ ((ji19) : Int) := of_decide_eq_true (by first | (with_reducible assumption) | assumption); have q375 : (ji19) < (l0.length : Int) := of_decide_eq_true (by first | (with_reducible assumption) | assumption); obtain ⟨ad375, e375, hx375_0⟩ := Kd.at_int HR0.out (ji19) p375 q375; obtain rfl : ad369 = ad375 := (by injection e375); replace hx375_0 := (HB.out.cell (World.block_lt_of_cell? w _ hx375_0)).trans hx375_0; replace p375 := eq_true p375; replace q375 := eq_true q375; have p29 : 0 ≤ ((rd l0 (ji19)) : Int) := of_decide_eq_true (by first | (with_reducible assumption) | assumption); have q29 : ((rd l0 (ji19)) : Int) < ((x5_2.length : Int) : Int) := of_decide_eq_true (by first | (with_reducible assumption) | assumption); obtain ⟨go29, co29, eo29, gb29, gl29, cl29, HG29⟩ := Kd.R_form HO_5.out (by omega); (first | cases eo29 | (injection eo29 with ea_ en_ ec_; (first | subst ea_ | (injection ea_ with ea_; subst ea_)); subst ec_; clear en_)); have GB29 := Aside0.mk gb29; have GG29 := Aside0.mk HG29; clear gb29 gl29 HG29; (first | simp only [add_plain] at hx372_0 | skip); obtain ⟨hx29_0, hf29_0⟩ := Kd.R_celln false HO_5.out ((rd l0 (ji19)) : Int) p29 q29; replace p29 := eq_true p29; replace q29 := eq_true q29; have n_ := Aside0.mk (Kd.R_mono (ok' := (fun k_ => some k_ ≠ (.slice (some ⟨go28, 0, none⟩) x4_2.length co30 : Value).ownBlock)) HO_5.out (fun k_ hk => hk.2)); clear HO_5; have HO_5 := n_; clear n_; obtain ⟨hy34_, hz34_⟩ := Kd.R_celln false HO_5.out ((rd l0 (ji19)) : Int) (of_decide_eq_true (by first | (with_reducible assumption) | assumption)) (of_decide_eq_true (by first | (with_reducible assumption) | assumption)); have HP34 := Kd.R_putg HO_5.out ((rd l0 (ji19)) : Int) true) | ((with_reducible refine gate_store (t := 4) (p := 59) rfl ?_); refine store_event (t := 4) (p := 59) (v := ?vo_w35) (w1 := (w33.setCell ⟨go29, ((rd l0 (ji19)) : Int).toNat, none⟩ (.bool true))) ?hg ?ho ?hn ?hr ?_; (case ho => rfl); (case hg => rfl); (case hn => rfl); (case hr => first | (go_simp; done) | (go_simp; rfl)); intro w35 hw; have hg : w33.grownBy w35 (some go29) := (by rw [hw]; exact HP34.2); have hp_ : Kd.R Kd.bool 4 w35 w.heap.size (fun k_ => some k_ ≠ (.slice (some ⟨go28, 0, none⟩) x4_2.length co30 : Value).ownBlock) (.slice (some ⟨go29, 0, none⟩) x5_2.length co31) y376 := (by rw [hw, Ny376.out]; exact HP34.1); clear HP34; have n0_ := Aside0.mk (Kd.R_after (v := (.slice (some ⟨go29, 0, none⟩) x5_2.length co31)) (v1 := (.slice (some ⟨go29, 0, none⟩) x5_2.length co31)) (ok := (fun _ => True)) (by (with_reducible repeat (first | apply Kd.R_alloc | apply Kd.R_drewN | apply Kd.R_drew)); exact Kd.R_mono HO_4.out (fun _ hk => ⟨trivial, hk⟩)) hg (.inl rfl)); have n1_ := Aside0.mk (hp_); have n2_ := Aside0.mk ((by rw [hw]; exact below_set (HB.out) GB29.out : Below w.heap.size w w35)); clear HO_4; clear HO_5; clear HB; have HO_4 := n0_; have HO_5 := n1_; have HB := n2_; clear n0_ n1_ n2_; clear hg hw hp_))
                                      go_roundg k2
                                      case measure => have := HK1.out; have := HK2.out; omega
                                      case rel => exact ⟨(y374), (y376), (wrap64 (x6_2 + 1)), (by first | rfl | (simp; done) | (simp [*]; done)), H', ⟨by have := HK1.out; have := HK2.out; omega⟩, ⟨by (with_reducible repeat (first | apply Kd.R_alloc | apply Kd.R_drewN | apply Kd.R_drew)); exact Kd.R_mono HO_4.out (fun _ hk => hk.2)⟩, ⟨by (with_reducible repeat (first | apply Kd.R_alloc | apply Kd.R_drewN | apply Kd.R_drew)); exact HO_5.out⟩, ⟨by repeat (first | (with_reducible first | exact HB.out | apply below_alloc | apply pw_below_drewN | apply below_drew1) | exact HB.out)⟩⟩
                                  · rw [if_neg c23] at H
                                    exact absurd H (by simp)
                                · rw [if_neg c22] at H
                                  exact absurd H (by simp)
                              · rw [if_neg c21] at H
                                exact absurd H (by simp)
                            · rw [if_neg c20] at H
                              exact absurd H (by simp)
                        · rw [if_neg c15] at H
                          exact absurd H (by simp)
                      · rw [if_neg c14] at H
                        exact absurd H (by simp)
                    · rw [if_neg c13] at H
                      exact absurd H (by simp)
                  · rw [if_neg c12] at H
                    exact absurd H (by simp)
                · rw [if_neg c10] at H
                  have c10b0 : decide (x6_2 < 9) = false := decide_eq_false c10
                  clear c10
                  have H' := Aside0.mk H
                  clear H
                  go_wp2
                  go_roundg k2
                  case measure => have := HK1.out; have := HK2.out; omega
                  case rel => exact ⟨(wrap64 (x3_1 + 1)), (by first | rfl | (simp; done) | (simp [*]; done)), H', ⟨by have := HK1.out; have := HK2.out; omega⟩, ⟨by repeat (first | (with_reducible first | exact HB.out | apply below_alloc | apply pw_below_drewN | apply below_drew1) | exact HB.out)⟩⟩
          · rw [if_neg c5] at H
            exact absurd H (by simp)
        · rw [if_neg c4] at H
          have c4b0 : decide (x3_1 < 9) = false := decide_eq_false c4
          clear c4
          obtain rfl := Option.some.inj H
          go_wp2
          go_ret
          exact ⟨by first | rfl | (simp [errW_none, errW_some] <;> rfl) | (simp [*, errW_none, errW_some] <;> rfl), by repeat (first | (with_reducible first | exact HB.out | apply below_alloc | apply pw_below_drewN | apply below_drew1) | exact HB.out)⟩
  · replace c3 := Bool.eq_false_iff.mpr c3
    subst c3
    have H1 : (some false) = some r := by rw [if_neg (show ¬ (false = true) by decide)] at H; exact H
    clear H
    have H := H1
    clear H1
    obtain rfl := Option.some.inj H
    go_enter Try.func34, Try.ntmps34
    go_wp2_with (first | ((with_reducible refine gate_callee (f := 75) rfl ?_); refine goesL_ (some 8) rfl rfl Try.func75 (by kernel_rfl) rfl #[.slice A0 l0.length c0] rfl (by (try simp only [List.map_toArray, List.map_cons, List.map_nil]); first | done | rfl | (simp only [List.length_drop, List.length_take]; rfl)) ?_; (with_reducible refine (spec_l2Table.calls k _ _ l0 false _ ?side1 ?side2 A2.out).mono ?_); (case side1 => repeat (first | exact HR0.out | (with_reducible refine Kd.C_alloc ?_ _) | (with_reducible refine Kd.C_drewN ?_ _) | (with_reducible refine Kd.C_drew ?_))); (case side2 => exact HC0.out); rintro e w' ⟨rfl, ⟨nd, rfl⟩⟩; refine ⟨_, rfl, ?_⟩))
    go_ret
    exact ⟨by first | rfl | (simp [errW_none, errW_some] <;> rfl) | (simp [*, errW_none, errW_some] <;> rfl), by repeat (first | (with_reducible first | exact HB.out | apply below_alloc | apply pw_below_drewN | apply below_drew1) | exact HB.out)⟩

end Go.Proofs.Ytfoadgbffidgaaa.P

set_option linter.unusedVariables false
set_option linter.unusedSimpArgs false
namespace Go.Proofs.Ytfoadgbffidgaaa.X
open Go.RowKit Go.Proofs.YtfoadgbffidgaaaW.PrintWords Go.Proofs.YtfoadgbffidgaaaW.PrintLast Go.Proofs.Ytfoadgbffidgaaa.P

/-! ### a list of bools -/
def bL (n : Nat) (s : Nat → Bool) : List Bool := (List.range n).map s
theorem bL_length (n : Nat) (s : Nat → Bool) : (bL n s).length = n := by simp [bL]
theorem bL_replicate (n : Nat) : List.replicate n false = bL n (fun _ => false) := by
  unfold bL; rw [List.map_const']; simp
theorem bL_rd {n : Nat} {s : Nat → Bool} (v : Int) (h0 : 0 ≤ v) (h1 : v < n) : rdOf false (bL n s) v = s v.toNat := by
  unfold rdOf bL
  rw [List.getD_eq_getElem?_getD, List.getElem?_map, List.getElem?_range (by omega)]
  rfl
theorem bL_set {n : Nat} {s : Nat → Bool} (v : Int) (b : Bool) : (bL n s).set v.toNat b = bL n (fun x => if x = v.toNat then b else s x) := by
  apply List.ext_getElem?
  intro i
  rw [List.getElem?_set]
  by_cases hi : i < n
  · by_cases hj : v.toNat = i
    · subst hj; simp [bL, hi]
    · simp [bL, hi, hj, Ne.symm hj]
  · by_cases hj : v.toNat = i
    · subst hj; simp [bL, hi]
    · simp [bL, hi, hj]
theorem bL_congr {n : Nat} {s s' : Nat → Bool} (h : ∀ j, j < n → s j = s' j) : bL n s = bL n s' := by
  unfold bL
  exact List.map_congr_left fun j hj => h j (List.mem_range.1 hj)
theorem bL_seen {n : Nat} (p : Int → Int) (i : Int) (h0 : 0 ≤ i) (v : Int) (hv0 : 0 ≤ v) (hv : p i = v) : (bL n (seenO p i)).set v.toNat true = bL n (seenO p (i + 1)) := by
  rw [bL_set]
  refine bL_congr fun j hj => ?_
  rw [seenO_succ p i h0 j, hv]
  by_cases e : j = v.toNat
  · subst e; rw [if_pos rfl, decide_eq_true (by omega), Bool.or_true]
  · rw [if_neg e, decide_eq_false (by omega), Bool.or_false]
theorem seenO_zero (p : Int → Int) (j : Nat) : seenO p 0 j = false := rfl
theorem seenO_dup {p : Int → Int} {i : Int} {n : Nat} (h0 : 0 ≤ i) (hi : i < n) (hv : 0 ≤ p i) (h : seenO p i (p i).toNat = true) : onceN n p = false := by
  unfold seenO at h
  obtain ⟨z, hz, hpz⟩ := List.any_eq_true.1 h
  have hz := List.mem_range.1 hz
  have hpz := of_decide_eq_true hpz
  exact onceN_hit z i (by omega) (by omega) hi (by rw [hpz]; omega)
theorem seenO_new {p : Int → Int} {i : Int} (h0 : 0 ≤ i) (hv : 0 ≤ p i) (h : seenO p i (p i).toNat = false) (ha : ∀ x y : Int, 0 ≤ x → x < y → y < i → p x ≠ p y) : ∀ x y : Int, 0 ≤ x → x < y → y < i + 1 → p x ≠ p y := by
  intro u v hu huv hv1
  by_cases e : v = i
  · subst e
    intro hue
    unfold seenO at h
    have := List.any_eq_false.1 h u.toNat (List.mem_range.2 (by omega))
    rw [Int.toNat_of_nonneg hu, hue] at this
    exact this (decide_eq_true (by omega))
  · exact ha u v hu huv (by omega)
theorem onceB_onceN (p : Int → Int) : onceB p = onceN 9 p := rfl

/-! ### SquareIn -/
theorem SquareIn_l1 (s : List Int) (hn : ninesB s 81 = true) (a : Int) (ha : In9 a) (hr : squareRow s a = true → squareCol s a = true → Ev (fun k => spec_SquareIn.l0 k s (a + 1)) (squareB s)) (n : Nat) :
    ∀ (b : Int), 0 ≤ b → b + n = 9 → (∀ x y : Int, 0 ≤ x → x < y → y < b → rd s (9 * a + x) ≠ rd s (9 * a + y)) → (∀ x y : Int, 0 ≤ x → x < y → y < b → rd s (9 * x + a) ≠ rd s (9 * y + a)) →
      Ev (fun k => spec_SquareIn.l1 k s a (bL 9 (seenO (fun x => rd s (9 * a + x)) b)) (bL 9 (seenO (fun x => rd s (9 * x + a)) b)) b) (squareB s) := by
  have hl := (ninesB_iff.1 hn).1
  obtain ⟨a0, a1⟩ := ha
  induction n with
  | zero =>
    intro b h0 h1 hR hC
    refine Ev.step (fun k => by rw [spec_SquareIn.l1]) ?_
    have z3 : wrap64 (a + 1) = a + 1 := w64 (by omega) (by omega)
    simp only [z3]
    refine Ev.neg (by omega) (hr ?_ ?_)
    · exact onceN_iff.2 fun x y x0 xy y9 => hR x y x0 xy (by omega)
    · exact onceN_iff.2 fun x y x0 xy y9 => hC x y x0 xy (by omega)
  | succ n ih =>
    intro b h0 h1 hR hC
    obtain ⟨r0, r1⟩ := nines_rd hn (i := 9 * a + b) (by omega) (by omega)
    obtain ⟨c0, c1⟩ := nines_rd hn (i := 9 * b + a) (by omega) (by omega)
    have hs1 := bL_seen (n := 9) (fun x => rd s (9 * a + x)) b h0 (rd s (9 * a + b)) r0 rfl
    have hs2 := bL_seen (n := 9) (fun x => rd s (9 * x + a)) b h0 (rd s (9 * b + a)) c0 rfl
    refine Ev.step (fun k => by rw [spec_SquareIn.l1]) ?_
    have z1 : wrap64 (wrap64 (9 * a) + b) = 9 * a + b := by rw [w64 (x := 9 * a) (by omega) (by omega)]; exact w64 (by omega) (by omega)
    have z2 : wrap64 (wrap64 (9 * b) + a) = 9 * b + a := by rw [w64 (x := 9 * b) (by omega) (by omega)]; exact w64 (by omega) (by omega)
    have z3 : wrap64 (b + 1) = b + 1 := w64 (by omega) (by omega)
    have z4 := bL_rd (n := 9) (s := seenO (fun x => rd s (9 * a + x)) b) (rd s (9 * a + b)) r0 r1
    have z5 := bL_rd (n := 9) (s := seenO (fun x => rd s (9 * x + a)) b) (rd s (9 * b + a)) c0 c1
    simp only [z1, z2, z3, bL_length, z4, z5, hs1, hs2]
    refine Ev.pos (by omega) (Ev.pos (by omega) (Ev.pos (by omega) (Ev.pos r0 (Ev.pos (by omega) ?_))))
    by_cases e1 : seenO (fun x => rd s (9 * a + x)) b (rd s (9 * a + b)).toNat = true
    case pos =>
      refine Ev.pos e1 (Ev.done ?_)
      have : squareRow s a = false := seenO_dup (n := 9) (p := fun x => rd s (9 * a + x)) h0 (by omega) r0 e1
      rw [squareB_hit a0 a1 (by rw [this]; rfl)]
    refine Ev.neg e1 (Ev.pos (by omega) (Ev.pos (by omega) (Ev.pos c0 (Ev.pos (by omega) ?_))))
    by_cases e2 : seenO (fun x => rd s (9 * x + a)) b (rd s (9 * b + a)).toNat = true
    case pos =>
      refine Ev.pos e2 (Ev.done ?_)
      have : squareCol s a = false := seenO_dup (n := 9) (p := fun x => rd s (9 * x + a)) h0 (by omega) c0 e2
      rw [squareB_hit a0 a1 (by rw [this, Bool.and_false])]
    refine Ev.neg e2 (ih (b + 1) (by omega) (by omega) ?_ ?_)
    · exact seenO_new (p := fun x => rd s (9 * a + x)) h0 r0 (Bool.eq_false_iff.2 e1) hR
    · exact seenO_new (p := fun x => rd s (9 * x + a)) h0 c0 (Bool.eq_false_iff.2 e2) hC
theorem SquareIn_l0 (s : List Int) (hn : ninesB s 81 = true) (n : Nat) : ∀ (a : Int), 0 ≤ a → a + n = 9 → (∀ x : Int, 0 ≤ x → x < a → squareRow s x = true ∧ squareCol s x = true) → Ev (fun k => spec_SquareIn.l0 k s a) (squareB s) := by
  induction n with
  | zero =>
    intro a h0 h1 h
    refine Ev.step (fun k => by rw [spec_SquareIn.l0]) ?_
    refine Ev.neg (by omega) (Ev.done ?_)
    rw [squareB_all hn fun k k0 k1 => h k k0 (by omega)]
  | succ n ih =>
    intro a h0 h1 h
    refine Ev.step (fun k => by rw [spec_SquareIn.l0]) ?_
    refine Ev.pos (by omega) (Ev.pos (by omega) ?_)
    rw [bL_replicate]
    refine SquareIn_l1 s hn a ⟨h0, by omega⟩ (fun hr hc => ih (a + 1) (by omega) (by omega) fun x x0 x1 => ?_) 9 0 (by omega) (by omega) (fun x y h0 h1 h2 => by omega) (fun x y h0 h1 h2 => by omega)
    by_cases e : x = a
    · rw [e]; exact ⟨hr, hc⟩
    · exact h x x0 (by omega)
theorem SquareIn_ev (s : List Int) (hl : s.length ≤ 1048576) : Ev (fun k => spec_SquareIn.f k s) (squareB s) := by
  unfold spec_SquareIn.f
  refine Ev.bind (l2Table_ev s hl) ?_
  by_cases hn : ninesB s 81 = true
  case neg =>
    refine Ev.neg hn (Ev.done ?_)
    unfold squareB; rw [Bool.eq_false_iff.2 hn]; rfl
  exact Ev.pos hn (SquareIn_l0 s hn 9 0 (by omega) (by omega) (fun x h0 h1 => by omega))

end Go.Proofs.Ytfoadgbffidgaaa.X

set_option linter.unusedVariables false
set_option linter.unusedSimpArgs false
namespace Go.Proofs.Ytfoadgbffidgaaa.X
open Go.RowKit Go.Proofs.YtfoadgbffidgaaaW.PrintWords Go.Proofs.YtfoadgbffidgaaaW.PrintLast Go.Proofs.Ytfoadgbffidgaaa.P

theorem rdL_cast (l : List (List Int)) (i : Nat) (h : i < l.length) : rd_L1 l (i : Int) = l[i] := by
  unfold rd_L1
  rw [List.getD_eq_getElem?_getD]
  simp [h]
theorem rdL_int {l : List (List Int)} {i : Int} (h0 : 0 ≤ i) (h1 : i < l.length) : rd_L1 l i = l[i.toNat]'(by omega) := by
  rw [← rdL_cast l i.toNat (by omega), Int.toNat_of_nonneg h0]
theorem rdL_mem {l : List (List Int)} {i : Int} (h0 : 0 ≤ i) (h1 : i < l.length) : rd_L1 l i ∈ l := by
  rw [rdL_int h0 h1]; exact List.getElem_mem _
theorem ext_rdL {a b : List (List Int)} (hl : a.length = b.length) (h : ∀ i : Nat, i < a.length → rd_L1 a (i : Int) = rd_L1 b (i : Int)) : a = b := by
  apply List.ext_getElem hl
  intro i h1 h2
  rw [← rdL_cast a i h1, ← rdL_cast b i h2]
  exact h i h1
/-- A list of lists that is short, of short ones. -/
def Short (l : List (List Int)) : Prop := l.length ≤ 1048576 ∧ ∀ x ∈ l, x.length ≤ 1048576
theorem toIntSS_loop (l : List (List Int)) (hl : Short l) (d : Nat) : ∀ (i : Int) (acc : List (List Int)), 0 ≤ i → i + d = l.length → acc = l.take i.toNat ++ List.replicate d [] → Ev (fun k => laws_toIntSS.l0 k l acc i) l := by
  have hl1 := hl.1
  induction d with
  | zero =>
    intro i acc h0 h1 ha
    refine Ev.step (fun k => by rw [laws_toIntSS.l0]) ?_
    refine Ev.neg (by omega) ?_
    refine Ev.done ?_
    rw [ha, List.take_of_length_le (by omega)]; simp
  | succ d ih =>
    intro i acc h0 h1 ha
    have hlen : acc.length = l.length := by rw [ha]; simp; omega
    refine Ev.step (fun k => by rw [laws_toIntSS.l0]) ?_
    rw [w64 (x := i + 1) (by omega) (by omega)]
    refine Ev.pos (by omega) (Ev.pos (by omega) (Ev.bind (toIntS_ev _ (hl.2 _ (rdL_mem h0 (by omega)))) (Ev.pos (by omega) ?_)))
    refine ih (i + 1) _ (by omega) (by omega) ?_
    rw [ha, show (i + 1).toNat = i.toNat + 1 by omega, List.take_add_one, List.replicate_succ]
    rw [List.set_append, if_neg (by rw [List.length_take]; omega)]
    have hi : i.toNat < l.length := by omega
    have e1 : min i.toNat l.length = i.toNat := by omega
    simp only [List.length_take, e1, Nat.sub_self, List.set_cons_zero, List.getElem?_eq_getElem hi, Option.toList_some, List.append_assoc, List.singleton_append]
    rw [rdL_int h0 (by omega)]
theorem toIntSS_ev (l : List (List Int)) (hl : Short l) : Ev (fun k => laws_toIntSS.f k l) l := by
  have hl1 := hl.1
  unfold laws_toIntSS.f
  refine Ev.pos (by omega) (Ev.pos (by omega) ?_)
  exact toIntSS_loop l hl l.length 0 _ (by omega) (by omega) (by simp)
theorem eqIntSS_loop (a b : List (List Int)) (hl : Short a) (hab : a.length = b.length) (d : Nat) : ∀ (i : Int), 0 ≤ i → i + d = a.length → (∀ j : Nat, (j : Int) < i → rd_L1 a (j : Int) = rd_L1 b (j : Int)) → Ev (fun k => laws_eqIntSS.l0 k a b i) (decide (a = b)) := by
  have hl1 := hl.1
  induction d with
  | zero =>
    intro i h0 h1 h
    refine Ev.step (fun k => by rw [laws_eqIntSS.l0]) ?_
    refine Ev.neg (by omega) (Ev.done ?_)
    rw [decide_eq_true (ext_rdL hab fun j hj => h j (by omega))]
  | succ d ih =>
    intro i h0 h1 h
    refine Ev.step (fun k => by rw [laws_eqIntSS.l0]) ?_
    rw [w64 (x := i + 1) (by omega) (by omega)]
    refine Ev.pos (by omega) (Ev.pos (by omega) (Ev.pos (by omega) (Ev.bind (eqIntS_ev _ _ (hl.2 _ (rdL_mem h0 (by omega)))) ?_)))
    by_cases e : rd_L1 a i = rd_L1 b i
    · refine Ev.pos (decide_eq_true e) (ih (i + 1) (by omega) (by omega) fun j hj => ?_)
      by_cases ej : (j : Int) = i
      · rw [ej]; exact e
      · exact h j (by omega)
    · refine Ev.neg (by rw [decide_eq_false e]; decide) (Ev.done ?_)
      rw [decide_eq_false (fun hab => e (by rw [hab]))]
theorem eqIntSS_ev (a b : List (List Int)) (hl : Short a) : Ev (fun k => laws_eqIntSS.f k a b) (decide (a = b)) := by
  unfold laws_eqIntSS.f
  by_cases h : a.length = b.length
  · exact Ev.pos (by omega) (eqIntSS_loop a b hl h a.length 0 (by omega) (by omega) fun j hj => by omega)
  · refine Ev.neg (by omega) (Ev.done ?_)
    rw [decide_eq_false (fun hab => h (by rw [hab]))]
theorem szIntSS_loop (l : List (List Int)) (hm : ∀ x ∈ l, x.length ≤ 9223372036854775807) (hl : l.length ≤ 1048576) (d : Nat) : ∀ (i left : Int), 0 ≤ i → i + d = l.length → 0 ≤ left → left ≤ 1048576 → (∀ j : Nat, (j : Int) < i → (rd_L1 l j).length ≤ 1048576) →
    ∃ v : Int, Ev (fun k => laws_szIntSS.l0 k l left i) v ∧ (v < 0 ∨ (0 ≤ v ∧ v ≤ 1048576 ∧ ∀ j : Nat, (j : Int) < l.length → (rd_L1 l j).length ≤ 1048576)) := by
  induction d with
  | zero =>
    intro i left h0 h1 l0 l1 h
    refine ⟨left, Ev.step (fun k => by rw [laws_szIntSS.l0]) (Ev.neg (by omega) (Ev.done rfl)), .inr ⟨l0, l1, fun j hj => h j (by omega)⟩⟩
  | succ d ih =>
    intro i left h0 h1 l0 l1 h
    have hmi := hm _ (rdL_mem (l := l) h0 (by omega))
    have hz : wrap64 (left - ((rd_L1 l i).length : Int)) = left - (rd_L1 l i).length := w64 (by omega) (by omega)
    by_cases c : left - (rd_L1 l i).length < 0
    · refine ⟨-1, ?_, .inl (by decide)⟩
      refine Ev.step (fun k => by rw [laws_szIntSS.l0]) ?_
      refine Ev.pos (by omega) (Ev.pos h0 ?_)
      refine Ev.fix (a := (-1 : Int)) ?_ ?_
      · unfold laws_szIntS.f; rw [hz, if_pos c]
      · exact Ev.pos (by decide) (Ev.done rfl)
    · obtain ⟨v, hv, hc⟩ := ih (i + 1) (left - (rd_L1 l i).length) (by omega) (by omega) (by omega) (by omega) fun j hj => by
        by_cases e : (j : Int) = i
        · rw [e]; omega
        · exact h j (by omega)
      refine ⟨v, ?_, hc⟩
      refine Ev.step (fun k => by rw [laws_szIntSS.l0]) ?_
      refine Ev.pos (by omega) (Ev.pos h0 ?_)
      refine Ev.fix (a := left - ((rd_L1 l i).length : Int)) ?_ ?_
      · unfold laws_szIntS.f; rw [hz, if_neg c]
      · refine Ev.neg c ?_
        rw [w64 (x := i + 1) (by omega) (by omega)]; exact hv
/-- What is left behind a list of lists: less than 0, or the list is short. -/
theorem szIntSS_ev (l : List (List Int)) (hl : l.length ≤ 9223372036854775807) (hm : ∀ x ∈ l, x.length ≤ 9223372036854775807) (left : Int) (l0 : 0 ≤ left) (l1 : left ≤ 1048576) : ∃ v : Int, Ev (fun k => laws_szIntSS.f k l left) v ∧ (v < 0 ∨ (0 ≤ v ∧ v ≤ 1048576 ∧ Short l)) := by
  have hz : wrap64 (left - (l.length : Int)) = left - l.length := w64 (by omega) (by omega)
  unfold laws_szIntSS.f
  rw [hz]
  by_cases c : left - l.length < 0
  · exact ⟨-1, Ev.pos c (Ev.done rfl), .inl (by decide)⟩
  · obtain ⟨v, hv, hc⟩ := szIntSS_loop l hm (by omega) l.length 0 (left - l.length) (by omega) (by omega) (by omega) (by omega) fun j hj => by omega
    refine ⟨v, Ev.neg c hv, hc.imp id fun h => ⟨h.1, h.2.1, by omega, fun x hx => ?_⟩⟩
    obtain ⟨j, hj, rfl⟩ := List.mem_iff_getElem.1 hx
    have := h.2.2 j (by omega)
    rwa [rdL_cast l j hj] at this

end Go.Proofs.Ytfoadgbffidgaaa.X

set_option linter.unusedVariables false
set_option linter.unusedSimpArgs false
namespace Go.Proofs.Ytfoadgbffidgaaa.X
open Go.RowKit Go.Proofs.YtfoadgbffidgaaaW.PrintWords Go.Proofs.YtfoadgbffidgaaaW.PrintLast Go.Proofs.Ytfoadgbffidgaaa.P

theorem l6lLess_loop (a b : List Int) (ha : a.length = 9) (hb : b.length = 9) (d : Nat) : ∀ i : Int, 0 ≤ i → i + d = 9 → (∀ j : Int, 0 ≤ j → j < i → rd a j = rd b j) → Ev (fun k => spec_l6lLess.l0 k a b i) (lessB a b) := by
  induction d with
  | zero =>
    intro i h0 h1 h
    refine Ev.step (fun k => by rw [spec_l6lLess.l0]) ?_
    refine Ev.neg (by omega) (Ev.done ?_)
    have : gapI a b = -1 := firstI_none fun j j0 j1 => by rw [h j j0 (by omega)]; simp
    unfold lessB; rw [this]; rfl
  | succ d ih =>
    intro i h0 h1 h
    refine Ev.step (fun k => by rw [spec_l6lLess.l0]) ?_
    rw [w64 (x := i + 1) (by omega) (by omega)]
    refine Ev.pos (by omega) (Ev.pos h0 (Ev.pos (by omega) (Ev.pos (by omega) ?_)))
    by_cases e : rd a i = rd b i
    · refine Ev.pos e (ih (i + 1) (by omega) (by omega) fun j j0 j1 => ?_)
      by_cases ej : j = i
      · rw [ej]; exact e
      · exact h j j0 (by omega)
    · refine Ev.neg e (Ev.done ?_)
      have : gapI a b = i := firstI_some i h0 (by omega) (by simpa using e) fun j j0 j1 => by rw [h j j0 j1]; simp
      unfold lessB; rw [this, decide_eq_true h0, Bool.true_and]
theorem l6lLess_ev (a b : List Int) (ha : a.length = 9) (hb : b.length = 9) : Ev (fun k => spec_l6lLess.f k a b) (lessB a b) :=
  l6lLess_loop a b ha hb 9 0 (by omega) (by omega) (fun j j0 j1 => by omega)

theorem seenS_iff {l : List (List Int)} {i p : Int} : seenS l i p = true ↔ ∃ j : Nat, (j : Int) < i ∧ p ∈ rd_L1 l (j : Int) := by
  unfold seenS
  simp only [List.any_eq_true, List.mem_range, decide_eq_true_eq]
  constructor
  · rintro ⟨j, hj, h⟩; exact ⟨j, by omega, h⟩
  · rintro ⟨j, hj, h⟩; exact ⟨j, by omega, h⟩
theorem fresh_rd {l : List (List Int)} {i : Int} (h : freshB l i = true) {p : Int} (hp : p ∈ rd_L1 l i) (h0 : 0 < p) : seenS l i p = false := by
  unfold freshB at h
  have := List.all_eq_true.1 h p hp
  rw [decide_eq_false (by omega), Bool.false_or, Bool.not_eq_true'] at this
  exact this
/-- A point that is not 0 is on one leaf of a spread alone. -/
theorem spread_apart {l : List (List Int)} (h : spreadB l = true) {i j p : Int} (i0 : 0 ≤ i) (ij : i < j) (j1 : j < 10) (h0 : 0 < p) (hi : p ∈ rd_L1 l i) (hj : p ∈ rd_L1 l j) : False := by
  have := fresh_rd (leafOk_parts ((spreadB_parts h).2 j (by omega) j1)).2.2 hj h0
  have h2 := seenS_iff.2 ⟨i.toNat, (by omega : (i.toNat : Int) < j), (by rw [Int.toNat_of_nonneg i0]; exact hi : p ∈ rd_L1 l (i.toNat : Int))⟩
  rw [this] at h2; exact absurd h2 (by decide)
theorem spread_leaf {l : List (List Int)} (h : spreadB l = true) {i : Int} (i0 : 0 ≤ i) (i1 : i < 10) : leafB (rd_L1 l i) = true := (leafOk_parts ((spreadB_parts h).2 i i0 i1)).1
/-- A spread has all near points. -/
theorem spread_cover {l : List (List Int)} (h : spreadB l = true) {g : Int} (g0 : 0 ≤ g) (g1 : g < 81) : ∃ j : Int, 0 ≤ j ∧ j < 10 ∧ g ∈ rd_L1 l j := by
  by_cases hg : g = 0
  · have hl := spread_leaf h (i := 0) (by omega) (by omega)
    refine ⟨0, by omega, by omega, ?_⟩
    have hm := rd_mem (t := rd_L1 l 0) (i := 0) (by have := (leafB_parts hl).1; omega) (by omega)
    rw [leaf_zero hl] at hm
    rw [hg]; exact hm
  have hv : ∀ n : Nat, n < 80 → rd (rd_L1 l ((n / 8 : Nat) : Int)) ((n % 8 : Nat) + 1 : Int) ∈ rd_L1 l ((n / 8 : Nat) : Int) ∧ 0 < rd (rd_L1 l ((n / 8 : Nat) : Int)) ((n % 8 : Nat) + 1 : Int) ∧ rd (rd_L1 l ((n / 8 : Nat) : Int)) ((n % 8 : Nat) + 1 : Int) < 81 := fun n hn => by
    have hl := spread_leaf h (i := ((n / 8 : Nat) : Int)) (by omega) (by omega)
    exact ⟨rd_mem (by have := (leafB_parts hl).1; omega) (by omega), leaf_pos hl (by omega) (by omega), (leaf_near hl (by omega) (by omega)).2⟩
  obtain ⟨n, hn, e⟩ := pigeon 80 (fun n => (rd (rd_L1 l ((n / 8 : Nat) : Int)) ((n % 8 : Nat) + 1 : Int) - 1).toNat) (fun n hn => by have := hv n hn; omega)
    (fun n m hnm hm e => by
      obtain ⟨a1, a2, a3⟩ := hv n (by omega)
      obtain ⟨b1, b2, b3⟩ := hv m hm
      have ee : rd (rd_L1 l ((n / 8 : Nat) : Int)) ((n % 8 : Nat) + 1 : Int) = rd (rd_L1 l ((m / 8 : Nat) : Int)) ((m % 8 : Nat) + 1 : Int) := by omega
      by_cases hq : n / 8 = m / 8
      · rw [hq] at ee
        have := leaf_asc (spread_leaf h (i := ((m / 8 : Nat) : Int)) (by omega) (by omega)) (i := (n % 8 : Nat) + 1) (j := (m % 8 : Nat) + 1) (by omega) (by omega) (by omega)
        omega
      · rw [ee] at a1 a2
        exact spread_apart h (i := ((n / 8 : Nat) : Int)) (j := ((m / 8 : Nat) : Int)) (by omega) (by omega) (by omega) a2 a1 b1) (g - 1).toNat (by omega)
  obtain ⟨a1, a2, a3⟩ := hv n hn
  exact ⟨((n / 8 : Nat) : Int), by omega, by omega, by rw [show g = rd (rd_L1 l ((n / 8 : Nat) : Int)) ((n % 8 : Nat) + 1 : Int) by omega]; exact a1⟩

/-! ### the reference's SpreadIn -/
def bitR (l : List (List Int)) (i k : Int) (p : Nat) : Bool := decide (0 < (p : Int)) && (seenS l i (p : Int) || decide ((p : Int) ∈ (rd_L1 l i).take k.toNat))
theorem specSpread_l1 (l : List (List Int)) (hl : l.length = 10) (i : Int) (i0 : 0 ≤ i) (i1 : i < 10) (hlf : leafB (rd_L1 l i) = true) (hor : ordB l i = true)
    (hr : leafOk l i = true → Ev (fun k => spec_SpreadIn.l0 k l (bL 81 fun p => decide (0 < (p : Int)) && seenS l (i + 1) (p : Int)) (i + 1)) (spreadB l)) (d : Nat) :
    ∀ k : Int, 1 ≤ k → k + d = 9 → (∀ j : Int, 0 ≤ j → j < k → (decide (rd (rd_L1 l i) j ≤ 0) || !seenS l i (rd (rd_L1 l i) j)) = true) → Ev (fun n => spec_SpreadIn.l1 n l (bL 81 (bitR l i k)) i k) (spreadB l) := by
  have hl9 := (leafB_parts hlf).1
  induction d with
  | zero =>
    intro k k0 k1 h
    have e9 : k = 9 := by omega
    subst e9
    refine Ev.step (fun n => by rw [spec_SpreadIn.l1]) ?_
    rw [w64 (x := i + 1) (by omega) (by omega)]
    have hfr : freshB l i = true := by
      unfold freshB
      rw [List.all_eq_true]
      intro p hp
      obtain ⟨j, j0, j1, rfl⟩ := mem_rd hp
      exact h j j0 (by omega)
    have hb : bL 81 (bitR l i 9) = bL 81 fun p => decide (0 < (p : Int)) && seenS l (i + 1) (p : Int) := bL_congr fun j hj => by
      unfold bitR
      rw [seenS_succ l i0, List.take_of_length_le (by omega)]
    rw [hb]
    exact Ev.neg (by omega) (hr (by unfold leafOk; rw [hlf, hor, hfr]; rfl))
  | succ d ih =>
    intro k k0 k1 h
    obtain ⟨p0, p1⟩ := leaf_near hlf (i := k) (by omega) (by omega)
    have pp := leaf_pos hlf (i := k) (by omega) (by omega)
    have hnt := leaf_take hlf (i := k) (by omega) (by omega)
    have hbit : rdOf false (bL 81 (bitR l i k)) (rd (rd_L1 l i) k) = seenS l i (rd (rd_L1 l i) k) := by
      rw [bL_rd _ p0 p1]
      unfold bitR
      rw [Int.toNat_of_nonneg p0, decide_eq_true pp, decide_eq_false hnt, Bool.or_false, Bool.true_and]
    have hset : (bL 81 (bitR l i k)).set (rd (rd_L1 l i) k).toNat true = bL 81 (bitR l i (k + 1)) := by
      rw [bL_set]
      refine bL_congr fun j hj => ?_
      unfold bitR
      rw [show (k + 1).toNat = k.toNat + 1 by omega, List.take_add_one, List.getElem?_eq_getElem (by omega), Option.toList_some]
      have e2 : (rd_L1 l i)[k.toNat]'(by omega) = rd (rd_L1 l i) k := (rd_getElem (by omega) (by omega)).symm
      rw [e2]
      by_cases e : j = (rd (rd_L1 l i) k).toNat
      · rw [if_pos e, decide_eq_true (by omega : (0 : Int) < j)]
        have : (j : Int) ∈ (rd_L1 l i).take k.toNat ++ [rd (rd_L1 l i) k] := by rw [List.mem_append]; right; rw [List.mem_singleton]; omega
        rw [decide_eq_true this, Bool.or_true]; rfl
      · rw [if_neg e]
        congr 2
        refine decide_eq_decide.2 ?_
        rw [List.mem_append, List.mem_singleton]
        exact ⟨fun h => .inl h, fun h => h.elim id fun h => absurd h (by omega)⟩
    refine Ev.step (fun n => by rw [spec_SpreadIn.l1]) ?_
    rw [hbit, hset, bL_length, w64 (x := k + 1) (by omega) (by omega)]
    refine Ev.pos (by omega) (Ev.pos i0 (Ev.pos (by omega) (Ev.pos (by omega) (Ev.pos (by omega) (Ev.pos p0 (Ev.pos p1 ?_))))))
    by_cases hs : seenS l i (rd (rd_L1 l i) k) = true
    · refine Ev.pos hs (Ev.done ?_)
      have hfr : freshB l i = false := by
        cases e : freshB l i with
        | false => rfl
        | true =>
          have := fresh_rd e (rd_mem (i := k) (by omega) (by omega)) pp
          rw [hs] at this; exact absurd this (by decide)
      rw [spreadB_hit i0 i1 (by unfold leafOk; rw [hfr, Bool.and_false, Bool.and_false])]
    · refine Ev.neg hs (ih (k + 1) (by omega) (by omega) fun j j0 j1 => ?_)
      by_cases e : j = k
      · rw [e, Bool.eq_false_iff.2 hs, Bool.not_false, Bool.or_true]
      · exact h j j0 (by omega)
theorem specSpread_l0 (l : List (List Int)) (hl : l.length = 10) (d : Nat) : ∀ i : Int, 0 ≤ i → i + d = 10 → (∀ j : Int, 0 ≤ j → j < i → leafOk l j = true) → Ev (fun k => spec_SpreadIn.l0 k l (bL 81 fun p => decide (0 < (p : Int)) && seenS l i (p : Int)) i) (spreadB l) := by
  induction d with
  | zero =>
    intro i h0 h1 h
    refine Ev.step (fun k => by rw [spec_SpreadIn.l0]) ?_
    refine Ev.neg (by omega) (Ev.done ?_)
    rw [spreadB_all hl fun j j0 j1 => h j j0 (by omega)]
  | succ d ih =>
    intro i h0 h1 h
    refine Ev.step (fun k => by rw [spec_SpreadIn.l0]) ?_
    refine Ev.pos (by omega) (Ev.pos h0 (Ev.pos (by omega) (Ev.bind (specLeaf_ev _) ?_)))
    by_cases hlf : leafB (rd_L1 l i) = true
    case neg =>
      refine Ev.neg hlf (Ev.step (fun k => by rw [spec_SpreadIn.j1]) (Ev.pos rfl (Ev.done ?_)))
      rw [spreadB_hit h0 (by omega) (by unfold leafOk; rw [Bool.eq_false_iff.2 hlf]; rfl)]
    refine Ev.pos hlf ?_
    have hz : (bL 81 fun p => decide (0 < (p : Int)) && seenS l i (p : Int)) = bL 81 (bitR l i 1) := bL_congr fun j hj => by
      unfold bitR
      have hl9 := (leafB_parts hlf).1
      have ht : (rd_L1 l i).take (1 : Int).toNat = [0] := by
        rw [show (1 : Int).toNat = 0 + 1 by rfl, List.take_add_one, List.getElem?_eq_getElem (by omega), Option.toList_some]
        have := leaf_zero hlf
        rw [rd_getElem (by omega) (by omega)] at this
        have e3 : (rd_L1 l i)[0]'(by omega) = 0 := this
        rw [e3]; rfl
      rw [ht]
      by_cases e : 0 < (j : Int)
      · rw [decide_eq_true e, decide_eq_false (by rw [List.mem_singleton]; omega), Bool.or_false]
      · rw [decide_eq_false e]; rfl
    have tail : ordB l i = true → Ev (fun k => spec_SpreadIn.j1 k l (bL 81 fun p => decide (0 < (p : Int)) && seenS l i (p : Int)) i false) (spreadB l) := fun hor => by
      refine Ev.step (fun k => by rw [spec_SpreadIn.j1]) (Ev.neg (by decide) ?_)
      rw [hz]
      refine specSpread_l1 l hl i h0 (by omega) hlf hor (fun hok => ih (i + 1) (by omega) (by omega) fun j j0 j1 => ?_) 8 1 (by omega) (by omega) fun j j0 j1 => ?_
      · by_cases e : j = i
        · rw [e]; exact hok
        · exact h j j0 (by omega)
      · rw [show j = 0 by omega, leaf_zero hlf]; rfl
    by_cases hi : i > 0
    · have hlp := (leafOk_parts (h (i - 1) (by omega) (by omega))).1
      have hor : ordB l i = lessB (rd_L1 l (i - 1)) (rd_L1 l i) := by unfold ordB; rw [decide_eq_false (by omega), Bool.false_or]
      rw [w64 (x := i - 1) (by omega) (by omega)]
      refine Ev.pos hi (Ev.pos (by omega) (Ev.pos (by omega) (Ev.bind (l6lLess_ev _ _ (leafB_parts hlp).1 (leafB_parts hlf).1) ?_)))
      rw [← hor]
      by_cases ho : ordB l i = true
      · rw [ho]; exact tail ho
      · have ho := Bool.eq_false_iff.2 ho
        rw [ho]
        refine Ev.step (fun k => by rw [spec_SpreadIn.j1]) ?_
        refine Ev.pos rfl (Ev.done ?_)
        rw [spreadB_hit h0 (by omega) (by unfold leafOk; rw [ho, Bool.false_and, Bool.and_false])]
    · exact Ev.neg hi (tail (by unfold ordB; rw [decide_eq_true (by omega)]; rfl))
theorem specSpread_ev (l : List (List Int)) : Ev (fun k => spec_SpreadIn.f k l) (spreadB l) := by
  unfold spec_SpreadIn.f
  by_cases hl : l.length = 10
  · refine Ev.pos (by omega) (Ev.pos (by omega) ?_)
    rw [bL_replicate]
    have := specSpread_l0 l hl 10 0 (by omega) (by omega) (fun j j0 j1 => by omega)
    have e : (bL 81 fun p => decide (0 < (p : Int)) && seenS l 0 (p : Int)) = bL 81 fun _ => false := bL_congr fun j hj => by rw [seenS_zero, Bool.and_false]
    rwa [e] at this
  · refine Ev.neg (by omega) (Ev.done ?_)
    unfold spreadB; rw [decide_eq_false hl]; rfl

end Go.Proofs.Ytfoadgbffidgaaa.X

set_option linter.unusedVariables false
set_option linter.unusedSimpArgs false
namespace Go.Proofs.Ytfoadgbffidgaaa.X
open Go.RowKit Go.Proofs.YtfoadgbffidgaaaW.PrintWords Go.Proofs.YtfoadgbffidgaaaW.PrintLast Go.Proofs.Ytfoadgbffidgaaa.P

theorem leaf_ext {a b : List Int} (ha : a.length = 9) (hb : b.length = 9) (h : ∀ i : Int, 0 ≤ i → i < 9 → rd a i = rd b i) : a = b := ext_rd (by omega) fun i hi => h i (by omega) (by omega)
theorem gapI_cases {a b : List Int} (ha : a.length = 9) (hb : b.length = 9) : (a = b ∧ gapI a b = -1) ∨ (a ≠ b ∧ 0 ≤ gapI a b ∧ rd a (gapI a b) ≠ rd b (gapI a b)) := by
  by_cases h : ∃ i : Int, 0 ≤ i ∧ i < 9 ∧ (rd a i != rd b i) = true
  · obtain ⟨i, h0, h1, h2⟩ := h
    obtain ⟨g0, g1, g2, _⟩ := firstI_spec (n := 9) (p := fun i => rd a i != rd b i) i h0 h1 h2
    have g2 : rd a (gapI a b) ≠ rd b (gapI a b) := bne_iff_ne.1 g2
    exact .inr ⟨fun e => by rw [e] at g2; exact g2 rfl, g0, g2⟩
  · have hall : ∀ i : Int, 0 ≤ i → i < 9 → (rd a i != rd b i) = false := fun i h0 h1 => Bool.eq_false_iff.2 fun h2 => h ⟨i, h0, h1, h2⟩
    exact .inl ⟨leaf_ext ha hb fun i h0 h1 => by simpa using hall i h0 h1, firstI_none hall⟩
theorem gapI_comm (a b : List Int) : gapI b a = gapI a b := by
  unfold gapI
  congr 1
  funext i
  rw [bne_comm]
theorem l6lSame_ev (a b : List Int) (ha : a.length = 9) (hb : b.length = 9) : Ev (fun k => spec_l6lSame.f k a b) (decide (a = b)) := by
  unfold spec_l6lSame.f
  refine Ev.bind (l6lLess_ev a b ha hb) ?_
  have hc := gapI_comm a b
  rcases gapI_cases ha hb with ⟨e, hg⟩ | ⟨e, g0, g1⟩
  · have h1 : lessB a b = false := by unfold lessB; rw [hg]; rfl
    have h2 : lessB b a = false := by unfold lessB; rw [hc, hg]; rfl
    rw [h1, decide_eq_true e]
    refine Ev.neg (by decide) (Ev.bind (l6lLess_ev b a hb ha) ?_)
    rw [h2]; exact Ev.done rfl
  · rw [decide_eq_false e]
    by_cases h : rd a (gapI a b) < rd b (gapI a b)
    · have h1 : lessB a b = true := by unfold lessB; rw [decide_eq_true g0, decide_eq_true h]; rfl
      rw [h1]
      exact Ev.pos rfl (Ev.done rfl)
    · have h1 : lessB a b = false := by unfold lessB; rw [decide_eq_false h, Bool.and_false]
      have h2 : lessB b a = true := by unfold lessB; rw [hc, decide_eq_true g0, decide_eq_true (by omega : rd b (gapI a b) < rd a (gapI a b))]; rfl
      rw [h1]
      refine Ev.neg (by decide) (Ev.bind (l6lLess_ev b a hb ha) ?_)
      rw [h2]; exact Ev.done rfl
/-- How many of the first n leaves of a are leaves of b. -/
def sameN (a b : List (List Int)) : Nat → Int
  | 0 => 0
  | n + 1 => sameN a b n + (if rd_L1 a (n : Int) ∈ b then 1 else 0)
theorem sameN_range (a b : List (List Int)) (n : Nat) : 0 ≤ sameN a b n ∧ sameN a b n ≤ n := by
  induction n with
  | zero => exact ⟨Int.le_refl _, Int.le_refl _⟩
  | succ n ih => unfold sameN; split <;> omega
theorem spread_diff {l : List (List Int)} (h : spreadB l = true) {i j : Int} (i0 : 0 ≤ i) (ij : i < j) (j1 : j < 10) : rd_L1 l i ≠ rd_L1 l j := by
  intro e
  have hl := spread_leaf h (i := j) (by omega) j1
  have hm : rd (rd_L1 l j) 1 ∈ rd_L1 l j := rd_mem (by have := (leafB_parts hl).1; omega) (by omega)
  exact spread_apart h i0 ij j1 (leaf_pos hl (by omega) (by omega)) (by rw [e]; exact hm) hm
theorem specSame_l1 {a b : List (List Int)} (ha : spreadB a = true) (hb : spreadB b = true) (i : Int) (i0 : 0 ≤ i) (i1 : i < 10) (n : Int) (n0 : 0 ≤ n) (n1 : n ≤ 10) (r : Int × Bool)
    (hr : Ev (fun k => spec_SpreadSame.l0 k a b (n + (if rd_L1 a i ∈ b then 1 else 0)) (i + 1)) r) (d : Nat) :
    ∀ (j c : Int), 0 ≤ j → j + d = 10 → (c = 0 ∧ (∀ x : Int, 0 ≤ x → x < j → rd_L1 a i ≠ rd_L1 b x) ∨ c = 1 ∧ ∃ x : Int, 0 ≤ x ∧ x < j ∧ rd_L1 a i = rd_L1 b x) → Ev (fun k => spec_SpreadSame.l1 k a b (n + c) i j) r := by
  have la := (spreadB_parts ha).1
  have lb := (spreadB_parts hb).1
  induction d with
  | zero =>
    intro j c j0 j1 hc
    refine Ev.step (fun k => by rw [spec_SpreadSame.l1]) ?_
    rw [w64 (x := i + 1) (by omega) (by omega)]
    refine Ev.neg (by omega) ?_
    have : c = (if rd_L1 a i ∈ b then 1 else 0) := by
      rcases hc with ⟨rfl, hc⟩ | ⟨rfl, x, x0, x1, hx⟩
      · rw [if_neg]
        intro hm
        obtain ⟨y, hy, e⟩ := List.mem_iff_getElem.1 hm
        exact hc (y : Int) (by omega) (by omega) (by rw [rdL_cast b y hy]; exact e.symm)
      · rw [if_pos]
        rw [hx]; exact rdL_mem x0 (by omega)
    rw [this]; exact hr
  | succ d ih =>
    intro j c j0 j1 hc
    have c01 : 0 ≤ c ∧ c ≤ 1 := by rcases hc with ⟨rfl, _⟩ | ⟨rfl, _⟩ <;> omega
    refine Ev.step (fun k => by rw [spec_SpreadSame.l1]) ?_
    rw [w64 (x := j + 1) (by omega) (by omega), w64 (x := n + c + 1) (by omega) (by omega)]
    refine Ev.pos (by omega) (Ev.pos i0 (Ev.pos (by omega) (Ev.pos j0 (Ev.pos (by omega) (Ev.bind (l6lSame_ev _ _ (leafB_parts (spread_leaf ha i0 i1)).1 (leafB_parts (spread_leaf hb j0 (by omega))).1) ?_)))))
    by_cases e : rd_L1 a i = rd_L1 b j
    · refine Ev.pos (decide_eq_true e) ?_
      have hc0 : c = 0 := by
        rcases hc with ⟨h, _⟩ | ⟨_, x, x0, x1, hx⟩
        · exact h
        · exact absurd (hx.symm.trans e) (spread_diff hb x0 x1 (by omega))
      rw [show n + c + 1 = n + 1 by omega]
      exact ih (j + 1) 1 (by omega) (by omega) (.inr ⟨rfl, j, j0, by omega, e⟩)
    · refine Ev.neg (by rw [decide_eq_false e]; decide) (ih (j + 1) c (by omega) (by omega) ?_)
      rcases hc with ⟨h, hc⟩ | ⟨h, x, x0, x1, hx⟩
      · refine .inl ⟨h, fun x x0 x1 => ?_⟩
        by_cases ex : x = j
        · rw [ex]; exact e
        · exact hc x x0 (by omega)
      · exact .inr ⟨h, x, x0, by omega, hx⟩
theorem specSame_l0 {a b : List (List Int)} (ha : spreadB a = true) (hb : spreadB b = true) (d : Nat) : ∀ i : Nat, i + d = 10 → Ev (fun k => spec_SpreadSame.l0 k a b (sameN a b i) (i : Int)) (sameN a b 10, true) := by
  induction d with
  | zero =>
    intro i h1
    have e : i = 10 := by omega
    subst e
    refine Ev.step (fun k => by rw [spec_SpreadSame.l0]) ?_
    exact Ev.neg (by omega) (Ev.done rfl)
  | succ d ih =>
    intro i h1
    have hs := sameN_range a b i
    refine Ev.step (fun k => by rw [spec_SpreadSame.l0]) ?_
    refine Ev.pos (by omega) ?_
    have := specSame_l1 ha hb (i : Int) (by omega) (by omega) (sameN a b i) hs.1 (by omega) _ (ih (i + 1) (by omega)) 10 0 0 (by omega) (by omega) (.inl ⟨rfl, fun x x0 x1 => by omega⟩)
    rwa [Int.add_zero] at this
def sameR (a b : List (List Int)) : Int × Bool := if (spreadB a && spreadB b) = true then (sameN a b 10, true) else (0, false)
theorem specSame_ev (a b : List (List Int)) : Ev (fun k => spec_SpreadSame.f k a b) (sameR a b) := by
  unfold spec_SpreadSame.f
  have j0 : ∀ v, sameR a b = (0, false) → v = true → Ev (fun k => spec_SpreadSame.j0 k a b v) (sameR a b) := fun v e hv => by
    rw [e, hv]
    refine Ev.step (fun k => by rw [spec_SpreadSame.j0]) ?_
    exact Ev.pos rfl (Ev.done rfl)
  refine Ev.bind (specSpread_ev a) ?_
  by_cases ha : spreadB a = true
  case neg => exact Ev.neg ha (j0 true (by unfold sameR; rw [Bool.eq_false_iff.2 ha]; rfl) rfl)
  refine Ev.pos ha (Ev.bind (specSpread_ev b) ?_)
  by_cases hb : spreadB b = true
  case neg => exact j0 _ (by unfold sameR; rw [Bool.eq_false_iff.2 hb, Bool.and_false]; rfl) (by rw [Bool.eq_false_iff.2 hb]; rfl)
  rw [hb]
  refine Ev.step (fun k => by rw [spec_SpreadSame.j0]) (Ev.neg (by decide) ?_)
  unfold sameR
  rw [ha, hb]
  exact specSame_l0 ha hb 10 0 (by omega)
theorem spread_short {l : List (List Int)} (h : spreadB l = true) : (l.all fun x => decide (x.length ≤ 1099511627776)) = true := by
  rw [List.all_eq_true]
  intro x hx
  obtain ⟨j, hj, rfl⟩ := List.mem_iff_getElem.1 hx
  have hl := (spreadB_parts h).1
  have := (leafB_parts (spread_leaf h (i := (j : Int)) (by omega) (by omega))).1
  rw [rdL_cast l j hj] at this
  exact decide_eq_true (by omega)
theorem sameLeaves_loop {a b : List (List Int)} (hb : spreadB b = true) (ha : a.length = 10) (d : Nat) : ∀ i : Nat, i + d = 10 → Ev (fun k => impl_sameLeaves.l0 k b (sameN a b i) a (10 : Int) (i : Int)) (sameN a b 10) := by
  induction d with
  | zero =>
    intro i h1
    have e : i = 10 := by omega
    subst e
    refine Ev.step (fun k => by rw [impl_sameLeaves.l0]) ?_
    exact Ev.neg (by omega) (Ev.done rfl)
  | succ d ih =>
    intro i h1
    have hs := sameN_range a b i
    have nx := ih (i + 1) (by omega)
    refine Ev.step (fun k => by rw [impl_sameLeaves.l0]) ?_
    rw [w64 (x := (i : Int) + 1) (by omega) (by omega), w64 (x := sameN a b i + 1) (by omega) (by omega)]
    refine Ev.pos (by omega) (Ev.pos (by omega) (Ev.pos (by omega) (Ev.fix (show impl_hasLeaf.f b (rd_L1 a (i : Int)) = some (decide (rd_L1 a (i : Int) ∈ b)) from if_pos (spread_short hb)) ?_)))
    have hu : sameN a b (i + 1) = sameN a b i + (if rd_L1 a (i : Int) ∈ b then 1 else 0) := rfl
    by_cases e : rd_L1 a (i : Int) ∈ b
    · rw [hu, if_pos e] at nx
      exact Ev.pos (decide_eq_true e) nx
    · rw [hu, if_neg e, Int.add_zero] at nx
      exact Ev.neg (by rw [decide_eq_false e]; decide) nx
theorem sameLeaves_ev {a b : List (List Int)} (hb : spreadB b = true) (ha : a.length = 10) : Ev (fun k => impl_sameLeaves.f k a b) (sameN a b 10) := by
  unfold impl_sameLeaves.f
  rw [show (a.length : Int) = 10 by omega]
  exact sameLeaves_loop hb ha 10 0 (by omega)
theorem implSame_ev (a b : List (List Int)) : Ev (fun k => impl_SpreadSame.f k a b) (sameR a b) := by
  unfold impl_SpreadSame.f sameR
  refine Ev.fix (show impl_isSpread.f a = some (spreadB a) from rfl) ?_
  by_cases ha : spreadB a = true
  case neg => rw [Bool.eq_false_iff.2 ha]; exact Ev.neg (by decide) (Ev.done rfl)
  rw [ha]
  refine Ev.pos rfl (Ev.fix (show impl_isSpread.f b = some (spreadB b) from rfl) ?_)
  by_cases hb : spreadB b = true
  case neg => rw [Bool.eq_false_iff.2 hb]; exact Ev.neg (by decide) (Ev.done rfl)
  rw [hb]
  exact Ev.pos rfl (Ev.bind (sameLeaves_ev hb (spreadB_parts ha).1) (Ev.done rfl))

end Go.Proofs.Ytfoadgbffidgaaa.X

set_option linter.unusedVariables false
set_option linter.unusedSimpArgs false
namespace Go.Proofs.Ytfoadgbffidgaaa.Pure
open Go.RowKit Go.Proofs.Ytfoadgbffidgaaa.P Go.Proofs.YtfoadgbffidgaaaW.PrintWords Go.Proofs.YtfoadgbffidgaaaW.PrintLast Go.Proofs.Ytfoadgbffidgaaa.X

theorem FnExactSpreadSame (l0 l1 : List (List Int)) (hm0 : l0.length ≤ maxLen) (hw0 : ∀ x ∈ l0, x.length ≤ maxLen) (hm1 : l1.length ≤ maxLen) (hw1 : ∀ x ∈ l1, x.length ≤ maxLen) : ∃ k, laws_FnExactSpreadSame.f k l0 l1 = some true := by
  have hml : maxLen ≤ 9223372036854775807 := by decide
  refine Ev.rounds ?_
  unfold laws_FnExactSpreadSame.f
  obtain ⟨v, hv, hc⟩ := szIntSS_ev l0 (by omega) (fun x hx => by have := hw0 x hx; omega) 1048576 (by omega) (by omega)
  refine Ev.bind hv ?_
  rcases hc with hc | ⟨v0, v1, hs⟩
  · exact Ev.pos hc (Ev.done rfl)
  refine Ev.neg (by omega) ?_
  obtain ⟨u, hu, hc⟩ := szIntSS_ev l1 (by omega) (fun x hx => by have := hw1 x hx; omega) v (by omega) (by omega)
  refine Ev.bind hu ?_
  rcases hc with hc | ⟨u0, u1, ht⟩
  · exact Ev.pos hc (Ev.done rfl)
  refine Ev.neg (by omega) ?_
  refine Ev.bind (toIntSS_ev l0 hs) (Ev.bind (toIntSS_ev l1 ht) (Ev.bind (specSame_ev l0 l1) (Ev.bind (toIntSS_ev l0 hs) (Ev.bind (toIntSS_ev l1 ht) (Ev.bind (implSame_ev l0 l1) (Ev.pos rfl ?_))))))
  refine Ev.step (fun k => by rw [laws_FnExactSpreadSame.j0]) (Ev.neg (by simp) ?_)
  refine Ev.bind (toIntSS_ev l0 hs) (Ev.bind (eqIntSS_ev l0 l0 hs) (Ev.pos (by simp) ?_))
  exact Ev.bind (toIntSS_ev l1 ht) (Ev.bind (eqIntSS_ev l1 l1 ht) (Ev.pos (by simp) (Ev.done rfl)))

end Go.Proofs.Ytfoadgbffidgaaa.Pure

set_option linter.unusedVariables false
set_option linter.unusedSimpArgs false
namespace Go.Proofs.Ytfoadgbffidgaaa.X
open Go.RowKit Go.ChangeShapes Go.WideShapes Go.Proofs.YtfoadgbffidgaaaW.PrintWords

theorem rows_of {H : Type} {enc : TypeId × Value → H} {P : Program} {W : World} {base : Nat} {held : Bool} {t e q : TypeId} (ht : P.underlying t = some (.slice e)) (he : P.underlying e = some (.slice q)) (hq : P.underlying q = some (.int .i64))
    (ce : P.cellsOf e = 1) (cq : P.cellsOf q = 1) {a : Option Addr} {len cap : Nat} {d : DataW H} {p : List MemPlace} (h : DataW.Trod enc P W base (fun _ => true) held t (.slice a len cap) d p) :
    ∃ l : List (List Int), l.length = len ∧ Kd.C (Kd.slice q (Kd.int .i64)) W a l.length l ∧ l.length ≤ cap ∧ l.length ≤ maxLen ∧ ∀ x ∈ l, x.length ≤ maxLen := by
  obtain ⟨fuel, hf⟩ := h
  rcases Go.Deep.open_int_rows ht he hq ce cq hf with ⟨hcs, _⟩ | ⟨a', len', cap', A, L, C, Z, hcs, hb, hl, hm, _, hrow⟩
  · simp [Value.cells] at hcs
    obtain ⟨rfl, rfl, rfl⟩ := hcs
    exact ⟨[], rfl, ⟨rfl, Nat.zero_le _, fun h => absurd h (by decide)⟩, Nat.zero_le _, Nat.zero_le _, fun x hx => absurd hx (by simp)⟩
  · simp [Value.cells] at hcs
    obtain ⟨rfl, rfl, rfl⟩ := hcs
    have hml : maxLen ≤ 9223372036854775807 := by decide
    have hlen : ((List.range len).map fun r => (Z r).take (L r)).length = len := by simp
    refine ⟨(List.range len).map fun r => (Z r).take (L r), hlen, ?_, by rw [hlen]; exact hl, by rw [hlen]; omega, fun x hx => ?_⟩
    · refine ⟨rfl, by rw [hlen]; omega, fun _ => ⟨a', rfl, fun j p hj => ?_⟩⟩
      rw [List.getElem?_map] at hj
      have hjl : j < len := by
        by_cases hjl : j < len
        · exact hjl
        · rw [List.getElem?_eq_none (by simp; omega)] at hj; simp at hj
      rw [List.getElem?_range hjl] at hj
      simp at hj
      subst hj
      obtain ⟨r1, r2, r3, r4, r5, r6, r7⟩ := hrow j (by omega)
      have hL : ((Z j).take (L j)).length = L j := by rw [List.length_take]; omega
      refine ⟨[.slice (A j) (L j) (C j)], rfl, ⟨A j, C j, by rw [hL], by omega, ?_⟩, fun i u hu => ?_⟩
      · rw [hL]
        refine ⟨hL, by omega, fun hpos => ?_⟩
        cases hA : A j with
        | none => have := r6 hA; omega
        | some b =>
          obtain ⟨_, hcell⟩ := r7 b hA
          refine ⟨b, rfl, fun i n hi => ?_⟩
          have hil : i < L j := by
            by_cases hil : i < L j
            · exact hil
            · rw [List.getElem?_eq_none (by omega)] at hi; exact absurd hi (by simp)
          refine ⟨[.int .i64 n], rfl, rfl, fun i' u hu => ?_⟩
          cases i' with
          | succ i' => simp at hu
          | zero =>
            simp at hu
            subst hu
            have hc := hcell i (by omega)
            rw [List.getElem?_take_of_lt hil] at hi
            rw [List.getD_eq_getElem?_getD, hi] at hc
            show W.cell? (b.add (i * 1 + 0)) = _
            rw [Nat.mul_one, Nat.add_zero]
            exact hc
      · cases i with
        | succ i => simp at hu
        | zero =>
          simp at hu
          subst hu
          show W.cell? (a'.add (j * 1 + 0)) = _
          rw [Nat.mul_one, Nat.add_zero]
          exact r1
    · obtain ⟨r, hr, rfl⟩ := List.mem_map.1 hx
      have hr := List.mem_range.1 hr
      obtain ⟨_, r2, r3, r4, _⟩ := hrow r (by omega)
      rw [List.length_take]; omega

end Go.Proofs.Ytfoadgbffidgaaa.X

namespace Go.Proofs.Ytfoadgbffidgaaa.fnExactSpreadSame
open Go.ChangeShapes Go.WideShapes Go.ChangeAt Go.RowKit
set_option linter.unusedVariables false
theorem own : ownKnob Try.prog.godebug = none := by kernel_rfl
theorem laidOut : laidOutB Try.prog = true := by kernel_rfl
set_option maxRecDepth 100000 in
theorem lifted (os : Os) (started : os.Started) (H : Type) (enc : TypeId × Value → H) :
    ReturnsInHanded {} Try.checked os 8 .any (Rows.fnExactSpreadSameSpec.pre6 enc Try.prog Try.f8 Rows.fnExactSpreadSameRow.domain false) (Rows.fnExactSpreadSameSpec.post enc Try.prog Try.f8 false true false false) := by
  refine returnsInHanded_of_change_sized (C := Try.checked) own started (by kernel_rfl) Try.func8
    (ChangeSpec.witness6 (enc := enc) (C := Try.checked) false ⟨#[], #[.slice none 0 0, .slice none 0 0], []⟩ 8 (by kernel_rfl) (by kernel_rfl) (by kernel_rfl) (by kernel_rfl)) ?_
  intro W base args ds gs before hval0 hW hcnd hsz0 _
  have hval : ∀ (j : Nat) t v, Try.f8.params[j]? = some t → args[j]? = some v → Value.okWide Try.prog W .any base t v := hval0
  have hW' := hW
  obtain ⟨p, q, hA0, hV, rfl, hfz, hnd⟩ := hW
  have hA : DataW.TrodAll enc Try.prog W 0 (fun _ => true) true Try.f8.params.toList args.toList ds p := hA0
  rw [Try.params8] at hA hval
  obtain ⟨v0, vs0, d0, ds0, p0, q0, hargs, rfl, rfl, h0, r0⟩ := trodAll_cons hA
  obtain ⟨v1, vs1, d1, ds1, p1, q1, rfl, rfl, rfl, h1, r1⟩ := trodAll_cons r0
  obtain ⟨rfl, rfl, rfl⟩ := trodAll_nil r1
  obtain rfl : args = #[v0, v1] := by cases args; simp_all
  obtain ⟨rfl, rfl⟩ := trodVars_none hV
  obtain ⟨a0, len0, cap0, rfl⟩ := okWide_slice Try.underlying22 (hval 0 22 v0 rfl rfl)
  have k0 := h0
  have lt0 : ∀ x ∈ p0, x.block < W.heap.size := by obtain ⟨m, hm⟩ := k0; exact DataW.trod_lt m _ _ _ hm
  obtain ⟨l0, rfl, hr0, hc0, hm0, hw0⟩ := X.rows_of Try.underlying22 Try.underlying27 Try.underlying3 (by kernel_rfl) (by kernel_rfl) h0
  obtain ⟨a1, len1, cap1, rfl⟩ := okWide_slice Try.underlying22 (hval 1 22 v1 rfl rfl)
  have k1 := h1
  have lt1 : ∀ x ∈ p1, x.block < W.heap.size := by obtain ⟨m, hm⟩ := k1; exact DataW.trod_lt m _ _ _ hm
  obtain ⟨l1, rfl, hr1, hc1, hm1, hw1⟩ := X.rows_of Try.underlying22 Try.underlying27 Try.underlying3 (by kernel_rfl) (by kernel_rfl) h1
  clear hA0 hval0 hsz0
  obtain ⟨k, h⟩ := Pure.FnExactSpreadSame l0 l1 hm0 hw0 hm1 hw1
  refine (P.laws_FnExactSpreadSame.calls k _ _ l0 _ _ l1 true W hr0 hc0 hr1 hc1 h).mono fun e W' ⟨he, bel⟩ => ?_
  subst he
  exact ⟨_, rfl, _, _, _, [], _, [], hW', trodAll_mk1 (shut_bool Try.underlying4 _), (trodAll_cons_mk (Below.trod laidOut (by kernel_rfl) (of_decide_eq_true (by kernel_rfl)) k0 bel lt0) (trodAll_cons_mk (Below.trod laidOut (by kernel_rfl) (of_decide_eq_true (by kernel_rfl)) k1 bel lt1) trodAll_mk0)), rfl, bel.frame _, fun h => by cases h⟩
theorem over : Rows.fnExactSpreadSameRow.holds Try.pinned (OpenSpec.ofChange Rows.fnExactSpreadSameSpec) :=
  OpenClaim.holds_of_wide 8 Try.f8 rfl rfl rfl rfl rfl rfl rfl ⟨rfl, rfl, rfl, rfl, rfl⟩ rfl rfl rfl rfl rfl (by kernel_rfl) Try.func8 (by kernel_rfl)
    (of_decide_eq_true (by kernel_rfl)) (by unfold Func.isWrapper; first | (rw [if_pos (by decide +kernel)]; kernel_rfl) | (rw [if_neg (by decide +kernel)]; exact ⟨rfl, rfl⟩))
    (fun os started H enc _ => lifted os started H enc)
theorem proved : Rows.FnExactSpreadSameSaid := over
#print axioms proved
end Go.Proofs.Ytfoadgbffidgaaa.fnExactSpreadSame
namespace Go.Proofs.Ytfoadgbffidgaaa
/-- The row, under a short name, for the claim. -/
theorem fnExactSpreadSame_holds : Rows.FnExactSpreadSameSaid := fnExactSpreadSame.proved
end Go.Proofs.Ytfoadgbffidgaaa
