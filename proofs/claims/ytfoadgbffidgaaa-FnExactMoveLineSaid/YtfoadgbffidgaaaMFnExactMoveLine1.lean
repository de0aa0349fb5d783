/- The law FnExactMoveLine of the given program: for every input the call returns true, and each argument reads afterwards as it read before. No conditions. (Part 2 of 3; the last part holds the theorem.) -/
import Derived.Test.YtfoadgbffidgaaaMFnExactMoveLine0
import Derived.Deep.RegionHeld3
namespace Go.Proofs.Ytfoadgbffidgaaa.P
open Go.RowKit Go.Proofs.YtfoadgbffidgaaaW.PrintWords Go.Proofs.YtfoadgbffidgaaaW.PrintLast Go.Proofs.YtfoadgbffidgaaaW.PrintMore
attribute [local go_sem] max2_int min2_int max_two min_two max_three min_three max_four min_four   -- for this text's walks alone
set_option linter.unusedVariables false
set_option linter.unusedSimpArgs false

/-! ### impl_isLeaf: function 99 -/
mutual
def impl_isLeaf.l0 : Nat → List Int → List Int → Int → Int → Option (Bool)
  | 0, _, _, _, _ => none
  | k + 1, x0, x12, x13, x14 => if x14 < x13 then (if 0 ≤ x14 then (if x14 < (x12.length : Int) then ((impl_isNear.f (rd x12 x14)).bind fun t151 => (if t151 = true then (if x14 > 0 then (if 0 ≤ (wrap64 (x14 - 1)) then (if (wrap64 (x14 - 1)) < (x0.length : Int) then (if (rd x0 (wrap64 (x14 - 1))) ≥ (rd x12 x14) then (some false) else (impl_isLeaf.l0 k x0 x12 x13 (wrap64 (x14 + 1)))) else (none)) else (none)) else (impl_isLeaf.l0 k x0 x12 x13 (wrap64 (x14 + 1)))) else (some false))) else (none)) else (none)) else (impl_isLeaf.l1 k x0 x0 (x0.length : Int) 0)
def impl_isLeaf.l1 : Nat → List Int → List Int → Int → Int → Option (Bool)
  | 0, _, _, _, _ => none
  | k + 1, x0, x36, x37, x38 => if x38 < x37 then (if 0 ≤ x38 then (if x38 < (x36.length : Int) then (impl_isLeaf.l2 k x0 (rd x36 x38) x36 x37 x38 x0 (x0.length : Int) 0) else (none)) else (none)) else (some true)
def impl_isLeaf.l2 : Nat → List Int → Int → List Int → Int → Int → List Int → Int → Int → Option (Bool)
  | 0, _, _, _, _, _, _, _, _ => none
  | k + 1, x0, x6, x36, x37, x38, x42, x43, x44 => if x44 < x43 then (if 0 ≤ x44 then (if x44 < (x42.length : Int) then ((impl_addNear.f x6 (rd x42 x44)).bind fun t155 => ((slices_Contains_int_int.f k x0 t155).bind fun t156 => (if t156 = true then (impl_isLeaf.l2 k x0 x6 x36 x37 x38 x42 x43 (wrap64 (x44 + 1))) else (some false)))) else (none)) else (none)) else (impl_isLeaf.l1 k x0 x36 x37 (wrap64 (x38 + 1)))
end
def impl_isLeaf.f (k : Nat) (l0 : List Int) : Option (Bool) := if (l0.length : Int) = 9 then (impl_isLeaf.l0 k l0 l0 (l0.length : Int) 0) else (some false)
theorem impl_isLeaf.mono_l : ∀ k, (∀ y0 y1 y2 y3, LeO (impl_isLeaf.l0 k y0 y1 y2 y3) (impl_isLeaf.l0 (k + 1) y0 y1 y2 y3)) ∧ (∀ y0 y1 y2 y3, LeO (impl_isLeaf.l1 k y0 y1 y2 y3) (impl_isLeaf.l1 (k + 1) y0 y1 y2 y3)) ∧ (∀ y0 y1 y2 y3 y4 y5 y6 y7, LeO (impl_isLeaf.l2 k y0 y1 y2 y3 y4 y5 y6 y7) (impl_isLeaf.l2 (k + 1) y0 y1 y2 y3 y4 y5 y6 y7))
  | 0 => ⟨fun _ _ _ _ r h => by simp [impl_isLeaf.l0] at h, fun _ _ _ _ r h => by simp [impl_isLeaf.l1] at h, fun _ _ _ _ _ _ _ _ r h => by simp [impl_isLeaf.l2] at h⟩
  | k + 1 => by
    obtain ⟨ih0, ih1, ih2⟩ := impl_isLeaf.mono_l k
    refine ⟨?_, ?_, ?_⟩
    · intro y0 y1 y2 y3
      unfold impl_isLeaf.l0
      repeat' first
      | (with_reducible exact ih0 _ _ _ _)
      | (with_reducible exact ih1 _ _ _ _)
      | (with_reducible exact ih2 _ _ _ _ _ _ _ _)
      | (with_reducible exact slices_Contains_int_int.mono _ _ _)
      | (with_reducible exact LeO.refl _)
      | (with_reducible exact LeO.none _)
      | (with_reducible refine LeO.ite ?_ ?_)
      | (with_reducible refine LeO.bind ?_ (fun _ => ?_))
      | exact ih0 _ _ _ _
      | exact ih1 _ _ _ _
      | exact ih2 _ _ _ _ _ _ _ _
      | exact slices_Contains_int_int.mono _ _ _
      | exact LeO.none _
      | refine LeO.ite ?_ ?_
      | refine LeO.bind ?_ (fun _ => ?_)
    · intro y0 y1 y2 y3
      unfold impl_isLeaf.l1
      repeat' first
      | (with_reducible exact ih0 _ _ _ _)
      | (with_reducible exact ih1 _ _ _ _)
      | (with_reducible exact ih2 _ _ _ _ _ _ _ _)
      | (with_reducible exact slices_Contains_int_int.mono _ _ _)
      | (with_reducible exact LeO.refl _)
      | (with_reducible exact LeO.none _)
      | (with_reducible refine LeO.ite ?_ ?_)
      | (with_reducible refine LeO.bind ?_ (fun _ => ?_))
      | exact ih0 _ _ _ _
      | exact ih1 _ _ _ _
      | exact ih2 _ _ _ _ _ _ _ _
      | exact slices_Contains_int_int.mono _ _ _
      | exact LeO.none _
      | refine LeO.ite ?_ ?_
      | refine LeO.bind ?_ (fun _ => ?_)
    · intro y0 y1 y2 y3 y4 y5 y6 y7
      unfold impl_isLeaf.l2
      repeat' first
      | (with_reducible exact ih0 _ _ _ _)
      | (with_reducible exact ih1 _ _ _ _)
      | (with_reducible exact ih2 _ _ _ _ _ _ _ _)
      | (with_reducible exact slices_Contains_int_int.mono _ _ _)
      | (with_reducible exact LeO.refl _)
      | (with_reducible exact LeO.none _)
      | (with_reducible refine LeO.ite ?_ ?_)
      | (with_reducible refine LeO.bind ?_ (fun _ => ?_))
      | exact ih0 _ _ _ _
      | exact ih1 _ _ _ _
      | exact ih2 _ _ _ _ _ _ _ _
      | exact slices_Contains_int_int.mono _ _ _
      | exact LeO.none _
      | refine LeO.ite ?_ ?_
      | refine LeO.bind ?_ (fun _ => ?_)
theorem impl_isLeaf.mono : ∀ a0 k, LeO (impl_isLeaf.f k a0) (impl_isLeaf.f (k + 1) a0) := by
  intro a0 k
  obtain ⟨ih0, ih1, ih2⟩ := impl_isLeaf.mono_l k
  unfold impl_isLeaf.f
  repeat' first
      | (with_reducible exact ih0 _ _ _ _)
      | (with_reducible exact ih1 _ _ _ _)
      | (with_reducible exact ih2 _ _ _ _ _ _ _ _)
      | (with_reducible exact slices_Contains_int_int.mono _ _ _)
      | (with_reducible exact LeO.refl _)
      | (with_reducible exact LeO.none _)
      | (with_reducible refine LeO.ite ?_ ?_)
      | (with_reducible refine LeO.bind ?_ (fun _ => ?_))
      | exact ih0 _ _ _ _
      | exact ih1 _ _ _ _
      | exact ih2 _ _ _ _ _ _ _ _
      | exact slices_Contains_int_int.mono _ _ _
      | exact LeO.none _
      | refine LeO.ite ?_ ?_
      | refine LeO.bind ?_ (fun _ => ?_)
set_option maxHeartbeats 8000000 in
set_option maxRecDepth 100000 in
theorem impl_isLeaf.calls (k : Nat) (A0 : Option Addr) (c0 : Nat) (l0 : List Int) (r : Bool) (w : World) (hr0 : Kd.C (Kd.int .i64) w A0 l0.length l0) (hc0 : l0.length ≤ c0) (h : impl_isLeaf.f k l0 = some r) :
    Calls Try.prog 99 #[.slice A0 l0.length c0] w fun e w' => e = .returned (.bool r) ∧ Drawn0 w w' := by
  have HR0 := Aside0.mk hr0
  have HC0 := Aside0.mk hc0
  clear hr0 hc0
  have H : (if (l0.length : Int) = 9 then (impl_isLeaf.l0 k l0 l0 (l0.length : Int) 0) else (some false)) = some r := h
  clear h
  by_cases c2 : (l0.length : Int) = 9
  · rw [if_pos c2] at H
    have c2b0 : ((l0.length : Int) == 9) = true := beq_iff_eq.mpr c2
    have c2b1 : ((l0.length : Int) != 9) = false := bne_eq_false_iff_eq.mpr c2
    clear c2
    have H' := Aside0.mk H
    clear H
    go_enter Try.func99, Try.ntmps99
    go_wp2
    go_loopg [14] k (fun kq v14 w' => ∃ (x14_1 : Int), v14 = .int .i64 x14_1 ∧ Aside0 (impl_isLeaf.l0 kq l0 l0 (l0.length : Int) x14_1 = some r) ∧ Aside0 (kq ≤ k) ∧ Drawn0 w w')
    case atStart => exact ⟨(0), (by first | rfl | (simp; done) | (simp [*]; done)), H', ⟨Nat.le_refl _⟩, by repeat (first | exact Drawn0.refl _ | apply Drawn0.step)⟩
    case round =>
      clear H'
      try clear c2
      try clear c2b0
      try clear c2b1
      try clear p2
      obtain ⟨x14_1, rfl, HA, HK1, ⟨m1, rfl⟩⟩ := hrel
      cases gk with
      | zero => exact absurd HA.out (by simp [impl_isLeaf.l0])
      | succ k1 =>
        have H := HA.out
        clear HA
        simp only [impl_isLeaf.l0] at H
        by_cases c3 : x14_1 < (l0.length : Int)
        · rw [if_pos c3] at H
          have c3b0 : decide (x14_1 < (l0.length : Int)) = true := decide_eq_true c3
          clear c3
          by_cases c4 : 0 ≤ x14_1
          · rw [if_pos c4] at H
            have c4b0 : decide (0 ≤ x14_1) = true := decide_eq_true c4
            clear c4
            by_cases c5 : x14_1 < (l0.length : Int)
            · rw [if_pos c5] at H
              have c5b0 : decide (x14_1 < (l0.length : Int)) = true := decide_eq_true c5
              clear c5
              replace H := Option.bind_eq_some_iff.mp H
              obtain ⟨t151, A60, H⟩ := H
              replace H : (if t151 = true then (if x14_1 > 0 then (if 0 ≤ (wrap64 (x14_1 - 1)) then (if (wrap64 (x14_1 - 1)) < (l0.length : Int) then (if (rd l0 (wrap64 (x14_1 - 1))) ≥ (rd l0 x14_1) then (some false) else (impl_isLeaf.l0 k1 l0 l0 (l0.length : Int) (wrap64 (x14_1 + 1)))) else (none)) else (none)) else (impl_isLeaf.l0 k1 l0 l0 (l0.length : Int) (wrap64 (x14_1 + 1)))) else (some false)) = some r := H
              have A6 := Aside0.mk A60
              clear A60
              by_cases c7 : t151 = true
              · subst c7
                have H1 : (if x14_1 > 0 then (if 0 ≤ (wrap64 (x14_1 - 1)) then (if (wrap64 (x14_1 - 1)) < (l0.length : Int) then (if (rd l0 (wrap64 (x14_1 - 1))) ≥ (rd l0 x14_1) then (some false) else (impl_isLeaf.l0 k1 l0 l0 (l0.length : Int) (wrap64 (x14_1 + 1)))) else (none)) else (none)) else (impl_isLeaf.l0 k1 l0 l0 (l0.length : Int) (wrap64 (x14_1 + 1)))) = some r := by rw [if_pos rfl] at H; exact H
                clear H
                have H := H1
                clear H1
                by_cases c8 : x14_1 > 0
                · rw [if_pos c8] at H
                  have c8b0 : decide (0 < x14_1) = true := decide_eq_true c8
                  clear c8
                  obtain ⟨ji9, hji9⟩ : ∃ j_ : Int, (wrap64 (x14_1 - 1)) = j_ := ⟨_, rfl⟩
                  replace H : (if 0 ≤ (ji9) then (if (ji9) < (l0.length : Int) then (if (rd l0 (ji9)) ≥ (rd l0 x14_1) then (some false) else (impl_isLeaf.l0 k1 l0 l0 (l0.length : Int) (wrap64 (x14_1 + 1)))) else (none)) else (none)) = some r := by first | (rw [hji9] at H; exact H) | (simp only [hji9] at H ⊢; exact H)
                  (try rw [hji9] at A6)
                  have hji9w : (IntKind.i64.wrap (x14_1 - 1)) = ji9 := (i64_w _).trans hji9
                  by_cases c10 : 0 ≤ (ji9)
                  · rw [if_pos c10] at H
                    have c10b0 : decide (0 ≤ (ji9)) = true := decide_eq_true c10
                    clear c10
                    by_cases c11 : (ji9) < (l0.length : Int)
                    · rw [if_pos c11] at H
                      have c11b0 : decide ((ji9) < (l0.length : Int)) = true := decide_eq_true c11
                      clear c11
                      by_cases c12 : (rd l0 (ji9)) ≥ (rd l0 x14_1)
                      · rw [if_pos c12] at H
                        have c12b0 : decide ((rd l0 x14_1) ≤ (rd l0 (ji9))) = true := decide_eq_true c12
                        clear c12
                        obtain rfl := Option.some.inj H
                        have p150 : 0 ≤ (x14_1 : Int) := of_decide_eq_true (by first | (with_reducible assumption) | assumption)
                        have q150 : x14_1 < (l0.length : Int) := of_decide_eq_true (by first | (with_reducible assumption) | assumption)
                        obtain ⟨ad150, e150, hx150_0⟩ := Kd.at_int HR0.out x14_1 p150 q150
                        cases e150
                        replace p150 := eq_true p150
                        replace q150 := eq_true q150
                        go_wp2_with (first | ((with_reducible refine gate_callee (f := 67) rfl ?_); refine goesL_ (some 20) rfl rfl Try.func67 (by kernel_rfl) rfl #[.int .i64 (rd l0 x14_1)] rfl (by (try simp only [List.map_toArray, List.map_cons, List.map_nil]); first | done | rfl | (simp only [List.length_drop, List.length_take]; rfl)) ?_; (with_reducible refine (impl_isNear.calls (rd l0 x14_1) true _ A6.out).mono ?_); rintro e w' ⟨rfl, ⟨nd, rfl⟩⟩; refine ⟨_, rfl, ?_⟩; have p152 : 0 ≤ ((ji9) : Int) := of_decide_eq_true (by first | (with_reducible assumption) | assumption); have q152 : (ji9) < (l0.length : Int) := of_decide_eq_true (by first | (with_reducible assumption) | assumption); obtain ⟨ad152, e152, hx152_0⟩ := Kd.at_int HR0.out (ji9) p152 q152; obtain rfl : ad150 = ad152 := (by injection e152); replace p152 := eq_true p152; replace q152 := eq_true q152))
                        go_ret
                        exact ⟨by first | rfl | (simp; done) | (simp only [← hji9] <;> (first | rfl | simp)) | (simp [*]; done), by repeat (first | exact Drawn0.refl _ | apply Drawn0.step)⟩
                      · rw [if_neg c12] at H
                        have c12b0 : decide ((rd l0 x14_1) ≤ (rd l0 (ji9))) = false := decide_eq_false c12
                        clear c12
                        have H' := Aside0.mk H
                        clear H
                        have p150 : 0 ≤ (x14_1 : Int) := of_decide_eq_true (by first | (with_reducible assumption) | assumption)
                        have q150 : x14_1 < (l0.length : Int) := of_decide_eq_true (by first | (with_reducible assumption) | assumption)
                        obtain ⟨ad150, e150, hx150_0⟩ := Kd.at_int HR0.out x14_1 p150 q150
                        cases e150
                        replace p150 := eq_true p150
                        replace q150 := eq_true q150
                        go_wp2_with (first | ((with_reducible refine gate_callee (f := 67) rfl ?_); refine goesL_ (some 20) rfl rfl Try.func67 (by kernel_rfl) rfl #[.int .i64 (rd l0 x14_1)] rfl (by (try simp only [List.map_toArray, List.map_cons, List.map_nil]); first | done | rfl | (simp only [List.length_drop, List.length_take]; rfl)) ?_; (with_reducible refine (impl_isNear.calls (rd l0 x14_1) true _ A6.out).mono ?_); rintro e w' ⟨rfl, ⟨nd, rfl⟩⟩; refine ⟨_, rfl, ?_⟩; have p152 : 0 ≤ ((ji9) : Int) := of_decide_eq_true (by first | (with_reducible assumption) | assumption); have q152 : (ji9) < (l0.length : Int) := of_decide_eq_true (by first | (with_reducible assumption) | assumption); obtain ⟨ad152, e152, hx152_0⟩ := Kd.at_int HR0.out (ji9) p152 q152; obtain rfl : ad150 = ad152 := (by injection e152); replace p152 := eq_true p152; replace q152 := eq_true q152))
                        go_roundg k1
                        case measure => have := HK1.out; omega
                        case rel => exact ⟨(wrap64 (x14_1 + 1)), (by first | rfl | (simp; done) | (simp [*]; done)), H', ⟨by have := HK1.out; omega⟩, by repeat (first | exact Drawn0.refl _ | apply Drawn0.step)⟩
                    · rw [if_neg c11] at H
                      exact absurd H (by simp)
                  · rw [if_neg c10] at H
                    exact absurd H (by simp)
                · rw [if_neg c8] at H
                  have c8b0 : decide (0 < x14_1) = false := decide_eq_false c8
                  clear c8
                  have H' := Aside0.mk H
                  clear H
                  have p150 : 0 ≤ (x14_1 : Int) := of_decide_eq_true (by first | (with_reducible assumption) | assumption)
                  have q150 : x14_1 < (l0.length : Int) := of_decide_eq_true (by first | (with_reducible assumption) | assumption)
                  obtain ⟨ad150, e150, hx150_0⟩ := Kd.at_int HR0.out x14_1 p150 q150
                  cases e150
                  replace p150 := eq_true p150
                  replace q150 := eq_true q150
                  go_wp2_with (first | ((with_reducible refine gate_callee (f := 67) rfl ?_); refine goesL_ (some 20) rfl rfl Try.func67 (by kernel_rfl) rfl #[.int .i64 (rd l0 x14_1)] rfl (by (try simp only [List.map_toArray, List.map_cons, List.map_nil]); first | done | rfl | (simp only [List.length_drop, List.length_take]; rfl)) ?_; (with_reducible refine (impl_isNear.calls (rd l0 x14_1) true _ A6.out).mono ?_); rintro e w' ⟨rfl, ⟨nd, rfl⟩⟩; refine ⟨_, rfl, ?_⟩))
                  go_roundg k1
                  case measure => have := HK1.out; omega
                  case rel => exact ⟨(wrap64 (x14_1 + 1)), (by first | rfl | (simp; done) | (simp [*]; done)), H', ⟨by have := HK1.out; omega⟩, by repeat (first | exact Drawn0.refl _ | apply Drawn0.step)⟩
              · replace c7 := Bool.eq_false_iff.mpr c7
                subst c7
                have H1 : (some false) = some r := by rw [if_neg (show ¬ (false = true) by decide)] at H; exact H
                clear H
                have H := H1
                clear H1
                obtain rfl := Option.some.inj H
                have p150 : 0 ≤ (x14_1 : Int) := of_decide_eq_true (by first | (with_reducible assumption) | assumption)
                have q150 : x14_1 < (l0.length : Int) := of_decide_eq_true (by first | (with_reducible assumption) | assumption)
                obtain ⟨ad150, e150, hx150_0⟩ := Kd.at_int HR0.out x14_1 p150 q150
                cases e150
                replace p150 := eq_true p150
                replace q150 := eq_true q150
                go_wp2_with (first | ((with_reducible refine gate_callee (f := 67) rfl ?_); refine goesL_ (some 20) rfl rfl Try.func67 (by kernel_rfl) rfl #[.int .i64 (rd l0 x14_1)] rfl (by (try simp only [List.map_toArray, List.map_cons, List.map_nil]); first | done | rfl | (simp only [List.length_drop, List.length_take]; rfl)) ?_; (with_reducible refine (impl_isNear.calls (rd l0 x14_1) false _ A6.out).mono ?_); rintro e w' ⟨rfl, ⟨nd, rfl⟩⟩; refine ⟨_, rfl, ?_⟩))
                go_ret
                exact ⟨by first | rfl | (simp; done) | (simp [*]; done), by repeat (first | exact Drawn0.refl _ | apply Drawn0.step)⟩
            · rw [if_neg c5] at H
              exact absurd H (by simp)
          · rw [if_neg c4] at H
            exact absurd H (by simp)
        · rw [if_neg c3] at H
          have c3b0 : decide (x14_1 < (l0.length : Int)) = false := decide_eq_false c3
          clear c3
          have H' := Aside0.mk H
          clear H
          go_wp2
          go_loopg [38] k1 (fun kq v38 w' => ∃ (x38_2 : Int), v38 = .int .i64 x38_2 ∧ Aside0 (impl_isLeaf.l1 kq l0 l0 (l0.length : Int) x38_2 = some r) ∧ Aside0 (kq ≤ k1) ∧ Drawn0 w w')
          case atStart => exact ⟨(0), (by first | rfl | (simp; done) | (simp [*]; done)), H', ⟨Nat.le_refl _⟩, by repeat (first | exact Drawn0.refl _ | apply Drawn0.step)⟩
          case round =>
            clear H'
            try clear c1
            try clear p1
            try clear q1
            try clear hx1
            try clear c2
            try clear c2b0
            try clear c2b1
            try clear p2
            try clear c3
            try clear c3b0
            try clear c4
            try clear c4b0
            try clear c5
            try clear c5b0
            try clear c6
            try clear p6
            try clear c7
            try clear c8
            try clear c8b0
            try clear c9
            try clear c10
            try clear c10b0
            try clear c11
            try clear c11b0
            try clear c12
            try clear c12b0
            try clear hx150_0
            try clear hx152_0
            try clear p150
            try clear p152
            try clear p2
            try clear q150
            try clear q152
            obtain ⟨x38_2, rfl, HA, HK2, ⟨m2, rfl⟩⟩ := hrel
            cases gk with
            | zero => exact absurd HA.out (by simp [impl_isLeaf.l1])
            | succ k2 =>
              have H := HA.out
              clear HA
              simp only [impl_isLeaf.l1] at H
              by_cases c13 : x38_2 < (l0.length : Int)
              · rw [if_pos c13] at H
                have c13b0 : decide (x38_2 < (l0.length : Int)) = true := decide_eq_true c13
                clear c13
                by_cases c14 : 0 ≤ x38_2
                · rw [if_pos c14] at H
                  have c14b0 : decide (0 ≤ x38_2) = true := decide_eq_true c14
                  clear c14
                  by_cases c15 : x38_2 < (l0.length : Int)
                  · rw [if_pos c15] at H
                    have c15b0 : decide (x38_2 < (l0.length : Int)) = true := decide_eq_true c15
                    clear c15
                    have H' := Aside0.mk H
                    clear H
                    have p153 : 0 ≤ (x38_2 : Int) := of_decide_eq_true (by first | (with_reducible assumption) | assumption)
                    have q153 : x38_2 < (l0.length : Int) := of_decide_eq_true (by first | (with_reducible assumption) | assumption)
                    obtain ⟨ad153, e153, hx153_0⟩ := Kd.at_int HR0.out x38_2 p153 q153
                    cases e153
                    replace p153 := eq_true p153
                    replace q153 := eq_true q153
                    go_wp2
                    go_loopg [44] k2 (fun kq v44 w' => ∃ (x44_3 : Int), v44 = .int .i64 x44_3 ∧ Aside0 (impl_isLeaf.l2 kq l0 (rd l0 x38_2) l0 (l0.length : Int) x38_2 l0 (l0.length : Int) x44_3 = some r) ∧ Aside0 (kq ≤ k2) ∧ Drawn0 w w')
                    case atStart => exact ⟨(0), (by first | rfl | (simp; done) | (simp [*]; done)), H', ⟨Nat.le_refl _⟩, by repeat (first | exact Drawn0.refl _ | apply Drawn0.step)⟩
                    case round =>
                      clear H'
                      try clear c1
                      try clear p1
                      try clear q1
                      try clear hx1
                      try clear c2
                      try clear c2b0
                      try clear c2b1
                      try clear p2
                      try clear c3
                      try clear c3b0
                      try clear c4
                      try clear c4b0
                      try clear c5
                      try clear c5b0
                      try clear c6
                      try clear p6
                      try clear c7
                      try clear c8
                      try clear c8b0
                      try clear c9
                      try clear c10
                      try clear c10b0
                      try clear c11
                      try clear c11b0
                      try clear c12
                      try clear c12b0
                      try clear c13
                      try clear c13b0
                      try clear c14
                      try clear c14b0
                      try clear c15
                      try clear c15b0
                      try clear p15
                      try clear q15
                      try clear hx15
                      try clear hx150_0
                      try clear hx152_0
                      try clear hx153_0
                      try clear p1
                      try clear p150
                      try clear p152
                      try clear p153
                      try clear p2
                      try clear p6
                      try clear q1
                      try clear q150
                      try clear q152
                      try clear q153
                      obtain ⟨x44_3, rfl, HA, HK3, ⟨m3, rfl⟩⟩ := hrel
                      cases gk with
                      | zero => exact absurd HA.out (by simp [impl_isLeaf.l2])
                      | succ k3 =>
                        have H := HA.out
                        clear HA
                        simp only [impl_isLeaf.l2] at H
                        by_cases c16 : x44_3 < (l0.length : Int)
                        · rw [if_pos c16] at H
                          have c16b0 : decide (x44_3 < (l0.length : Int)) = true := decide_eq_true c16
                          clear c16
                          by_cases c17 : 0 ≤ x44_3
                          · rw [if_pos c17] at H
                            have c17b0 : decide (0 ≤ x44_3) = true := decide_eq_true c17
                            clear c17
                            by_cases c18 : x44_3 < (l0.length : Int)
                            · rw [if_pos c18] at H
                              have c18b0 : decide (x44_3 < (l0.length : Int)) = true := decide_eq_true c18
                              clear c18
                              replace H := Option.bind_eq_some_iff.mp H
                              obtain ⟨t155, A190, H⟩ := H
                              replace H : ((slices_Contains_int_int.f k3 l0 t155).bind fun t156 => (if t156 = true then (impl_isLeaf.l2 k3 l0 (rd l0 x38_2) l0 (l0.length : Int) x38_2 l0 (l0.length : Int) (wrap64 (x44_3 + 1))) else (some false))) = some r := H
                              have A19 := Aside0.mk A190
                              clear A190
                              replace H := Option.bind_eq_some_iff.mp H
                              obtain ⟨t156, A200, H⟩ := H
                              replace H : (if t156 = true then (impl_isLeaf.l2 k3 l0 (rd l0 x38_2) l0 (l0.length : Int) x38_2 l0 (l0.length : Int) (wrap64 (x44_3 + 1))) else (some false)) = some r := H
                              have A20 := Aside0.mk A200
                              clear A200
                              by_cases c21 : t156 = true
                              · subst c21
                                have H1 : (impl_isLeaf.l2 k3 l0 (rd l0 x38_2) l0 (l0.length : Int) x38_2 l0 (l0.length : Int) (wrap64 (x44_3 + 1))) = some r := by rw [if_pos rfl] at H; exact H
                                clear H
                                have H := H1
                                clear H1
                                have H' := Aside0.mk H
                                clear H
                                have p154 : 0 ≤ (x44_3 : Int) := of_decide_eq_true (by first | (with_reducible assumption) | assumption)
                                have q154 : x44_3 < (l0.length : Int) := of_decide_eq_true (by first | (with_reducible assumption) | assumption)
                                obtain ⟨ad154, e154, hx154_0⟩ := Kd.at_int HR0.out x44_3 p154 q154
                                obtain rfl : ad153 = ad154 := (by injection e154)
                                replace p154 := eq_true p154
                                replace q154 := eq_true q154
                                go_wp2_with (first | ((with_reducible refine gate_callee (f := 68) rfl ?_); refine goesL_ (some 51) rfl rfl Try.func68 (by kernel_rfl) rfl #[.int .i64 (rd l0 x38_2), .int .i64 (rd l0 x44_3)] rfl (by (try simp only [List.map_toArray, List.map_cons, List.map_nil]); first | done | rfl | (simp only [List.length_drop, List.length_take]; rfl)) ?_; (with_reducible refine (impl_addNear.calls (rd l0 x38_2) (rd l0 x44_3) t155 _ A19.out).mono ?_); rintro e w' ⟨rfl, ⟨nd, rfl⟩⟩; refine ⟨_, rfl, ?_⟩) | ((with_reducible refine gate_callee (f := 60) rfl ?_); refine goesL_ (some 52) rfl rfl Try.func60 (by kernel_rfl) rfl #[.slice (some ad153) l0.length c0, .int .i64 t155] rfl (by (try simp only [List.map_toArray, List.map_cons, List.map_nil]); first | done | rfl | (simp only [List.length_drop, List.length_take]; rfl)) ?_; (with_reducible refine (slices_Contains_int_int.calls k3 _ _ l0 t155 true _ ?side1 ?side2 A20.out).mono ?_); (case side1 => repeat (first | exact HR0.out | (with_reducible refine Kd.C_alloc ?_ _) | (with_reducible refine Kd.C_drewN ?_ _) | (with_reducible refine Kd.C_drew ?_))); (case side2 => exact HC0.out); rintro e w' ⟨rfl, ⟨nd, rfl⟩⟩; refine ⟨_, rfl, ?_⟩))
                                go_roundg k3
                                case measure => have := HK1.out; have := HK2.out; have := HK3.out; omega
                                case rel => exact ⟨(wrap64 (x44_3 + 1)), (by first | rfl | (simp; done) | (simp [*]; done)), H', ⟨by have := HK1.out; have := HK2.out; have := HK3.out; omega⟩, by repeat (first | exact Drawn0.refl _ | apply Drawn0.step)⟩
                              · replace c21 := Bool.eq_false_iff.mpr c21
                                subst c21
                                have H1 : (some false) = some r := by rw [if_neg (show ¬ (false = true) by decide)] at H; exact H
                                clear H
                                have H := H1
                                clear H1
                                obtain rfl := Option.some.inj H
                                have p154 : 0 ≤ (x44_3 : Int) := of_decide_eq_true (by first | (with_reducible assumption) | assumption)
                                have q154 : x44_3 < (l0.length : Int) := of_decide_eq_true (by first | (with_reducible assumption) | assumption)
                                obtain ⟨ad154, e154, hx154_0⟩ := Kd.at_int HR0.out x44_3 p154 q154
                                obtain rfl : ad153 = ad154 := (by injection e154)
                                replace p154 := eq_true p154
                                replace q154 := eq_true q154
                                go_wp2_with (first | ((with_reducible refine gate_callee (f := 68) rfl ?_); refine goesL_ (some 51) rfl rfl Try.func68 (by kernel_rfl) rfl #[.int .i64 (rd l0 x38_2), .int .i64 (rd l0 x44_3)] rfl (by (try simp only [List.map_toArray, List.map_cons, List.map_nil]); first | done | rfl | (simp only [List.length_drop, List.length_take]; rfl)) ?_; (with_reducible refine (impl_addNear.calls (rd l0 x38_2) (rd l0 x44_3) t155 _ A19.out).mono ?_); rintro e w' ⟨rfl, ⟨nd, rfl⟩⟩; refine ⟨_, rfl, ?_⟩) | ((with_reducible refine gate_callee (f := 60) rfl ?_); refine goesL_ (some 52) rfl rfl Try.func60 (by kernel_rfl) rfl #[.slice (some ad153) l0.length c0, .int .i64 t155] rfl (by (try simp only [List.map_toArray, List.map_cons, List.map_nil]); first | done | rfl | (simp only [List.length_drop, List.length_take]; rfl)) ?_; (with_reducible refine (slices_Contains_int_int.calls k3 _ _ l0 t155 false _ ?side1 ?side2 A20.out).mono ?_); (case side1 => repeat (first | exact HR0.out | (with_reducible refine Kd.C_alloc ?_ _) | (with_reducible refine Kd.C_drewN ?_ _) | (with_reducible refine Kd.C_drew ?_))); (case side2 => exact HC0.out); rintro e w' ⟨rfl, ⟨nd, rfl⟩⟩; refine ⟨_, rfl, ?_⟩))
                                go_ret
                                exact ⟨by first | rfl | (simp; done) | (simp [*]; done), by repeat (first | exact Drawn0.refl _ | apply Drawn0.step)⟩
                            · rw [if_neg c18] at H
                              exact absurd H (by simp)
                          · rw [if_neg c17] at H
                            exact absurd H (by simp)
                        · rw [if_neg c16] at H
                          have c16b0 : decide (x44_3 < (l0.length : Int)) = false := decide_eq_false c16
                          clear c16
                          have H' := Aside0.mk H
                          clear H
                          go_wp2
                          go_roundg k3
                          case measure => have := HK1.out; have := HK2.out; have := HK3.out; omega
                          case rel => exact ⟨(wrap64 (x38_2 + 1)), (by first | rfl | (simp; done) | (simp [*]; done)), H', ⟨by have := HK1.out; have := HK2.out; have := HK3.out; omega⟩, by repeat (first | exact Drawn0.refl _ | apply Drawn0.step)⟩
                  · rw [if_neg c15] at H
                    exact absurd H (by simp)
                · rw [if_neg c14] at H
                  exact absurd H (by simp)
              · rw [if_neg c13] at H
                have c13b0 : decide (x38_2 < (l0.length : Int)) = false := decide_eq_false c13
                clear c13
                obtain rfl := Option.some.inj H
                go_wp2
                go_ret
                exact ⟨by first | rfl | (simp; done) | (simp [*]; done), by repeat (first | exact Drawn0.refl _ | apply Drawn0.step)⟩
  · rw [if_neg c2] at H
    have c2b0 : ((l0.length : Int) == 9) = false := beq_eq_false_iff_ne.mpr c2
    have c2b1 : ((l0.length : Int) != 9) = true := bne_iff_ne.mpr c2
    obtain rfl := Option.some.inj H
    go_enter Try.func99, Try.ntmps99
    go_wp2
    go_ret
    exact ⟨by first | rfl | (simp; done) | (simp [*]; done), by repeat (first | exact Drawn0.refl _ | apply Drawn0.step)⟩

end Go.Proofs.Ytfoadgbffidgaaa.P

set_option linter.unusedVariables false
set_option linter.unusedSimpArgs false
namespace Go.Proofs.Ytfoadgbffidgaaa.X
open Go.RowKit Go.Proofs.YtfoadgbffidgaaaW.PrintWords Go.Proofs.YtfoadgbffidgaaaW.PrintLast Go.Proofs.Ytfoadgbffidgaaa.P

def nearB (p : Int) : Bool := decide (0 ≤ p) && decide (p < 81)
theorem nearB_iff {p : Int} : nearB p = true ↔ 0 ≤ p ∧ p < 81 := by simp [nearB]
def addF (p q : Int) : Int := 9 * addN (p / 9) (q / 9) + addN (p % 9) (q % 9)
theorem addF_range (p q : Int) : 0 ≤ addF p q ∧ addF p q < 81 := by
  unfold addF
  have := addN_range (p / 9) (q / 9)
  have := addN_range (p % 9) (q % 9)
  omega
def stepB (l : List Int) (i : Int) : Bool := nearB (rd l i) && (!decide (0 < i) || decide (rd l (i - 1) < rd l i))
def sumB (l : List Int) (i k : Int) : Bool := decide (addF (rd l i) (rd l k) ∈ l)
def leafB (l : List Int) : Bool := decide (l.length = 9) && (allI 9 (stepB l) && allI 9 fun i => allI 9 fun k => sumB l i k)
theorem leafB_hit1 {l : List Int} {i : Int} (h0 : 0 ≤ i) (h1 : i < 9) (h : stepB l i = false) : leafB l = false := by
  have : allI 9 (stepB l) = false := by
    cases e : allI 9 (stepB l) with
    | false => rfl
    | true => have := allI_int e i h0 h1; rw [h] at this; exact absurd this (by decide)
  unfold leafB; rw [this, Bool.false_and, Bool.and_false]
theorem leafB_hit2 {l : List Int} {i k : Int} (h0 : 0 ≤ i) (h1 : i < 9) (k0 : 0 ≤ k) (k1 : k < 9) (h : sumB l i k = false) : leafB l = false := by
  have : (allI 9 fun i => allI 9 fun k => sumB l i k) = false := by
    cases e : (allI 9 fun i => allI 9 fun k => sumB l i k) with
    | false => rfl
    | true => have := allI_int (allI_int e i h0 h1) k k0 k1; rw [h] at this; exact absurd this (by decide)
  unfold leafB; rw [this, Bool.and_false, Bool.and_false]
theorem leafB_all {l : List Int} (hl : l.length = 9) (h1 : ∀ i : Int, 0 ≤ i → i < 9 → stepB l i = true) (h2 : ∀ i k : Int, 0 ≤ i → i < 9 → 0 ≤ k → k < 9 → sumB l i k = true) : leafB l = true := by
  unfold leafB
  rw [decide_eq_true hl, allI_int_iff.2 h1, allI_int_iff.2 fun i i0 i1 => allI_int_iff.2 fun k k0 k1 => h2 i k i0 i1 k0 k1]; rfl

/-! ### has -/
theorem has_false {l : List Int} {x : Int} (h : ∀ j : Nat, j < l.length → rd l (j : Int) ≠ x) : decide (x ∈ l) = false := by
  refine decide_eq_false fun hx => ?_
  obtain ⟨j, hj, rfl⟩ := List.mem_iff_getElem.1 hx
  exact h j hj (rd_cast l j hj)
theorem l6lHas_loop (l : List Int) (hl : l.length ≤ 1048576) (x : Int) (d : Nat) : ∀ (i : Int), 0 ≤ i → i + d = l.length → (∀ j : Nat, (j : Int) < i → rd l (j : Int) ≠ x) → Ev (fun k => spec_l6lHas.l0 k l x i) (decide (x ∈ l)) := by
  induction d with
  | zero =>
    intro i h0 h1 h
    refine Ev.step (fun k => by rw [spec_l6lHas.l0]) ?_
    refine Ev.neg (by omega) (Ev.done ?_)
    rw [has_false fun j hj => h j (by omega)]
  | succ d ih =>
    intro i h0 h1 h
    refine Ev.step (fun k => by rw [spec_l6lHas.l0]) ?_
    simp (disch := omega) only [w64]
    refine Ev.pos (by omega) (Ev.pos (by omega) ?_)
    by_cases e : rd l i = x
    · refine Ev.pos e (Ev.done ?_)
      rw [decide_eq_true (e ▸ rd_mem (by omega) h0)]
    · refine Ev.neg e (ih (i + 1) (by omega) (by omega) fun j hj => ?_)
      by_cases ej : (j : Int) = i
      · rw [ej]; exact e
      · exact h j (by omega)
theorem l6lHas_ev (l : List Int) (hl : l.length ≤ 1048576) (x : Int) : Ev (fun k => spec_l6lHas.f k l x) (decide (x ∈ l)) :=
  l6lHas_loop l hl x l.length 0 (by omega) (by omega) (fun j h => by omega)
theorem index_loop (l : List Int) (hl : l.length ≤ 1048576) (x : Int) (d : Nat) : ∀ (i : Int), 0 ≤ i → i + d = l.length → (∀ j : Nat, (j : Int) < i → rd l (j : Int) ≠ x) → ∃ v : Int, Ev (fun k => slices_Index_int_int.l0 k l x (l.length : Int) i) v ∧ decide (v ≥ 0) = decide (x ∈ l) := by
  induction d with
  | zero =>
    intro i h0 h1 h
    refine ⟨-1, Ev.step (fun k => by rw [slices_Index_int_int.l0]) (Ev.neg (by omega) (Ev.done rfl)), ?_⟩
    rw [has_false fun j hj => h j (by omega)]; rfl
  | succ d ih =>
    intro i h0 h1 h
    by_cases e : x = rd l i
    · refine ⟨i, Ev.step (fun k => by rw [slices_Index_int_int.l0]) ?_, ?_⟩
      · exact Ev.pos (by omega) (Ev.pos (by omega) (Ev.pos (by omega) (Ev.pos e (Ev.done rfl))))
      · rw [decide_eq_true (show x ∈ l by rw [e]; exact rd_mem (by omega) h0)]; simpa using h0
    · obtain ⟨v, hv, hd⟩ := ih (i + 1) (by omega) (by omega) fun j hj => by
        by_cases ej : (j : Int) = i
        · rw [ej]; exact fun h => e h.symm
        · exact h j (by omega)
      refine ⟨v, Ev.step (fun k => by rw [slices_Index_int_int.l0]) ?_, hd⟩
      simp (disch := omega) only [w64]
      exact Ev.pos (by omega) (Ev.pos (by omega) (Ev.pos (by omega) (Ev.neg e hv)))
theorem contains_ev (l : List Int) (hl : l.length ≤ 1048576) (x : Int) : Ev (fun k => slices_Contains_int_int.f k l x) (decide (x ∈ l)) := by
  obtain ⟨v, hv, hd⟩ := index_loop l hl x l.length 0 (by omega) (by omega) (fun j h => by omega)
  unfold slices_Contains_int_int.f slices_Index_int_int.f
  exact Ev.bind hv (Ev.done (by rw [← hd]))
theorem l6lAdd_eq {p q : Int} (hp : nearB p = true) (hq : nearB q = true) : spec_l6lAdd.f p q = some (addF p q) := by
  obtain ⟨p0, p1⟩ := nearB_iff.1 hp
  obtain ⟨q0, q1⟩ := nearB_iff.1 hq
  have h1 := spec_l1Add_eq (p / 9) (q / 9) ⟨by omega, by omega⟩ ⟨by omega, by omega⟩
  have h2 := spec_l1Add_eq (p % 9) (q % 9) ⟨by omega, by omega⟩ ⟨by omega, by omega⟩
  obtain ⟨r0, r1⟩ := addN_range (p / 9) (q / 9)
  obtain ⟨s0, s1⟩ := addN_range (p % 9) (q % 9)
  unfold spec_l6lAdd.f addF
  simp (disch := omega) only [w64, tdiv_nn, tmod_nn, h1, h2, Option.bind_some]
theorem addNear_eq {p q : Int} (hp : nearB p = true) (hq : nearB q = true) : impl_addNear.f p q = some (addF p q) := by
  obtain ⟨p0, p1⟩ := nearB_iff.1 hp
  obtain ⟨q0, q1⟩ := nearB_iff.1 hq
  have h1 := impl_add_eq (p / 9) (q / 9) ⟨by omega, by omega⟩ ⟨by omega, by omega⟩
  have h2 := impl_add_eq (p % 9) (q % 9) ⟨by omega, by omega⟩ ⟨by omega, by omega⟩
  obtain ⟨r0, r1⟩ := addN_range (p / 9) (q / 9)
  obtain ⟨s0, s1⟩ := addN_range (p % 9) (q % 9)
  unfold impl_addNear.f addF
  simp (disch := omega) only [w64, tdiv_nn, tmod_nn, h1, h2, Option.bind_some]
theorem isNear_eq (p : Int) : impl_isNear.f p = some (nearB p) := by
  unfold impl_isNear.f nearB
  by_cases h : p ≥ 0
  · rw [if_pos h, decide_eq_true h]; simp
  · rw [if_neg h, decide_eq_false h]; simp
theorem l6In80 (p : Int) : spec_l6In.f p 0 80 = some (nearB p) := by
  unfold spec_l6In.f nearB
  by_cases h : p ≥ 0
  · rw [if_pos h, decide_eq_true h, Bool.true_and, show decide (p ≤ 80) = decide (p < 81) from decide_eq_decide.2 (by omega)]
  · rw [if_neg h, decide_eq_false h]; simp

/-! ### the reference -/
theorem specLeaf_l2 (l : List Int) (hl : l.length = 9) (hs : ∀ i : Int, 0 ≤ i → i < 9 → stepB l i = true) (i : Int) (i0 : 0 ≤ i) (i1 : i < 9) (hr : (∀ k : Int, 0 ≤ k → k < 9 → sumB l i k = true) → Ev (fun n => spec_LeafIn.l1 n l (i + 1)) (leafB l)) (d : Nat) :
    ∀ (j : Int), 0 ≤ j → j + d = 9 → (∀ k : Int, 0 ≤ k → k < j → sumB l i k = true) → Ev (fun n => spec_LeafIn.l2 n l i j) (leafB l) := by
  induction d with
  | zero =>
    intro j h0 h1 h
    refine Ev.step (fun k => by rw [spec_LeafIn.l2]) ?_
    simp (disch := omega) only [w64]
    exact Ev.neg (by omega) (hr fun k k0 k1 => h k k0 (by omega))
  | succ d ih =>
    intro j h0 h1 h
    have n1 := hs i i0 i1
    have n2 := hs j h0 (by omega)
    unfold stepB at n1 n2
    have ha := l6lAdd_eq (Bool.and_eq_true _ _ ▸ n1).1 (Bool.and_eq_true _ _ ▸ n2).1
    refine Ev.step (fun k => by rw [spec_LeafIn.l2]) ?_
    simp (disch := omega) only [w64, ha, Option.bind_some]
    refine Ev.pos (by omega) (Ev.pos (by omega) (Ev.pos (by omega) (Ev.pos (by omega) (Ev.pos (by omega) (Ev.bind (l6lHas_ev l (by omega) _) ?_)))))
    by_cases e : sumB l i j = true
    · refine Ev.pos e (ih (j + 1) (by omega) (by omega) fun k k0 k1 => ?_)
      by_cases ek : k = j
      · rw [ek]; exact e
      · exact h k k0 (by omega)
    · refine Ev.neg e (Ev.done ?_)
      rw [leafB_hit2 i0 i1 h0 (by omega) (Bool.eq_false_iff.2 e)]
theorem specLeaf_l1 (l : List Int) (hl : l.length = 9) (hs : ∀ i : Int, 0 ≤ i → i < 9 → stepB l i = true) (d : Nat) : ∀ (i : Int), 0 ≤ i → i + d = 9 → (∀ x k : Int, 0 ≤ x → x < i → 0 ≤ k → k < 9 → sumB l x k = true) → Ev (fun n => spec_LeafIn.l1 n l i) (leafB l) := by
  induction d with
  | zero =>
    intro i h0 h1 h
    refine Ev.step (fun k => by rw [spec_LeafIn.l1]) ?_
    refine Ev.neg (by omega) (Ev.done ?_)
    rw [leafB_all hl hs fun x k x0 x1 k0 k1 => h x k x0 (by omega) k0 k1]
  | succ d ih =>
    intro i h0 h1 h
    refine Ev.step (fun k => by rw [spec_LeafIn.l1]) ?_
    refine Ev.pos (by omega) ?_
    refine specLeaf_l2 l hl hs i h0 (by omega) (fun hk => ih (i + 1) (by omega) (by omega) fun x k x0 x1 k0 k1 => ?_) 9 0 (by omega) (by omega) (fun k h0 h1 => by omega)
    by_cases e : x = i
    · rw [e]; exact hk k k0 k1
    · exact h x k x0 (by omega) k0 k1
theorem specLeaf_l0 (l : List Int) (hl : l.length = 9) (d : Nat) : ∀ (i : Int), 0 ≤ i → i + d = 9 → (∀ x : Int, 0 ≤ x → x < i → stepB l x = true) → Ev (fun n => spec_LeafIn.l0 n l i) (leafB l) := by
  induction d with
  | zero =>
    intro i h0 h1 h
    refine Ev.step (fun k => by rw [spec_LeafIn.l0]) ?_
    refine Ev.neg (by omega) ?_
    exact specLeaf_l1 l hl (fun x x0 x1 => h x x0 (by omega)) 9 0 (by omega) (by omega) (fun x k h0 h1 => by omega)
  | succ d ih =>
    intro i h0 h1 h
    have hst : stepB l i = (nearB (rd l i) && (!decide (0 < i) || decide (rd l (i - 1) < rd l i))) := rfl
    refine Ev.step (fun k => by rw [spec_LeafIn.l0]) ?_
    simp (disch := omega) only [w64, l6In80, Option.bind_some]
    refine Ev.pos (by omega) (Ev.pos (by omega) (Ev.pos (by omega) ?_))
    by_cases e1 : nearB (rd l i) = true
    case neg => exact Ev.neg e1 (Ev.done (by rw [leafB_hit1 h0 (by omega) (by rw [hst, Bool.eq_false_iff.2 e1]; rfl)]))
    refine Ev.pos e1 ?_
    have next : stepB l i = true → Ev (fun n => spec_LeafIn.l0 n l (i + 1)) (leafB l) := fun hs => ih (i + 1) (by omega) (by omega) fun x x0 x1 => by
      by_cases e : x = i
      · rw [e]; exact hs
      · exact h x x0 (by omega)
    by_cases hi : i > 0
    · refine Ev.pos hi (Ev.pos (by omega) (Ev.pos (by omega) ?_))
      by_cases e2 : rd l i ≤ rd l (i - 1)
      · refine Ev.pos e2 (Ev.done ?_)
        rw [leafB_hit1 h0 (by omega) (by rw [hst, decide_eq_true hi, decide_eq_false (by omega)]; simp)]
      · refine Ev.neg e2 (next ?_)
        rw [hst, e1, decide_eq_true (show rd l (i - 1) < rd l i by omega)]; simp
    · refine Ev.neg hi (next ?_)
      rw [hst, e1, decide_eq_false (show ¬ 0 < i by omega)]; rfl
theorem specLeaf_ev (l : List Int) : Ev (fun k => spec_LeafIn.f k l) (leafB l) := by
  unfold spec_LeafIn.f
  by_cases hl : l.length = 9
  · exact Ev.pos (by omega) (specLeaf_l0 l hl 9 0 (by omega) (by omega) (fun x h0 h1 => by omega))
  · refine Ev.neg (by omega) (Ev.done ?_)
    unfold leafB; rw [decide_eq_false hl]; rfl

/-! ### the program -/
theorem implLeaf_l2 (l : List Int) (hl : l.length = 9) (hs : ∀ i : Int, 0 ≤ i → i < 9 → stepB l i = true) (i : Int) (i0 : 0 ≤ i) (i1 : i < 9) (hr : (∀ k : Int, 0 ≤ k → k < 9 → sumB l i k = true) → Ev (fun n => impl_isLeaf.l1 n l l (l.length : Int) (i + 1)) (leafB l)) (d : Nat) :
    ∀ (j : Int), 0 ≤ j → j + d = 9 → (∀ k : Int, 0 ≤ k → k < j → sumB l i k = true) → Ev (fun n => impl_isLeaf.l2 n l (rd l i) l (l.length : Int) i l (l.length : Int) j) (leafB l) := by
  induction d with
  | zero =>
    intro j h0 h1 h
    refine Ev.step (fun k => by rw [impl_isLeaf.l2]) ?_
    simp (disch := omega) only [w64]
    exact Ev.neg (by omega) (hr fun k k0 k1 => h k k0 (by omega))
  | succ d ih =>
    intro j h0 h1 h
    have n1 := hs i i0 i1
    have n2 := hs j h0 (by omega)
    unfold stepB at n1 n2
    have ha := addNear_eq (Bool.and_eq_true _ _ ▸ n1).1 (Bool.and_eq_true _ _ ▸ n2).1
    refine Ev.step (fun k => by rw [impl_isLeaf.l2]) ?_
    simp (disch := omega) only [w64, ha, Option.bind_some]
    refine Ev.pos (by omega) (Ev.pos (by omega) (Ev.pos (by omega) (Ev.bind (contains_ev l (by omega) _) ?_)))
    by_cases e : sumB l i j = true
    · refine Ev.pos e (ih (j + 1) (by omega) (by omega) fun k k0 k1 => ?_)
      by_cases ek : k = j
      · rw [ek]; exact e
      · exact h k k0 (by omega)
    · refine Ev.neg e (Ev.done ?_)
      rw [leafB_hit2 i0 i1 h0 (by omega) (Bool.eq_false_iff.2 e)]
theorem implLeaf_l1 (l : List Int) (hl : l.length = 9) (hs : ∀ i : Int, 0 ≤ i → i < 9 → stepB l i = true) (d : Nat) : ∀ (i : Int), 0 ≤ i → i + d = 9 → (∀ x k : Int, 0 ≤ x → x < i → 0 ≤ k → k < 9 → sumB l x k = true) → Ev (fun n => impl_isLeaf.l1 n l l (l.length : Int) i) (leafB l) := by
  induction d with
  | zero =>
    intro i h0 h1 h
    refine Ev.step (fun k => by rw [impl_isLeaf.l1]) ?_
    refine Ev.neg (by omega) (Ev.done ?_)
    rw [leafB_all hl hs fun x k x0 x1 k0 k1 => h x k x0 (by omega) k0 k1]
  | succ d ih =>
    intro i h0 h1 h
    refine Ev.step (fun k => by rw [impl_isLeaf.l1]) ?_
    refine Ev.pos (by omega) (Ev.pos (by omega) (Ev.pos (by omega) ?_))
    refine implLeaf_l2 l hl hs i h0 (by omega) (fun hk => ih (i + 1) (by omega) (by omega) fun x k x0 x1 k0 k1 => ?_) 9 0 (by omega) (by omega) (fun k h0 h1 => by omega)
    by_cases e : x = i
    · rw [e]; exact hk k k0 k1
    · exact h x k x0 (by omega) k0 k1
theorem implLeaf_l0 (l : List Int) (hl : l.length = 9) (d : Nat) : ∀ (i : Int), 0 ≤ i → i + d = 9 → (∀ x : Int, 0 ≤ x → x < i → stepB l x = true) → Ev (fun n => impl_isLeaf.l0 n l l (l.length : Int) i) (leafB l) := by
  induction d with
  | zero =>
    intro i h0 h1 h
    refine Ev.step (fun k => by rw [impl_isLeaf.l0]) ?_
    refine Ev.neg (by omega) ?_
    exact implLeaf_l1 l hl (fun x x0 x1 => h x x0 (by omega)) 9 0 (by omega) (by omega) (fun x k h0 h1 => by omega)
  | succ d ih =>
    intro i h0 h1 h
    have hst : stepB l i = (nearB (rd l i) && (!decide (0 < i) || decide (rd l (i - 1) < rd l i))) := rfl
    refine Ev.step (fun k => by rw [impl_isLeaf.l0]) ?_
    simp (disch := omega) only [w64, isNear_eq, Option.bind_some]
    refine Ev.pos (by omega) (Ev.pos (by omega) (Ev.pos (by omega) ?_))
    by_cases e1 : nearB (rd l i) = true
    case neg => exact Ev.neg e1 (Ev.done (by rw [leafB_hit1 h0 (by omega) (by rw [hst, Bool.eq_false_iff.2 e1]; rfl)]))
    refine Ev.pos e1 ?_
    have next : stepB l i = true → Ev (fun n => impl_isLeaf.l0 n l l (l.length : Int) (i + 1)) (leafB l) := fun hs => ih (i + 1) (by omega) (by omega) fun x x0 x1 => by
      by_cases e : x = i
      · rw [e]; exact hs
      · exact h x x0 (by omega)
    by_cases hi : i > 0
    · refine Ev.pos hi (Ev.pos (by omega) (Ev.pos (by omega) ?_))
      by_cases e2 : rd l (i - 1) ≥ rd l i
      · refine Ev.pos e2 (Ev.done ?_)
        rw [leafB_hit1 h0 (by omega) (by rw [hst, decide_eq_true hi, decide_eq_false (by omega)]; simp)]
      · refine Ev.neg e2 (next ?_)
        rw [hst, e1, decide_eq_true (show rd l (i - 1) < rd l i by omega)]; simp
    · refine Ev.neg hi (next ?_)
      rw [hst, e1, decide_eq_false (show ¬ 0 < i by omega)]; rfl
theorem implLeaf_ev (l : List Int) : Ev (fun k => impl_isLeaf.f k l) (leafB l) := by
  unfold impl_isLeaf.f
  by_cases hl : l.length = 9
  · exact Ev.pos (by omega) (implLeaf_l0 l hl 9 0 (by omega) (by omega) (fun x h0 h1 => by omega))
  · refine Ev.neg (by omega) (Ev.done ?_)
    unfold leafB; rw [decide_eq_false hl]; rfl

end Go.Proofs.Ytfoadgbffidgaaa.X

namespace Go.Proofs.Ytfoadgbffidgaaa.P
open Go.RowKit Go.Proofs.YtfoadgbffidgaaaW.PrintWords Go.Proofs.YtfoadgbffidgaaaW.PrintLast Go.Proofs.YtfoadgbffidgaaaW.PrintMore
attribute [local go_sem] max2_int min2_int max_two min_two max_three min_three max_four min_four   -- for this text's walks alone
set_option linter.unusedVariables false
set_option linter.unusedSimpArgs false

/-! ### impl_plane_meet: function 132 -/
def impl_plane_meet.l0 : Nat → List Int → Int → Int → Int → Option (Int)
  | 0, _, _, _, _ => none
  | k + 1, x0, x1, x2, x8 => if x8 < 91 then ((impl_plane_on.f x0 x8 x1).bind fun t695 => (if t695 = true then ((impl_plane_on.f x0 x8 x2).bind fun t696 => (if t696 = true then (some x8) else (impl_plane_meet.l0 k x0 x1 x2 (wrap64 (x8 + 1))))) else (impl_plane_meet.l0 k x0 x1 x2 (wrap64 (x8 + 1))))) else (some (-1))
def impl_plane_meet.f (k : Nat) (l0 : List Int) (a1 : Int) (a2 : Int) : Option (Int) := impl_plane_meet.l0 k l0 a1 a2 0
theorem impl_plane_meet.mono_l : ∀ k, (∀ y0 y1 y2 y3, LeO (impl_plane_meet.l0 k y0 y1 y2 y3) (impl_plane_meet.l0 (k + 1) y0 y1 y2 y3))
  | 0 => fun _ _ _ _ r h => by simp [impl_plane_meet.l0] at h
  | k + 1 => by
    have ih0 := impl_plane_meet.mono_l k
    · intro y0 y1 y2 y3
      unfold impl_plane_meet.l0
      repeat' first
      | (with_reducible exact ih0 _ _ _ _)
      | (with_reducible exact LeO.refl _)
      | (with_reducible exact LeO.none _)
      | (with_reducible refine LeO.ite ?_ ?_)
      | (with_reducible refine LeO.bind ?_ (fun _ => ?_))
      | exact ih0 _ _ _ _
      | exact LeO.none _
      | refine LeO.ite ?_ ?_
      | refine LeO.bind ?_ (fun _ => ?_)
theorem impl_plane_meet.mono : ∀ a0 a1 a2 k, LeO (impl_plane_meet.f k a0 a1 a2) (impl_plane_meet.f (k + 1) a0 a1 a2) := by
  intro a0 a1 a2 k
  have ih0 := impl_plane_meet.mono_l k
  unfold impl_plane_meet.f
  repeat' first
      | (with_reducible exact ih0 _ _ _ _)
      | (with_reducible exact LeO.refl _)
      | (with_reducible exact LeO.none _)
      | (with_reducible refine LeO.ite ?_ ?_)
      | (with_reducible refine LeO.bind ?_ (fun _ => ?_))
      | exact ih0 _ _ _ _
      | exact LeO.none _
      | refine LeO.ite ?_ ?_
      | refine LeO.bind ?_ (fun _ => ?_)
set_option maxHeartbeats 8000000 in
set_option maxRecDepth 100000 in
theorem impl_plane_meet.calls (k : Nat) (A0 : Option Addr) (c0 : Nat) (l0 : List Int) (a1 : Int) (a2 : Int) (r : Int) (w : World) (hr0 : Kd.C (Kd.int .i64) w A0 l0.length l0) (hc0 : l0.length ≤ c0) (h : impl_plane_meet.f k l0 a1 a2 = some r) :
    Calls Try.prog 132 #[.slice A0 l0.length c0, .int .i64 a1, .int .i64 a2] w fun e w' => e = .returned (.int .i64 r) ∧ Drawn0 w w' := by
  have HR0 := Aside0.mk hr0
  have HC0 := Aside0.mk hc0
  clear hr0 hc0
  have H : (impl_plane_meet.l0 k l0 a1 a2 0) = some r := h
  clear h
  have H' := Aside0.mk H
  clear H
  go_enter Try.func132, Try.ntmps132
  go_wp2
  go_loopg [8] k (fun kq v8 w' => ∃ (x8_1 : Int), v8 = .int .i64 x8_1 ∧ Aside0 (impl_plane_meet.l0 kq l0 a1 a2 x8_1 = some r) ∧ Aside0 (kq ≤ k) ∧ Drawn0 w w')
  case atStart => exact ⟨(0), (by first | rfl | (simp; done) | (simp [*]; done)), H', ⟨Nat.le_refl _⟩, by repeat (first | exact Drawn0.refl _ | apply Drawn0.step)⟩
  case round =>
    clear H'
    try clear c1
    try clear p2
    obtain ⟨x8_1, rfl, HA, HK1, ⟨m1, rfl⟩⟩ := hrel
    cases gk with
    | zero => exact absurd HA.out (by simp [impl_plane_meet.l0])
    | succ k1 =>
      have H := HA.out
      clear HA
      simp only [impl_plane_meet.l0] at H
      by_cases c4 : x8_1 < 91
      · rw [if_pos c4] at H
        have c4b0 : decide (x8_1 < 91) = true := decide_eq_true c4
        clear c4
        replace H := Option.bind_eq_some_iff.mp H
        obtain ⟨t695, A50, H⟩ := H
        replace H : (if t695 = true then ((impl_plane_on.f l0 x8_1 a2).bind fun t696 => (if t696 = true then (some x8_1) else (impl_plane_meet.l0 k1 l0 a1 a2 (wrap64 (x8_1 + 1))))) else (impl_plane_meet.l0 k1 l0 a1 a2 (wrap64 (x8_1 + 1)))) = some r := H
        have A5 := Aside0.mk A50
        clear A50
        by_cases c6 : t695 = true
        · subst c6
          have H1 : ((impl_plane_on.f l0 x8_1 a2).bind fun t696 => (if t696 = true then (some x8_1) else (impl_plane_meet.l0 k1 l0 a1 a2 (wrap64 (x8_1 + 1))))) = some r := by rw [if_pos rfl] at H; exact H
          clear H
          have H := H1
          clear H1
          replace H := Option.bind_eq_some_iff.mp H
          obtain ⟨t696, A70, H⟩ := H
          replace H : (if t696 = true then (some x8_1) else (impl_plane_meet.l0 k1 l0 a1 a2 (wrap64 (x8_1 + 1)))) = some r := H
          have A7 := Aside0.mk A70
          clear A70
          by_cases c8 : t696 = true
          · subst c8
            have H1 : (some x8_1) = some r := by rw [if_pos rfl] at H; exact H
            clear H
            have H := H1
            clear H1
            obtain rfl := Option.some.inj H
            go_wp2_with (first | ((with_reducible refine gate_callee (f := 123) rfl ?_); refine goesL_ (some 14) rfl rfl Try.func123 (by kernel_rfl) rfl #[.slice A0 l0.length c0, .int .i64 x8_1, .int .i64 a1] rfl (by (try simp only [List.map_toArray, List.map_cons, List.map_nil]); first | done | rfl | (simp only [List.length_drop, List.length_take]; rfl)) ?_; (with_reducible refine (impl_plane_on.calls _ _ l0 x8_1 a1 true _ ?side1 ?side2 A5.out).mono ?_); (case side1 => repeat (first | exact HR0.out | (with_reducible refine Kd.C_alloc ?_ _) | (with_reducible refine Kd.C_drewN ?_ _) | (with_reducible refine Kd.C_drew ?_))); (case side2 => exact HC0.out); rintro e w' ⟨rfl, ⟨nd, rfl⟩⟩; refine ⟨_, rfl, ?_⟩) | (go_at_call 123; (with_reducible refine (impl_plane_on.calls _ _ l0 x8_1 a2 true _ ?side1 ?side2 A7.out).mono ?_); (case side1 => repeat (first | exact HR0.out | (with_reducible refine Kd.C_alloc ?_ _) | (with_reducible refine Kd.C_drewN ?_ _) | (with_reducible refine Kd.C_drew ?_))); (case side2 => exact HC0.out); rintro e w' ⟨rfl, ⟨nd, rfl⟩⟩))
            go_ret
            exact ⟨by first | rfl | (simp; done) | (simp [*]; done), by repeat (first | exact Drawn0.refl _ | apply Drawn0.step)⟩
          · replace c8 := Bool.eq_false_iff.mpr c8
            subst c8
            have H1 : (impl_plane_meet.l0 k1 l0 a1 a2 (wrap64 (x8_1 + 1))) = some r := by rw [if_neg (show ¬ (false = true) by decide)] at H; exact H
            clear H
            have H := H1
            clear H1
            have H' := Aside0.mk H
            clear H
            go_wp2_with (first | ((with_reducible refine gate_callee (f := 123) rfl ?_); refine goesL_ (some 14) rfl rfl Try.func123 (by kernel_rfl) rfl #[.slice A0 l0.length c0, .int .i64 x8_1, .int .i64 a1] rfl (by (try simp only [List.map_toArray, List.map_cons, List.map_nil]); first | done | rfl | (simp only [List.length_drop, List.length_take]; rfl)) ?_; (with_reducible refine (impl_plane_on.calls _ _ l0 x8_1 a1 true _ ?side1 ?side2 A5.out).mono ?_); (case side1 => repeat (first | exact HR0.out | (with_reducible refine Kd.C_alloc ?_ _) | (with_reducible refine Kd.C_drewN ?_ _) | (with_reducible refine Kd.C_drew ?_))); (case side2 => exact HC0.out); rintro e w' ⟨rfl, ⟨nd, rfl⟩⟩; refine ⟨_, rfl, ?_⟩) | (go_at_call 123; (with_reducible refine (impl_plane_on.calls _ _ l0 x8_1 a2 false _ ?side1 ?side2 A7.out).mono ?_); (case side1 => repeat (first | exact HR0.out | (with_reducible refine Kd.C_alloc ?_ _) | (with_reducible refine Kd.C_drewN ?_ _) | (with_reducible refine Kd.C_drew ?_))); (case side2 => exact HC0.out); rintro e w' ⟨rfl, ⟨nd, rfl⟩⟩))
            go_roundg k1
            case measure => have := HK1.out; omega
            case rel => exact ⟨(wrap64 (x8_1 + 1)), (by first | rfl | (simp; done) | (simp [*]; done)), H', ⟨by have := HK1.out; omega⟩, by repeat (first | exact Drawn0.refl _ | apply Drawn0.step)⟩
        · replace c6 := Bool.eq_false_iff.mpr c6
          subst c6
          have H1 : (impl_plane_meet.l0 k1 l0 a1 a2 (wrap64 (x8_1 + 1))) = some r := by rw [if_neg (show ¬ (false = true) by decide)] at H; exact H
          clear H
          have H := H1
          clear H1
          have H' := Aside0.mk H
          clear H
          go_wp2_with (first | ((with_reducible refine gate_callee (f := 123) rfl ?_); refine goesL_ (some 14) rfl rfl Try.func123 (by kernel_rfl) rfl #[.slice A0 l0.length c0, .int .i64 x8_1, .int .i64 a1] rfl (by (try simp only [List.map_toArray, List.map_cons, List.map_nil]); first | done | rfl | (simp only [List.length_drop, List.length_take]; rfl)) ?_; (with_reducible refine (impl_plane_on.calls _ _ l0 x8_1 a1 false _ ?side1 ?side2 A5.out).mono ?_); (case side1 => repeat (first | exact HR0.out | (with_reducible refine Kd.C_alloc ?_ _) | (with_reducible refine Kd.C_drewN ?_ _) | (with_reducible refine Kd.C_drew ?_))); (case side2 => exact HC0.out); rintro e w' ⟨rfl, ⟨nd, rfl⟩⟩; refine ⟨_, rfl, ?_⟩))
          go_roundg k1
          case measure => have := HK1.out; omega
          case rel => exact ⟨(wrap64 (x8_1 + 1)), (by first | rfl | (simp; done) | (simp [*]; done)), H', ⟨by have := HK1.out; omega⟩, by repeat (first | exact Drawn0.refl _ | apply Drawn0.step)⟩
      · rw [if_neg c4] at H
        have c4b0 : decide (x8_1 < 91) = false := decide_eq_false c4
        clear c4
        obtain rfl := Option.some.inj H
        go_wp2
        go_ret
        exact ⟨by first | rfl | (simp; done) | (simp [*]; done), by repeat (first | exact Drawn0.refl _ | apply Drawn0.step)⟩

end Go.Proofs.Ytfoadgbffidgaaa.P

set_option linter.unusedVariables false
set_option linter.unusedSimpArgs false
namespace Go.Proofs.Ytfoadgbffidgaaa.X
open Go.RowKit Go.Proofs.YtfoadgbffidgaaaW.PrintWords Go.Proofs.YtfoadgbffidgaaaW.PrintLast Go.Proofs.Ytfoadgbffidgaaa.P

theorem isPoint_eq (p : Int) : impl_isPoint.f p = some (ptB p) := by
  unfold impl_isPoint.f ptB
  by_cases h : p ≥ 0
  · rw [if_pos h, decide_eq_true h]; simp
  · rw [if_neg h, decide_eq_false h]; simp
theorem isPoint_calls (p : Int) (w : World) : Calls Try.prog 88 #[.int .i64 p] w fun e w' => e = .returned (.bool (ptB p)) ∧ Drawn0 w w' := impl_isPoint.calls p _ w (isPoint_eq p)
theorem contains_calls (A0 : Option Addr) (c0 : Nat) (l : List Int) (hl : l.length ≤ 1048576) (x : Int) (w : World) (hr : Kd.C (Kd.int .i64) w A0 l.length l) (hc : l.length ≤ c0) :
    Calls Try.prog 60 #[.slice A0 l.length c0, .int .i64 x] w fun e w' => e = .returned (.bool (decide (x ∈ l))) ∧ Drawn0 w w' := by
  obtain ⟨k, hk⟩ := (contains_ev l hl x).rounds
  exact slices_Contains_int_int.calls k A0 c0 l x _ w hr hc hk
theorem take_reads {w : World} {ad : Addr} {l : List Int} (hr : Kd.C (Kd.int .i64) w (some ad) l.length l) (i : Nat) (hi : i ≤ l.length) : Kd.C (Kd.int .i64) w (some ad) (l.take i).length (l.take i) := by
  have hm : l.length ≤ 9223372036854775807 := hr.2.1
  have hlen : (l.take i).length = i := by rw [List.length_take]; omega
  refine Kd.C_of_reads (d := (0 : Int)) (h1 := fun _ => rfl) ⟨rfl, by omega, fun hn => ⟨ad, rfl, fun j hj => ?_⟩⟩
  have := tab_at hr (j : Int) (by omega) (by omega)
  rw [Int.toNat_natCast] at this
  rw [this]
  unfold rd
  rw [List.getD_eq_getElem?_getD, List.getD_eq_getElem?_getD, Int.toNat_natCast, List.getElem?_take_of_lt (by omega)]
set_option maxRecDepth 100000 in
set_option maxHeartbeats 4000000 in
theorem areDifferent_calls (A0 : Option Addr) (c0 : Nat) (l : List Int) (hl : l.length ≤ 1048576) (w : World) (hr : Kd.C (Kd.int .i64) w A0 l.length l) (hc : l.length ≤ c0) :
    Calls Try.prog 120 #[.slice A0 l.length c0] w fun e w' => e = .returned (.bool (diffB l)) ∧ Drawn0 w w' := by
  have HR := Aside0.mk hr
  clear hr
  go_enter Try.func120, Try.ntmps120
  go_wp2
  go_loopg [7] l.length (fun kq v7 w' => ∃ i : Int, v7 = .int .i64 i ∧ Aside0 (0 ≤ i ∧ i ≤ l.length) ∧ Aside0 ((l.length : Int) - i ≤ kq) ∧ Aside0 (∀ j : Int, 0 ≤ j → j < i → newB l j = true) ∧ Aside0 (Drawn0 w w'))
  case atStart => exact ⟨0, rfl, ⟨by omega⟩, ⟨by omega⟩, ⟨fun x h0 h1 => by omega⟩, ⟨Drawn0.refl _⟩⟩
  case round =>
    obtain ⟨i, rfl, HI, HK, HA, HD⟩ := hrel
    have h0 : 0 ≤ i := HI.out.1
    by_cases c6 : i < (l.length : Int)
    · obtain ⟨ad, e1⟩ := tab_some HR.out (by omega)
      cases e1
      have HTw := Kd.C_below HR.out HD.out.below
      have g1 := tab_at HTw i h0 c6
      have hn : newB l i = (ptB (rd l i) && !decide (rd l i ∈ l.take i.toNat)) := rfl
      have P1 := isPoint_calls (rd l i)
      have P2 : ∀ W, Drawn0 wr W → Calls Try.prog 60 #[.slice (some ad) i.toNat c0, .int .i64 (rd l i)] W fun e w' => e = .returned (.bool (decide (rd l i ∈ l.take i.toNat))) ∧ Drawn0 W w' := fun W hW => by
        have hlt : (l.take i.toNat).length = i.toNat := by rw [List.length_take]; omega
        have := contains_calls (some ad) c0 (l.take i.toNat) (by omega) (rd l i) W (take_reads (Kd.C_below HTw hW.below) i.toNat (by omega)) (by omega)
        rwa [hlt] at this
      have hcap : i ≤ (c0 : Int) := by omega
      obtain ⟨x, hx⟩ : ∃ x, rd l i = x := ⟨_, rfl⟩
      rw [hx] at g1 hn P1 P2
      clear hx HTw
      by_cases e1 : ptB x = true
      case neg =>
        have e1 := Bool.eq_false_iff.2 e1
        rw [e1] at P1 hn
        have HP := Aside0.mk P1
        have HF := Aside0.mk (diffB_hit h0 c6 (by rw [hn]; rfl))
        clear P1 P2 hn e1
        go_wp2_with (go_at_call 88; refine (HP.out _).mono ?_; rintro e w' ⟨rfl, ⟨nd, rfl⟩⟩)
        go_ret
        exact ⟨by rw [HF.out]; rfl, HD.out.step _⟩
      case pos =>
        rw [e1] at P1 hn
        have HP := Aside0.mk P1
        by_cases e2 : x ∈ l.take i.toNat
        · rw [decide_eq_true e2] at P2 hn
          have HP2 := Aside0.mk P2
          have HF := Aside0.mk (diffB_hit h0 c6 (by rw [hn]; rfl))
          clear P1 P2 hn e1 e2
          go_wp2_with (first | (go_at_call 88; refine (HP.out _).mono ?_; rintro e w' ⟨rfl, ⟨nd, rfl⟩⟩) | (go_at_call 60; refine (HP2.out _ ⟨⟨_, rfl⟩⟩).mono ?_; rintro e w' ⟨rfl, ⟨nd2, rfl⟩⟩))
          go_ret
          exact ⟨by rw [HF.out]; rfl, HD.out.step _⟩
        · rw [decide_eq_false e2] at P2 hn
          have HP2 := Aside0.mk P2
          have HF := Aside0.mk hn
          clear P1 P2 hn e1 e2
          go_wp2_with (first | (go_at_call 88; refine (HP.out _).mono ?_; rintro e w' ⟨rfl, ⟨nd, rfl⟩⟩) | (go_at_call 60; refine (HP2.out _ ⟨⟨_, rfl⟩⟩).mono ?_; rintro e w' ⟨rfl, ⟨nd2, rfl⟩⟩))
          go_roundg (l.length - (i.toNat + 1))
          case measure => have := HK.out; omega
          case rel =>
            refine ⟨i + 1, rfl, ⟨by omega⟩, ⟨by omega⟩, ⟨fun x hx0 hx1 => ?_⟩, ⟨HD.out.step _⟩⟩
            by_cases e : x = i
            · rw [e]; exact HF.out
            · exact HA.out x hx0 (by omega)
    · go_wp2
      go_ret
      exact ⟨by rw [diffB_all fun j j0 j1 => HA.out j j0 (by have := HI.out; omega)]; rfl, HD.out⟩
theorem join_loop {t : List Int} (hn : ninesB t 81 = true) {p q : Int} (hp : In91 p) (hq : In91 q) (d : Nat) : ∀ (i : Int), 0 ≤ i → i + d = 91 → (∀ l : Int, 0 ≤ l → l < i → (onB t p l && onB t q l) = false) → Ev (fun k => impl_plane_join.l0 k t p q i) (joinI t p q) := by
  induction d with
  | zero =>
    intro i h0 h1 h
    refine Ev.step (fun k => by rw [impl_plane_join.l0]) ?_
    refine Ev.neg (by omega) (Ev.done ?_)
    unfold joinI
    rw [firstI_none fun l l0 l1 => h l l0 (by omega)]
  | succ d ih =>
    intro i h0 h1 h
    have e1 := plane_on_eq hn hp (l := i) ⟨h0, by omega⟩
    have e2 := plane_on_eq hn hq (l := i) ⟨h0, by omega⟩
    refine Ev.step (fun k => by rw [impl_plane_join.l0]) ?_
    simp (disch := omega) only [w64, e1, e2, Option.bind_some]
    refine Ev.pos (by omega) ?_
    have next : (onB t p i && onB t q i) = false → Ev (fun k => impl_plane_join.l0 k t p q (i + 1)) (joinI t p q) := fun hb => ih (i + 1) (by omega) (by omega) fun l l0 l1 => by
      by_cases e : l = i
      · rw [e]; exact hb
      · exact h l l0 (by omega)
    by_cases a : onB t p i = true
    · refine Ev.pos a ?_
      by_cases b : onB t q i = true
      · refine Ev.pos b (Ev.done ?_)
        unfold joinI
        rw [firstI_some i h0 (by omega) (by rw [a, b]; rfl) h]
      · exact Ev.neg b (next (by rw [Bool.eq_false_iff.2 b, Bool.and_false]))
    · exact Ev.neg a (next (by rw [Bool.eq_false_iff.2 a, Bool.false_and]))
theorem join_ev {t : List Int} (hn : ninesB t 81 = true) {p q : Int} (hp : In91 p) (hq : In91 q) : Ev (fun k => impl_plane_join.f k t p q) (joinI t p q) :=
  join_loop hn hp hq 91 0 (by omega) (by omega) (fun l h0 h1 => by omega)
theorem join_calls (A0 : Option Addr) (c0 : Nat) (t : List Int) (p q : Int) (w : World) (hr : Kd.C (Kd.int .i64) w A0 t.length t) (hc : t.length ≤ c0) (hn : ninesB t 81 = true) (hp : In91 p) (hq : In91 q) :
    Calls Try.prog 121 #[.slice A0 t.length c0, .int .i64 p, .int .i64 q] w fun e w' => e = .returned (.int .i64 (joinI t p q)) ∧ Drawn0 w w' := by
  obtain ⟨k, hk⟩ := (join_ev hn hp hq).rounds
  exact impl_plane_join.calls k A0 c0 t p q _ w hr hc hk

end Go.Proofs.Ytfoadgbffidgaaa.X
namespace Go.Proofs.Ytfoadgbffidgaaa.P
open Go.RowKit Go.Proofs.YtfoadgbffidgaaaW.PrintWords Go.Proofs.YtfoadgbffidgaaaW.PrintLast
def impl_areDifferent.f (l0 : List Int) : Option Bool := if l0.length ≤ 1048576 then some (X.diffB l0) else none
theorem impl_areDifferent.calls (A0 : Option Addr) (c0 : Nat) (l0 : List Int) (r : Bool) (w : World) (hr0 : Kd.C (Kd.int .i64) w A0 l0.length l0) (hc0 : l0.length ≤ c0) (h : impl_areDifferent.f l0 = some r) :
    Calls Try.prog 120 #[.slice A0 l0.length c0] w fun e w' => e = .returned (.bool r) ∧ Drawn0 w w' := by
  unfold impl_areDifferent.f at h
  by_cases hn : l0.length ≤ 1048576
  · rw [if_pos hn] at h
    obtain rfl := Option.some.inj h
    exact X.areDifferent_calls A0 c0 l0 hn w hr0 hc0
  · rw [if_neg hn] at h; exact absurd h (by simp)
end Go.Proofs.Ytfoadgbffidgaaa.P

set_option linter.unusedVariables false
set_option linter.unusedSimpArgs false
namespace Go.Proofs.Ytfoadgbffidgaaa.X
open Go.RowKit Go.Proofs.YtfoadgbffidgaaaW.PrintWords Go.Proofs.YtfoadgbffidgaaaW.PrintLast Go.Proofs.Ytfoadgbffidgaaa.P

theorem addr_add0 (a : Addr) : a.add 0 = a := by unfold Addr.add; split <;> simp_all
set_option maxHeartbeats 2000000 in
theorem isMove1_calls (b bm bt : Nat) (A0 A1 : Option Addr) (c0 c1 : Nat) (t m : List Int) (w : World) (hb : BoxT w b A0 c0 t) (hc0 : t.length ≤ c0) (hm : BoxT w bm A1 c1 m) (hn : ninesB t 81 = true) (hp : permB m = true) (tl : Int) (hto : In91 tl) (hlc : w.cell? ⟨bt, 0, none⟩ = some (.int .i64 tl)) (p : Int) (hpp : In91 p) :
    Calls Try.prog 122 #[.int .i64 p, .pointer (some ⟨b, 0, none⟩), .pointer (some ⟨bm, 0, none⟩), .pointer (some ⟨bt, 0, none⟩)] w fun e w' => e = .returned (.bool (!onB t (rd m p) tl)) ∧ Below w.heap.size w w' := by
  obtain ⟨p0, p1⟩ := hpp
  have hlen := permB_len hp
  have hq := diffB_pt (permB_diff hp) p0 (by omega)
  have HC := Aside0.mk (fun n : Nat => on_calls A0 c0 t (rd m p) tl (w.drewN n) (Kd.C_drewN hb.read n) hc0 hn hq hto)
  obtain ⟨ad, rfl⟩ := hm.some (by omega)
  have g1 := hm.at p p0 (by omega)
  have hcell := hb.cell
  have hcell2 := hm.cell
  have hl91 : 91 ≤ m.length := by omega
  clear hb hn hm hp hto hlen hq
  obtain ⟨q, hq⟩ : ∃ q, rd m p = q := ⟨_, rfl⟩
  rw [hq] at HC g1 ⊢
  clear hq
  obtain ⟨v, hv⟩ : ∃ v, onB t q tl = v := ⟨_, rfl⟩
  rw [hv] at HC ⊢
  clear hv
  go_enter Try.func122, Try.ntmps122
  go_wp2
  go_quiet ((go_at_call 123; exact qd (HC.out _)))
  go_wp2
  go_ret
  exact ⟨rfl, Drawn0.below ⟨⟨_, rfl⟩⟩⟩
theorem entersIM : Eg 122 := enters_of Try.func122 (by kernel_rfl) rfl

set_option maxRecDepth 100000 in
set_option maxHeartbeats 8000000 in
theorem isMove_calls (A0 : Option Addr) (c0 : Nat) (t : List Int) (A1 : Option Addr) (c1 : Nat) (m : List Int) (w : World) (hr : Kd.C (Kd.int .i64) w A0 t.length t) (hc0 : t.length ≤ c0) (hrm : Kd.C (Kd.int .i64) w A1 m.length m) (hc1 : m.length ≤ c1) :
    Calls Try.prog 81 #[.slice A0 t.length c0, .slice A1 m.length c1] w fun e w' => e = .returned (.bool (moveB t m)) ∧ Below w.heap.size w w' := by
  have hmf : ∀ (fn : Fn) (first cap : Array Value) (w : World), (Instr.makeFunc fn first cap).run Try.prog w = .ok (.func fn first cap) w := fun _ _ _ _ => rfl
  have hb0 : Below w.heap.size w ((w.alloc (.cells #[.slice A0 t.length c0] 27)).alloc (.cells #[.slice A1 m.length c1] 27)) := ((Below.refl _ _).alloc (Nat.le_refl _) _).alloc (by simp) _
  have ha1 : ((w.alloc (.cells #[.slice A0 t.length c0] 27)).alloc (.cells #[.slice A1 m.length c1] 27)).cell? ⟨w.heap.size, 0, none⟩ = some (.slice A0 t.length c0) := by
    rw [World.cell?_alloc_past _ _ _ (by simp)]; exact World.cell?_alloc_at _ _ _ _ rfl
  have hb1 : ((w.alloc (.cells #[.slice A0 t.length c0] 27)).alloc (.cells #[.slice A1 m.length c1] 27)).cell? ⟨w.heap.size + 1, 0, none⟩ = some (.slice A1 m.length c1) := World.cell?_alloc_at _ _ _ _ (by simp)
  have hbt : BoxT ((w.alloc (.cells #[.slice A0 t.length c0] 27)).alloc (.cells #[.slice A1 m.length c1] 27)) w.heap.size A0 c0 t := ⟨ha1, Kd.C_below hr hb0⟩
  have hbm : BoxT ((w.alloc (.cells #[.slice A0 t.length c0] 27)).alloc (.cells #[.slice A1 m.length c1] 27)) (w.heap.size + 1) A1 c1 m := ⟨hb1, Kd.C_below hrm hb0⟩
  have hcall := isSystem_calls A0 c0 t _ hbt.read
  have HT := Aside0.mk hbt
  have HM := Aside0.mk hbm
  have HB := Aside0.mk hb0
  have H1 := Aside0.mk ha1
  have H2 := Aside0.mk hb1
  clear hb0 ha1 hb1 hbt hbm hr hrm
  by_cases hs : sysB t = true
  case neg =>
    have hs := Bool.eq_false_iff.2 hs
    have e : moveB t m = false := by unfold moveB; rw [hs]; rfl
    rw [hs] at hcall
    rw [e]
    have HC := Aside0.mk hcall
    have h1 := H1.out
    clear hcall hs e
    go_enter Try.func81, Try.ntmps81
    go_wp2_with (go_at_call 59; refine HC.out.mono ?_; rintro e w' ⟨rfl, hb⟩)
    go_ret
    exact ⟨rfl, bstep HB.out hb⟩
  case pos =>
  rw [hs] at hcall
  have HS := Aside0.mk hs
  have HC := Aside0.mk hcall
  clear hcall hs
  have h1 := H1.out
  go_enter Try.func81, Try.ntmps81
  go_wp2_with fail
  refine HC.out.mono ?_
  rintro e w1 ⟨rfl, hbw⟩
  have HT1 := Aside0.mk (HT.out.below hbw)
  have HM1 := Aside0.mk (HM.out.below hbw)
  have HB1 := Aside0.mk (bstep HB.out hbw)
  clear hbw HT HM HB H1 H2 HC h1
  have hm1 := HM1.out.cell
  by_cases hl : m.length = 91
  case neg =>
    have e : moveB t m = false := by unfold moveB permB; rw [decide_eq_false hl]; simp
    have E := Aside0.mk e
    have l1 : ((m.length : Int) == 91) = false := beq_eq_false_iff_ne.2 (by omega)
    have l2 : ((m.length : Int) != 91) = true := by rw [bne, l1]; rfl
    clear e hl
    go_wp2
    go_ret
    exact ⟨by rw [E.out]; rfl, HB1.out⟩
  case pos =>
  have l1 : ((m.length : Int) == 91) = true := beq_iff_eq.2 (by omega)
  have l2 : ((m.length : Int) != 91) = false := by rw [bne, l1]; rfl
  have HL := Aside0.mk hl
  have hcall := areDifferent_calls A1 c1 m (by omega) w1 HM1.out.read hc1
  clear hl
  by_cases hd : diffB m = true
  case neg =>
    have hd := Bool.eq_false_iff.2 hd
    rw [hd] at hcall
    have e : moveB t m = false := by unfold moveB permB; rw [hd]; simp
    have E := Aside0.mk e
    have HC := Aside0.mk hcall
    clear e hd hcall
    go_wp2_with (go_at_call 120; refine HC.out.mono ?_; rintro e w' ⟨rfl, ⟨nd, rfl⟩⟩)
    go_ret
    exact ⟨by rw [E.out]; rfl, bstep HB1.out (Drawn0.below ⟨⟨_, rfl⟩⟩)⟩
  case pos =>
  rw [hd] at hcall
  have HC := Aside0.mk hcall
  have HP := Aside0.mk (show permB m = true by unfold permB; rw [decide_eq_true HL.out, hd]; rfl)
  clear hd hcall
  go_wp2_with (go_at_call 120; refine HC.out.mono ?_; rintro e w' ⟨rfl, ⟨nd, rfl⟩⟩)
  go_loopg [21] 91 (fun kq v21 w' => ∃ l : Int, v21 = .int .i64 l ∧ Aside0 (0 ≤ l ∧ l ≤ 91) ∧ Aside0 ((91 : Int) - l ≤ kq) ∧ Aside0 (∀ x : Int, 0 ≤ x → x < l → lineOk t m x = true) ∧ Aside0 (BoxT w' w.heap.size A0 c0 t) ∧ Aside0 (BoxT w' (w.heap.size + 1) A1 c1 m) ∧ Aside0 (Below w.heap.size w w'))
  case atStart => exact ⟨0, rfl, ⟨by omega⟩, ⟨by omega⟩, ⟨fun x h0 h1 => by omega⟩, ⟨HT1.out.below (Drawn0.below ⟨⟨_, rfl⟩⟩)⟩, ⟨HM1.out.below (Drawn0.below ⟨⟨_, rfl⟩⟩)⟩, ⟨bstep HB1.out (Drawn0.below ⟨⟨_, rfl⟩⟩)⟩⟩
  case round =>
    clear HT1 HM1 HB1 HC hm1 l1 l2
    obtain ⟨l, rfl, HI, HK, HA, HT, HM, HB⟩ := hrel
    have h0 : 0 ≤ l := HI.out.1
    by_cases c6 : l < 91
    case neg =>
      go_wp2
      go_ret
      have hall : moveB t m = true := moveB_all HS.out HP.out fun x x0 x1 => HA.out x x0 (by have := HI.out; omega)
      exact ⟨by rw [hall]; rfl, HB.out⟩
    case pos =>
    have hcell := HT.out.cell
    have HC := Aside0.mk (points_calls A0 c0 t l wr HT.out.read hc0 (sysB_parts HS.out).1 ⟨h0, c6⟩)
    go_wp2_with fail
    refine HC.out.mono ?_
    rintro e w2 ⟨v, rfl, ho, hb⟩
    obtain ⟨Ao, co, eo⟩ := Kd.R_slice ho
    subst eo
    have HO := Aside0.mk ho
    have HT2 := Aside0.mk (HT.out.below hb)
    have HM2 := Aside0.mk (HM.out.below hb)
    have HB2 := Aside0.mk (bstep HB.out hb)
    clear ho hb HC HT HM HB hcell
    have h2 := pointsL_two HS.out h0 c6
    obtain ⟨q0, q1, hne, hto⟩ := toLine_spec HS.out HP.out ⟨h0, c6⟩
    obtain ⟨ad, e1⟩ := tab_some (Kd.R_reads' HO.out).2.2 (by omega)
    cases e1
    obtain ⟨am, e2⟩ := HM2.out.some (by have := HL.out; omega)
    cases e2
    have f0 := (pointsL_rd (t := t) (l := l) (i := 0) (by omega) (by omega)).1
    have f1 := (pointsL_rd (t := t) (l := l) (i := 1) (by omega) (by omega)).1
    have g0 := tab_at (Kd.R_reads' HO.out).2.2 0 (by omega) (by omega)
    have g1 := tab_at (Kd.R_reads' HO.out).2.2 1 (by omega) (by omega)
    have g2 := HM2.out.at (rd (pointsL t l) 0) f0.1 (by have := f0.2; have := HL.out; omega)
    have g3 := HM2.out.at (rd (pointsL t l) 1) f1.1 (by have := f1.2; have := HL.out; omega)
    have k1 := HT2.out.cell
    have k2 := HM2.out.cell
    have HJ := Aside0.mk (fun W (hW : Below w2.heap.size w2 W) => join_calls A0 c0 t (rd m (rd (pointsL t l) 0)) (rd m (rd (pointsL t l) 1)) W (HT2.out.below hW).read hc0 (sysB_parts HS.out).1 q0 q1)
    have HQ := Aside0.mk hto
    have hjt : joinI t (rd m (rd (pointsL t l) 0)) (rd m (rd (pointsL t l) 1)) = toLine t m l := rfl
    rw [hjt] at HJ
    have m91 : 91 ≤ m.length := by have := HL.out; omega
    obtain ⟨f00, f01⟩ := f0
    obtain ⟨f10, f11⟩ := f1
    clear hjt q0 q1 hne hto
    obtain ⟨x0, hx0⟩ : ∃ x, rd (pointsL t l) 0 = x := ⟨_, rfl⟩
    obtain ⟨x1, hx1⟩ : ∃ x, rd (pointsL t l) 1 = x := ⟨_, rfl⟩
    rw [hx0] at g0 g2 f00 f01 HJ
    rw [hx1] at g1 g3 f10 f11 HJ
    obtain ⟨y0, hy0⟩ : ∃ y, rd m x0 = y := ⟨_, rfl⟩
    obtain ⟨y1, hy1⟩ : ∃ y, rd m x1 = y := ⟨_, rfl⟩
    rw [hy0] at g2 HJ
    rw [hy1] at g3 HJ
    obtain ⟨tl, htl⟩ : ∃ x, toLine t m l = x := ⟨_, rfl⟩
    rw [htl] at HJ HQ
    have HTL := Aside0.mk htl
    clear hx0 hx1 hy0 hy1 htl
    have g0' : w2.cell? ad = some (.int .i64 x0) := by rw [← addr_add0 ad]; exact g0
    have hz0 : 0 < (pointsL t l).length := by omega
    have hz1 : 1 < (pointsL t l).length := by omega
    have hz2 : (0 : Int) < ((pointsL t l).length : Int) := by omega
    have hz3 : (1 : Int) < ((pointsL t l).length : Int) := by omega
    have g1' : w2.cell? ⟨ad.block, ad.off + 1, none⟩ = some (.int .i64 x1) := g1
    have b0 : x0 < (m.length : Int) := by omega
    have b1 : x1 < (m.length : Int) := by omega
    clear g0 g1
    have q1 := World.new_ne w2 _ g0'
    have q2 := World.new_ne w2 _ g1'
    have q3 := World.new_ne w2 _ g2
    have q4 := World.new_ne w2 _ g3
    have q5 := World.new_ne w2 _ k1
    have q6 := World.new_ne w2 _ k2
    have hnc : ∀ n, ((w2.drewN n).alloc (.cells #[.int .i64 0] 3)).cell? ⟨w2.heap.size, 0, none⟩ = some (.int .i64 0) := fun n => World.cell?_alloc_new (w2.drewN n) _ _ 0
    have hnf : ∀ n, ((w2.drewN n).alloc (.cells #[.int .i64 0] 3)).frozen? ⟨w2.heap.size, 0, none⟩ = false := fun n => World.frozen?_alloc_new (w2.drewN n) _ _ 0
    go_wp2_with fail
    go_region_held3 (fun w' => w'.cell? ad = some (.int .i64 x0) ∧ w'.cell? ⟨ad.block, ad.off + 1, none⟩ = some (.int .i64 x1) ∧ w'.cell? (am.add x0.toNat) = some (.int .i64 y0) ∧ w'.cell? (am.add x1.toNat) = some (.int .i64 y1) ∧ w'.cell? ⟨w.heap.size, 0, none⟩ = some (.slice A0 t.length c0) ∧ w'.cell? ⟨w.heap.size + 1, 0, none⟩ = some (.slice (some am) m.length c1))
      (go_keep)
      (first | (go_at_call 121; refine (HJ.out _ ?_).mono ?_; rotate_left; rintro e w' ⟨rfl, ⟨nd3, rfl⟩⟩; rotate_left; (repeat (first | (with_reducible first | exact Below.refl _ _ | apply below_alloc | apply pw_below_drewN | apply below_drew1) | exact Below.refl _ _))))
    all_goals (
      generalize hW : World.setCell _ _ _ = W
      have hb : Below w2.heap.size w2 W := by
        subst hW
        refine below_set ?_ (Nat.le_refl _)
        first | exact below_alloc (pw_below_drewN (Below.refl _ _) _) _ | exact pw_below_drewN (below_alloc (Below.refl _ _) _) _
      have hc : W.cell? ⟨w2.heap.size, 0, none⟩ = some (.int .i64 tl) := by
        subst hW
        first | exact World.cell?_setCell_same _ _ _ (hnc _) | exact World.cell?_setCell_same _ _ _ (World.cell?_alloc_new w2 _ _ 0)
      have HB3 := Aside0.mk hb
      have HC3 := Aside0.mk hc
      clear hW hb hc q1 q2 q3 q4 q5 q6 hnc hnf g0' g1' g2 g3 k1 k2
      have HT3 := Aside0.mk (HT2.out.below HB3.out)
      have HM3 := Aside0.mk (HM2.out.below HB3.out)
      have hcall := containsFunc_calls 122 #[.pointer (some ⟨w.heap.size, 0, none⟩), .pointer (some ⟨w.heap.size + 1, 0, none⟩), .pointer (some ⟨w2.heap.size, 0, none⟩)] entersIM (fun p => !onB t (rd m p) tl) (some ad) co (pointsL t l) W
        (Kd.C_below (Kd.R_reads' HO.out).2.2 HB3.out) (fun V x hV hx => isMove1_calls _ _ _ A0 (some am) c0 c1 t m V (HT3.out.below hV) hc0 (HM3.out.below hV) (sysB_parts HS.out).1 HP.out tl HQ.out (pw_cell_below hV HC3.out) x (by have := mem_pointsL.1 hx; exact ⟨this.1, this.2.1⟩))
      have hok : lineOk t m l = !((pointsL t l).any fun p => !onB t (rd m p) tl) := by unfold lineOk; rw [HTL.out]
      by_cases ea : ((pointsL t l).any fun p => !onB t (rd m p) tl) = true
      case pos =>
        rw [ea] at hcall hok
        have HC := Aside0.mk hcall
        have HK2 := Aside0.mk hok
        clear hcall hok ea
        go_wp2_with (go_at_call 91; refine HC.out.mono ?_; rintro e w' ⟨rfl, hb'⟩)
        go_ret
        exact ⟨by rw [moveB_hit h0 c6 HK2.out]; rfl, bstep HB2.out (bstep HB3.out hb')⟩
      case neg =>
        have ea := Bool.eq_false_iff.2 ea
        rw [ea] at hcall hok
        have HC := Aside0.mk hcall
        have HK2 := Aside0.mk hok
        clear hcall hok ea
        have zw : IntKind.i64.wrap (l + 1) = l + 1 := by rw [IntKind.wrap_i64]; omega
        go_wp2_with (go_at_call 91; refine HC.out.mono ?_; rintro e w' ⟨rfl, hb'⟩; have HB4 := Aside0.mk hb'; clear hb')
        go_roundg (91 - (l.toNat + 1))
        case measure => have := HK.out; omega
        case rel =>
          refine ⟨l + 1, rfl, ⟨by omega⟩, ⟨by omega⟩, ⟨fun x x0 x1 => ?_⟩, ⟨HT3.out.below HB4.out⟩, ⟨HM3.out.below HB4.out⟩, ⟨bstep HB2.out (bstep HB3.out HB4.out)⟩⟩
          by_cases e : x = l
          · rw [e]; exact HK2.out
          · exact HA.out x x0 (by omega))
end Go.Proofs.Ytfoadgbffidgaaa.X
namespace Go.Proofs.Ytfoadgbffidgaaa.P
open Go.RowKit Go.Proofs.YtfoadgbffidgaaaW.PrintWords Go.Proofs.YtfoadgbffidgaaaW.PrintLast
def impl_isMove.f (l0 l1 : List Int) : Option Bool := if l1.length ≤ 1048576 then some (X.moveB l0 l1) else none
theorem impl_isMove.calls (A0 : Option Addr) (c0 : Nat) (l0 : List Int) (A1 : Option Addr) (c1 : Nat) (l1 : List Int) (r : Bool) (w : World) (hr0 : Kd.C (Kd.int .i64) w A0 l0.length l0) (hc0 : l0.length ≤ c0) (hr1 : Kd.C (Kd.int .i64) w A1 l1.length l1) (hc1 : l1.length ≤ c1) (h : impl_isMove.f l0 l1 = some r) :
    Calls Try.prog 81 #[.slice A0 l0.length c0, .slice A1 l1.length c1] w fun e w' => e = .returned (.bool r) ∧ Below w.heap.size w w' := by
  unfold impl_isMove.f at h
  by_cases hn : l1.length ≤ 1048576
  · rw [if_pos hn] at h
    obtain rfl := Option.some.inj h
    exact X.isMove_calls A0 c0 l0 A1 c1 l1 w hr0 hc0 hr1 hc1
  · rw [if_neg hn] at h; exact absurd h (by simp)
end Go.Proofs.Ytfoadgbffidgaaa.P

namespace Go.Proofs.Ytfoadgbffidgaaa.P
open Go.RowKit Go.Proofs.YtfoadgbffidgaaaW.PrintWords Go.Proofs.YtfoadgbffidgaaaW.PrintLast Go.Proofs.YtfoadgbffidgaaaW.PrintMore
attribute [local go_sem] max2_int min2_int max_two min_two max_three min_three max_four min_four   -- for this text's walks alone
set_option linter.unusedVariables false
set_option linter.unusedSimpArgs false

/-! ### impl_MoveLine: function 46 -/
def impl_MoveLine.f (k : Nat) (l0 : List Int) (l1 : List Int) (a2 : Int) : Option (Int × Bool) := (impl_isMove.f l0 l1).bind fun t627 => (if t627 = true then ((impl_isPoint.f a2).bind fun t628 => (if t628 = true then ((impl_lineBy.f k l0 l1 a2).bind fun t629 => (some (t629, true))) else (some (0, false)))) else (some (0, false)))
theorem impl_MoveLine.mono : ∀ a0 a1 a2 k, LeO (impl_MoveLine.f k a0 a1 a2) (impl_MoveLine.f (k + 1) a0 a1 a2) := by
  intro a0 a1 a2 k
  unfold impl_MoveLine.f
  repeat' first
      | (with_reducible exact impl_lineBy.mono _ _ _ _)
      | (with_reducible exact LeO.refl _)
      | (with_reducible exact LeO.none _)
      | (with_reducible refine LeO.ite ?_ ?_)
      | (with_reducible refine LeO.bind ?_ (fun _ => ?_))
      | exact impl_lineBy.mono _ _ _ _
      | exact LeO.none _
      | refine LeO.ite ?_ ?_
      | refine LeO.bind ?_ (fun _ => ?_)
set_option maxHeartbeats 8000000 in
set_option maxRecDepth 100000 in
theorem impl_MoveLine.calls (k : Nat) (A0 : Option Addr) (c0 : Nat) (l0 : List Int) (A1 : Option Addr) (c1 : Nat) (l1 : List Int) (a2 : Int) (r1 : Int) (r2 : Bool) (w : World) (hr0 : Kd.C (Kd.int .i64) w A0 l0.length l0) (hc0 : l0.length ≤ c0) (hr1 : Kd.C (Kd.int .i64) w A1 l1.length l1) (hc1 : l1.length ≤ c1) (h : impl_MoveLine.f k l0 l1 a2 = some (r1, r2)) :
    Calls Try.prog 46 #[.slice A0 l0.length c0, .slice A1 l1.length c1, .int .i64 a2] w fun e w' => e = .returned (.tuple #[.int .i64 r1, .bool r2]) ∧ Below w.heap.size w w' := by
  have HR0 := Aside0.mk hr0
  have HC0 := Aside0.mk hc0
  clear hr0 hc0
  have HR1 := Aside0.mk hr1
  have HC1 := Aside0.mk hc1
  clear hr1 hc1
  have HB := Aside0.mk (Below.refl w.heap.size w)
  have H : ((impl_isMove.f l0 l1).bind fun t627 => (if t627 = true then ((impl_isPoint.f a2).bind fun t628 => (if t628 = true then ((impl_lineBy.f k l0 l1 a2).bind fun t629 => (some (t629, true))) else (some (0, false)))) else (some (0, false)))) = some (r1, r2) := h
  clear h
  replace H := Option.bind_eq_some_iff.mp H
  obtain ⟨t627, A40, H⟩ := H
  replace H : (if t627 = true then ((impl_isPoint.f a2).bind fun t628 => (if t628 = true then ((impl_lineBy.f k l0 l1 a2).bind fun t629 => (some (t629, true))) else (some (0, false)))) else (some (0, false))) = some (r1, r2) := H
  have A4 := Aside0.mk A40
  clear A40
  by_cases c5 : t627 = true
  · subst c5
    have H1 : ((impl_isPoint.f a2).bind fun t628 => (if t628 = true then ((impl_lineBy.f k l0 l1 a2).bind fun t629 => (some (t629, true))) else (some (0, false)))) = some (r1, r2) := by rw [if_pos rfl] at H; exact H
    clear H
    have H := H1
    clear H1
    replace H := Option.bind_eq_some_iff.mp H
    obtain ⟨t628, A60, H⟩ := H
    replace H : (if t628 = true then ((impl_lineBy.f k l0 l1 a2).bind fun t629 => (some (t629, true))) else (some (0, false))) = some (r1, r2) := H
    have A6 := Aside0.mk A60
    clear A60
    by_cases c7 : t628 = true
    · subst c7
      have H1 : ((impl_lineBy.f k l0 l1 a2).bind fun t629 => (some (t629, true))) = some (r1, r2) := by rw [if_pos rfl] at H; exact H
      clear H
      have H := H1
      clear H1
      replace H := Option.bind_eq_some_iff.mp H
      obtain ⟨t629, A80, H⟩ := H
      replace H : (some (t629, true)) = some (r1, r2) := H
      have A8 := Aside0.mk A80
      clear A80
      simp only [Option.some.injEq, Prod.mk.injEq] at H
      obtain ⟨rfl, rfl⟩ := H
      go_enter Try.func46, Try.ntmps46
      go_wp2_with (first | ((with_reducible refine gate_callee (f := 81) rfl ?_); refine goesL_ (some 10) rfl rfl Try.func81 (by kernel_rfl) rfl #[.slice A0 l0.length c0, .slice A1 l1.length c1] rfl (by (try simp only [List.map_toArray, List.map_cons, List.map_nil]); first | done | rfl | (simp only [List.length_drop, List.length_take]; rfl)) ?_; (with_reducible refine (impl_isMove.calls _ _ l0 _ _ l1 true _ ?side1 ?side2 ?side3 ?side4 A4.out).mono ?_); (case side1 => repeat (first | exact HR0.out | (with_reducible refine Kd.C_alloc ?_ _) | (with_reducible refine Kd.C_drewN ?_ _) | (with_reducible refine Kd.C_drew ?_))); (case side2 => exact HC0.out); (case side3 => repeat (first | exact HR1.out | (with_reducible refine Kd.C_alloc ?_ _) | (with_reducible refine Kd.C_drewN ?_ _) | (with_reducible refine Kd.C_drew ?_))); (case side4 => exact HC1.out); rintro e w9 ⟨rfl, hb⟩; refine ⟨_, rfl, ?_⟩; have n0_ := Aside0.mk (below_step (by repeat (first | (with_reducible first | exact HB.out | apply below_alloc | apply pw_below_drewN | apply below_drew1) | exact HB.out)) hb); clear HB; have HB := n0_; clear n0_; (try clear hb); (try clear hb2); (try clear hk); (try clear hi)) | (go_at_call 88; (with_reducible refine (impl_isPoint.calls a2 true _ A6.out).mono ?_); rintro e w' ⟨rfl, ⟨nd, rfl⟩⟩) | ((with_reducible refine gate_callee (f := 89) rfl ?_); refine goesL_ (some 20) rfl rfl Try.func89 (by kernel_rfl) rfl #[.slice A0 l0.length c0, .slice A1 l1.length c1, .int .i64 a2] rfl (by (try simp only [List.map_toArray, List.map_cons, List.map_nil]); first | done | rfl | (simp only [List.length_drop, List.length_take]; rfl)) ?_; (with_reducible refine (impl_lineBy.calls k _ _ l0 _ _ l1 a2 t629 _ ?side1 ?side2 ?side3 ?side4 A8.out).mono ?_); (case side1 => repeat (first | exact (Kd.C_below HR0.out (by repeat (first | (with_reducible first | exact HB.out | apply below_alloc | apply pw_below_drewN | apply below_drew1) | exact HB.out))) | (with_reducible refine Kd.C_alloc ?_ _) | (with_reducible refine Kd.C_drewN ?_ _) | (with_reducible refine Kd.C_drew ?_))); (case side2 => exact HC0.out); (case side3 => repeat (first | exact (Kd.C_below HR1.out (by repeat (first | (with_reducible first | exact HB.out | apply below_alloc | apply pw_below_drewN | apply below_drew1) | exact HB.out))) | (with_reducible refine Kd.C_alloc ?_ _) | (with_reducible refine Kd.C_drewN ?_ _) | (with_reducible refine Kd.C_drew ?_))); (case side4 => exact HC1.out); rintro e w10 ⟨rfl, hb⟩; refine ⟨_, rfl, ?_⟩; have n0_ := Aside0.mk (below_step (by repeat (first | (with_reducible first | exact HB.out | apply below_alloc | apply pw_below_drewN | apply below_drew1) | exact HB.out)) hb); clear HB; have HB := n0_; clear n0_; (try clear hb); (try clear hb2); (try clear hk); (try clear hi)))
      go_ret2
      exact ⟨by first | rfl | (simp [errW_none, errW_some] <;> rfl) | (simp [*, errW_none, errW_some] <;> rfl), by repeat (first | (with_reducible first | exact HB.out | apply below_alloc | apply pw_below_drewN | apply below_drew1) | exact HB.out)⟩
    · replace c7 := Bool.eq_false_iff.mpr c7
      subst c7
      have H1 : (some (0, false)) = some (r1, r2) := by rw [if_neg (show ¬ (false = true) by decide)] at H; exact H
      clear H
      have H := H1
      clear H1
      simp only [Option.some.injEq, Prod.mk.injEq] at H
      obtain ⟨rfl, rfl⟩ := H
      go_enter Try.func46, Try.ntmps46
      go_wp2_with (first | ((with_reducible refine gate_callee (f := 81) rfl ?_); refine goesL_ (some 10) rfl rfl Try.func81 (by kernel_rfl) rfl #[.slice A0 l0.length c0, .slice A1 l1.length c1] rfl (by (try simp only [List.map_toArray, List.map_cons, List.map_nil]); first | done | rfl | (simp only [List.length_drop, List.length_take]; rfl)) ?_; (with_reducible refine (impl_isMove.calls _ _ l0 _ _ l1 true _ ?side1 ?side2 ?side3 ?side4 A4.out).mono ?_); (case side1 => repeat (first | exact HR0.out | (with_reducible refine Kd.C_alloc ?_ _) | (with_reducible refine Kd.C_drewN ?_ _) | (with_reducible refine Kd.C_drew ?_))); (case side2 => exact HC0.out); (case side3 => repeat (first | exact HR1.out | (with_reducible refine Kd.C_alloc ?_ _) | (with_reducible refine Kd.C_drewN ?_ _) | (with_reducible refine Kd.C_drew ?_))); (case side4 => exact HC1.out); rintro e w11 ⟨rfl, hb⟩; refine ⟨_, rfl, ?_⟩; have n0_ := Aside0.mk (below_step (by repeat (first | (with_reducible first | exact HB.out | apply below_alloc | apply pw_below_drewN | apply below_drew1) | exact HB.out)) hb); clear HB; have HB := n0_; clear n0_; (try clear hb); (try clear hb2); (try clear hk); (try clear hi)) | (go_at_call 88; (with_reducible refine (impl_isPoint.calls a2 false _ A6.out).mono ?_); rintro e w' ⟨rfl, ⟨nd, rfl⟩⟩))
      go_ret2
      exact ⟨by first | rfl | (simp [errW_none, errW_some] <;> rfl) | (simp [*, errW_none, errW_some] <;> rfl), by repeat (first | (with_reducible first | exact HB.out | apply below_alloc | apply pw_below_drewN | apply below_drew1) | exact HB.out)⟩
  · replace c5 := Bool.eq_false_iff.mpr c5
    subst c5
    have H1 : (some (0, false)) = some (r1, r2) := by rw [if_neg (show ¬ (false = true) by decide)] at H; exact H
    clear H
    have H := H1
    clear H1
    simp only [Option.some.injEq, Prod.mk.injEq] at H
    obtain ⟨rfl, rfl⟩ := H
    go_enter Try.func46, Try.ntmps46
    go_wp2_with (first | ((with_reducible refine gate_callee (f := 81) rfl ?_); refine goesL_ (some 10) rfl rfl Try.func81 (by kernel_rfl) rfl #[.slice A0 l0.length c0, .slice A1 l1.length c1] rfl (by (try simp only [List.map_toArray, List.map_cons, List.map_nil]); first | done | rfl | (simp only [List.length_drop, List.length_take]; rfl)) ?_; (with_reducible refine (impl_isMove.calls _ _ l0 _ _ l1 false _ ?side1 ?side2 ?side3 ?side4 A4.out).mono ?_); (case side1 => repeat (first | exact HR0.out | (with_reducible refine Kd.C_alloc ?_ _) | (with_reducible refine Kd.C_drewN ?_ _) | (with_reducible refine Kd.C_drew ?_))); (case side2 => exact HC0.out); (case side3 => repeat (first | exact HR1.out | (with_reducible refine Kd.C_alloc ?_ _) | (with_reducible refine Kd.C_drewN ?_ _) | (with_reducible refine Kd.C_drew ?_))); (case side4 => exact HC1.out); rintro e w12 ⟨rfl, hb⟩; refine ⟨_, rfl, ?_⟩; have n0_ := Aside0.mk (below_step (by repeat (first | (with_reducible first | exact HB.out | apply below_alloc | apply pw_below_drewN | apply below_drew1) | exact HB.out)) hb); clear HB; have HB := n0_; clear n0_; (try clear hb); (try clear hb2); (try clear hk); (try clear hi)))
    go_ret2
    exact ⟨by first | rfl | (simp [errW_none, errW_some] <;> rfl) | (simp [*, errW_none, errW_some] <;> rfl), by repeat (first | (with_reducible first | exact HB.out | apply below_alloc | apply pw_below_drewN | apply below_drew1) | exact HB.out)⟩

end Go.Proofs.Ytfoadgbffidgaaa.P

namespace Go.Proofs.Ytfoadgbffidgaaa.P
open Go.RowKit Go.Proofs.YtfoadgbffidgaaaW.PrintWords Go.Proofs.YtfoadgbffidgaaaW.PrintLast Go.Proofs.YtfoadgbffidgaaaW.PrintMore
attribute [local go_sem] max2_int min2_int max_two min_two max_three min_three max_four min_four   -- for this text's walks alone
set_option linter.unusedVariables false
set_option linter.unusedSimpArgs false

/-! ### spec_l1In: function 116 -/
def spec_l1In.f (a0 : Int) : Option (Bool) := (spec_l6In.f a0 0 8).bind fun t175 => (some t175)
set_option maxHeartbeats 8000000 in
set_option maxRecDepth 100000 in
theorem spec_l1In.calls (a0 : Int) (r : Bool) (w : World) (h : spec_l1In.f a0 = some r) :
    Calls Try.prog 116 #[.int .i64 a0] w fun e w' => e = .returned (.bool r) ∧ Drawn0 w w' := by
  have H : ((spec_l6In.f a0 0 8).bind fun t175 => (some t175)) = some r := h
  clear h
  replace H := Option.bind_eq_some_iff.mp H
  obtain ⟨t175, A20, H⟩ := H
  replace H : (some t175) = some r := H
  have A2 := Aside0.mk A20
  clear A20
  obtain rfl := Option.some.inj H
  go_enter Try.func116, Try.ntmps116
  go_wp2_with (first | ((with_reducible refine gate_callee (f := 56) rfl ?_); refine goesL_ (some 4) rfl rfl Try.func56 (by kernel_rfl) rfl #[.int .i64 a0, .int .i64 0, .int .i64 8] rfl (by (try simp only [List.map_toArray, List.map_cons, List.map_nil]); first | done | rfl | (simp only [List.length_drop, List.length_take]; rfl)) ?_; (with_reducible refine (spec_l6In.calls a0 0 8 t175 _ A2.out).mono ?_); rintro e w' ⟨rfl, ⟨nd, rfl⟩⟩; refine ⟨_, rfl, ?_⟩))
  go_ret
  exact ⟨by first | rfl | (simp; done) | (simp [*]; done), by repeat (first | exact Drawn0.refl _ | apply Drawn0.step)⟩

end Go.Proofs.Ytfoadgbffidgaaa.P

namespace Go.Proofs.Ytfoadgbffidgaaa.P
open Go.RowKit Go.Proofs.YtfoadgbffidgaaaW.PrintWords Go.Proofs.YtfoadgbffidgaaaW.PrintLast Go.Proofs.YtfoadgbffidgaaaW.PrintMore
attribute [local go_sem] max2_int min2_int max_two min_two max_three min_three max_four min_four   -- for this text's walks alone
set_option linter.unusedVariables false
set_option linter.unusedSimpArgs false

/-! ### spec_l2Table: function 75 -/
def spec_l2Table.l0 : Nat → List Int → Int → Option (Bool)
  | 0, _, _ => none
  | k + 1, x0, x3 => if x3 < (x0.length : Int) then (if 0 ≤ x3 then ((spec_l1In.f (rd x0 x3)).bind fun t177 => (if t177 = true then (spec_l2Table.l0 k x0 (wrap64 (x3 + 1))) else (some false))) else (none)) else (some ((x0.length : Int) == 81))
def spec_l2Table.f (k : Nat) (l0 : List Int) : Option (Bool) := spec_l2Table.l0 k l0 0
theorem spec_l2Table.mono_l : ∀ k, (∀ y0 y1, LeO (spec_l2Table.l0 k y0 y1) (spec_l2Table.l0 (k + 1) y0 y1))
  | 0 => fun _ _ r h => by simp [spec_l2Table.l0] at h
  | k + 1 => by
    have ih0 := spec_l2Table.mono_l k
    · intro y0 y1
      unfold spec_l2Table.l0
      repeat' first
      | (with_reducible exact ih0 _ _)
      | (with_reducible exact LeO.refl _)
      | (with_reducible exact LeO.none _)
      | (with_reducible refine LeO.ite ?_ ?_)
      | (with_reducible refine LeO.bind ?_ (fun _ => ?_))
      | exact ih0 _ _
      | exact LeO.none _
      | refine LeO.ite ?_ ?_
      | refine LeO.bind ?_ (fun _ => ?_)
theorem spec_l2Table.mono : ∀ a0 k, LeO (spec_l2Table.f k a0) (spec_l2Table.f (k + 1) a0) := by
  intro a0 k
  have ih0 := spec_l2Table.mono_l k
  unfold spec_l2Table.f
  repeat' first
      | (with_reducible exact ih0 _ _)
      | (with_reducible exact LeO.refl _)
      | (with_reducible exact LeO.none _)
      | (with_reducible refine LeO.ite ?_ ?_)
      | (with_reducible refine LeO.bind ?_ (fun _ => ?_))
      | exact ih0 _ _
      | exact LeO.none _
      | refine LeO.ite ?_ ?_
      | refine LeO.bind ?_ (fun _ => ?_)
set_option maxHeartbeats 8000000 in
set_option maxRecDepth 100000 in
theorem spec_l2Table.calls (k : Nat) (A0 : Option Addr) (c0 : Nat) (l0 : List Int) (r : Bool) (w : World) (hr0 : Kd.C (Kd.int .i64) w A0 l0.length l0) (hc0 : l0.length ≤ c0) (h : spec_l2Table.f k l0 = some r) :
    Calls Try.prog 75 #[.slice A0 l0.length c0] w fun e w' => e = .returned (.bool r) ∧ Drawn0 w w' := by
  have HR0 := Aside0.mk hr0
  have HC0 := Aside0.mk hc0
  clear hr0 hc0
  have H : (spec_l2Table.l0 k l0 0) = some r := h
  clear h
  have H' := Aside0.mk H
  clear H
  go_enter Try.func75, Try.ntmps75
  go_wp2
  go_loopg [3] k (fun kq v3 w' => ∃ (x3_1 : Int), v3 = .int .i64 x3_1 ∧ Aside0 (spec_l2Table.l0 kq l0 x3_1 = some r) ∧ Aside0 (kq ≤ k) ∧ Drawn0 w w')
  case atStart => exact ⟨(0), (by first | rfl | (simp; done) | (simp [*]; done)), H', ⟨Nat.le_refl _⟩, by repeat (first | exact Drawn0.refl _ | apply Drawn0.step)⟩
  case round =>
    clear H'
    obtain ⟨x3_1, rfl, HA, HK1, ⟨m1, rfl⟩⟩ := hrel
    cases gk with
    | zero => exact absurd HA.out (by simp [spec_l2Table.l0])
    | succ k1 =>
      have H := HA.out
      clear HA
      simp only [spec_l2Table.l0] at H
      by_cases c2 : x3_1 < (l0.length : Int)
      · rw [if_pos c2] at H
        have c2b0 : decide (x3_1 < (l0.length : Int)) = true := decide_eq_true c2
        clear c2
        by_cases c3 : 0 ≤ x3_1
        · rw [if_pos c3] at H
          have c3b0 : decide (0 ≤ x3_1) = true := decide_eq_true c3
          clear c3
          replace H := Option.bind_eq_some_iff.mp H
          obtain ⟨t177, A40, H⟩ := H
          replace H : (if t177 = true then (spec_l2Table.l0 k1 l0 (wrap64 (x3_1 + 1))) else (some false)) = some r := H
          have A4 := Aside0.mk A40
          clear A40
          by_cases c5 : t177 = true
          · subst c5
            have H1 : (spec_l2Table.l0 k1 l0 (wrap64 (x3_1 + 1))) = some r := by rw [if_pos rfl] at H; exact H
            clear H
            have H := H1
            clear H1
            have H' := Aside0.mk H
            clear H
            have p176 : 0 ≤ (x3_1 : Int) := of_decide_eq_true (by first | (with_reducible assumption) | assumption)
            have q176 : x3_1 < (l0.length : Int) := of_decide_eq_true (by first | (with_reducible assumption) | assumption)
            obtain ⟨ad176, e176, hx176_0⟩ := Kd.at_int HR0.out x3_1 p176 q176
            cases e176
            replace p176 := eq_true p176
            replace q176 := eq_true q176
            go_wp2_with (first | ((with_reducible refine gate_callee (f := 116) rfl ?_); refine goesL_ (some 14) rfl rfl Try.func116 (by kernel_rfl) rfl #[.int .i64 (rd l0 x3_1)] rfl (by (try simp only [List.map_toArray, List.map_cons, List.map_nil]); first | done | rfl | (simp only [List.length_drop, List.length_take]; rfl)) ?_; (with_reducible refine (spec_l1In.calls (rd l0 x3_1) true _ A4.out).mono ?_); rintro e w' ⟨rfl, ⟨nd, rfl⟩⟩; refine ⟨_, rfl, ?_⟩))
            go_roundg k1
            case measure => have := HK1.out; omega
            case rel => exact ⟨(wrap64 (x3_1 + 1)), (by first | rfl | (simp; done) | (simp [*]; done)), H', ⟨by have := HK1.out; omega⟩, by repeat (first | exact Drawn0.refl _ | apply Drawn0.step)⟩
          · replace c5 := Bool.eq_false_iff.mpr c5
            subst c5
            have H1 : (some false) = some r := by rw [if_neg (show ¬ (false = true) by decide)] at H; exact H
            clear H
            have H := H1
            clear H1
            obtain rfl := Option.some.inj H
            have p176 : 0 ≤ (x3_1 : Int) := of_decide_eq_true (by first | (with_reducible assumption) | assumption)
            have q176 : x3_1 < (l0.length : Int) := of_decide_eq_true (by first | (with_reducible assumption) | assumption)
            obtain ⟨ad176, e176, hx176_0⟩ := Kd.at_int HR0.out x3_1 p176 q176
            cases e176
            replace p176 := eq_true p176
            replace q176 := eq_true q176
            go_wp2_with (first | ((with_reducible refine gate_callee (f := 116) rfl ?_); refine goesL_ (some 14) rfl rfl Try.func116 (by kernel_rfl) rfl #[.int .i64 (rd l0 x3_1)] rfl (by (try simp only [List.map_toArray, List.map_cons, List.map_nil]); first | done | rfl | (simp only [List.length_drop, List.length_take]; rfl)) ?_; (with_reducible refine (spec_l1In.calls (rd l0 x3_1) false _ A4.out).mono ?_); rintro e w' ⟨rfl, ⟨nd, rfl⟩⟩; refine ⟨_, rfl, ?_⟩))
            go_ret
            exact ⟨by first | rfl | (simp; done) | (simp [*]; done), by repeat (first | exact Drawn0.refl _ | apply Drawn0.step)⟩
        · rw [if_neg c3] at H
          exact absurd H (by simp)
      · rw [if_neg c2] at H
        have c2b0 : decide (x3_1 < (l0.length : Int)) = false := decide_eq_false c2
        clear c2
        obtain rfl := Option.some.inj H
        go_wp2
        go_ret
        exact ⟨by first | rfl | (simp; done) | (simp [*]; done), by repeat (first | exact Drawn0.refl _ | apply Drawn0.step)⟩

end Go.Proofs.Ytfoadgbffidgaaa.P

namespace Go.Proofs.Ytfoadgbffidgaaa.P
open Go.RowKit Go.Proofs.YtfoadgbffidgaaaW.PrintWords Go.Proofs.YtfoadgbffidgaaaW.PrintLast Go.Proofs.YtfoadgbffidgaaaW.PrintMore
attribute [local go_sem] max2_int min2_int max_two min_two max_three min_three max_four min_four   -- for this text's walks alone
set_option linter.unusedVariables false
set_option linter.unusedSimpArgs false

/-! ### spec_l2Units: function 101 -/
def spec_l2Units.l0 : Nat → List Int → Int → Option (Bool)
  | 0, _, _ => none
  | k + 1, x0, x3 => if x3 < 9 then (if 0 ≤ x3 then (if x3 < (x0.length : Int) then (if (rd x0 x3) = 0 then (if 0 ≤ (wrap64 (9 * x3)) then (if (wrap64 (9 * x3)) < (x0.length : Int) then (if (rd x0 (wrap64 (9 * x3))) = 0 then (if 0 ≤ (wrap64 (9 + x3)) then (if (wrap64 (9 + x3)) < (x0.length : Int) then (if (rd x0 (wrap64 (9 + x3))) = x3 then (if 0 ≤ (wrap64 ((wrap64 (9 * x3)) + 1)) then (if (wrap64 ((wrap64 (9 * x3)) + 1)) < (x0.length : Int) then (if (rd x0 (wrap64 ((wrap64 (9 * x3)) + 1))) = x3 then (spec_l2Units.l0 k x0 (wrap64 (x3 + 1))) else (some false)) else (none)) else (none)) else (some false)) else (none)) else (none)) else (some false)) else (none)) else (none)) else (some false)) else (none)) else (none)) else (some true)
def spec_l2Units.f (k : Nat) (l0 : List Int) : Option (Bool) := spec_l2Units.l0 k l0 0
theorem spec_l2Units.mono_l : ∀ k, (∀ y0 y1, LeO (spec_l2Units.l0 k y0 y1) (spec_l2Units.l0 (k + 1) y0 y1))
  | 0 => fun _ _ r h => by simp [spec_l2Units.l0] at h
  | k + 1 => by
    have ih0 := spec_l2Units.mono_l k
    · intro y0 y1
      unfold spec_l2Units.l0
      repeat' first
      | (with_reducible exact ih0 _ _)
      | (with_reducible exact LeO.refl _)
      | (with_reducible exact LeO.none _)
      | (with_reducible refine LeO.ite ?_ ?_)
      | (with_reducible refine LeO.bind ?_ (fun _ => ?_))
      | exact ih0 _ _
      | exact LeO.none _
      | refine LeO.ite ?_ ?_
      | refine LeO.bind ?_ (fun _ => ?_)
theorem spec_l2Units.mono : ∀ a0 k, LeO (spec_l2Units.f k a0) (spec_l2Units.f (k + 1) a0) := by
  intro a0 k
  have ih0 := spec_l2Units.mono_l k
  unfold spec_l2Units.f
  repeat' first
      | (with_reducible exact ih0 _ _)
      | (with_reducible exact LeO.refl _)
      | (with_reducible exact LeO.none _)
      | (with_reducible refine LeO.ite ?_ ?_)
      | (with_reducible refine LeO.bind ?_ (fun _ => ?_))
      | exact ih0 _ _
      | exact LeO.none _
      | refine LeO.ite ?_ ?_
      | refine LeO.bind ?_ (fun _ => ?_)
set_option maxHeartbeats 8000000 in
set_option maxRecDepth 100000 in
theorem spec_l2Units.calls (k : Nat) (A0 : Option Addr) (c0 : Nat) (l0 : List Int) (r : Bool) (w : World) (hr0 : Kd.C (Kd.int .i64) w A0 l0.length l0) (hc0 : l0.length ≤ c0) (h : spec_l2Units.f k l0 = some r) :
    Calls Try.prog 101 #[.slice A0 l0.length c0] w fun e w' => e = .returned (.bool r) ∧ Drawn0 w w' := by
  have HR0 := Aside0.mk hr0
  have HC0 := Aside0.mk hc0
  clear hr0 hc0
  have H : (spec_l2Units.l0 k l0 0) = some r := h
  clear h
  have H' := Aside0.mk H
  clear H
  go_enter Try.func101, Try.ntmps101
  go_wp2
  go_loopg [3] k (fun kq v3 w' => ∃ (x3_1 : Int), v3 = .int .i64 x3_1 ∧ Aside0 (spec_l2Units.l0 kq l0 x3_1 = some r) ∧ Aside0 (kq ≤ k) ∧ Drawn0 w w')
  case atStart => exact ⟨(0), (by first | rfl | (simp; done) | (simp [*]; done)), H', ⟨Nat.le_refl _⟩, by repeat (first | exact Drawn0.refl _ | apply Drawn0.step)⟩
  case round =>
    clear H'
    try clear c1
    obtain ⟨x3_1, rfl, HA, HK1, ⟨m1, rfl⟩⟩ := hrel
    cases gk with
    | zero => exact absurd HA.out (by simp [spec_l2Units.l0])
    | succ k1 =>
      have H := HA.out
      clear HA
      simp only [spec_l2Units.l0] at H
      by_cases c2 : x3_1 < 9
      · rw [if_pos c2] at H
        have c2b0 : decide (x3_1 < 9) = true := decide_eq_true c2
        clear c2
        by_cases c3 : 0 ≤ x3_1
        · rw [if_pos c3] at H
          have c3b0 : decide (0 ≤ x3_1) = true := decide_eq_true c3
          clear c3
          by_cases c4 : x3_1 < (l0.length : Int)
          · rw [if_pos c4] at H
            have c4b0 : decide (x3_1 < (l0.length : Int)) = true := decide_eq_true c4
            clear c4
            by_cases c5 : (rd l0 x3_1) = 0
            · rw [if_pos c5] at H
              have c5b0 : ((rd l0 x3_1) == 0) = true := beq_iff_eq.mpr c5
              have c5b1 : ((rd l0 x3_1) != 0) = false := bne_eq_false_iff_eq.mpr c5
              clear c5
              obtain ⟨ji6, hji6⟩ : ∃ j_ : Int, (wrap64 (9 * x3_1)) = j_ := ⟨_, rfl⟩
              replace H : (if 0 ≤ (ji6) then (if (ji6) < (l0.length : Int) then (if (rd l0 (ji6)) = 0 then (if 0 ≤ (wrap64 (9 + x3_1)) then (if (wrap64 (9 + x3_1)) < (l0.length : Int) then (if (rd l0 (wrap64 (9 + x3_1))) = x3_1 then (if 0 ≤ (wrap64 ((ji6) + 1)) then (if (wrap64 ((ji6) + 1)) < (l0.length : Int) then (if (rd l0 (wrap64 ((ji6) + 1))) = x3_1 then (spec_l2Units.l0 k1 l0 (wrap64 (x3_1 + 1))) else (some false)) else (none)) else (none)) else (some false)) else (none)) else (none)) else (some false)) else (none)) else (none)) = some r := by first | (rw [hji6] at H; exact H) | (simp only [hji6] at H ⊢; exact H)
              have hji6w : (IntKind.i64.wrap (9 * x3_1)) = ji6 := (i64_w _).trans hji6
              by_cases c7 : 0 ≤ (ji6)
              · rw [if_pos c7] at H
                have c7b0 : decide (0 ≤ (ji6)) = true := decide_eq_true c7
                clear c7
                by_cases c8 : (ji6) < (l0.length : Int)
                · rw [if_pos c8] at H
                  have c8b0 : decide ((ji6) < (l0.length : Int)) = true := decide_eq_true c8
                  clear c8
                  by_cases c9 : (rd l0 (ji6)) = 0
                  · rw [if_pos c9] at H
                    have c9b0 : ((rd l0 (ji6)) == 0) = true := beq_iff_eq.mpr c9
                    have c9b1 : ((rd l0 (ji6)) != 0) = false := bne_eq_false_iff_eq.mpr c9
                    clear c9
                    obtain ⟨ji10, hji10⟩ : ∃ j_ : Int, (wrap64 (9 + x3_1)) = j_ := ⟨_, rfl⟩
                    replace H : (if 0 ≤ (ji10) then (if (ji10) < (l0.length : Int) then (if (rd l0 (ji10)) = x3_1 then (if 0 ≤ (wrap64 ((ji6) + 1)) then (if (wrap64 ((ji6) + 1)) < (l0.length : Int) then (if (rd l0 (wrap64 ((ji6) + 1))) = x3_1 then (spec_l2Units.l0 k1 l0 (wrap64 (x3_1 + 1))) else (some false)) else (none)) else (none)) else (some false)) else (none)) else (none)) = some r := by first | (rw [hji10] at H; exact H) | (simp only [hji10] at H ⊢; exact H)
                    have hji10w : (IntKind.i64.wrap (9 + x3_1)) = ji10 := (i64_w _).trans hji10
                    by_cases c11 : 0 ≤ (ji10)
                    · rw [if_pos c11] at H
                      have c11b0 : decide (0 ≤ (ji10)) = true := decide_eq_true c11
                      clear c11
                      by_cases c12 : (ji10) < (l0.length : Int)
                      · rw [if_pos c12] at H
                        have c12b0 : decide ((ji10) < (l0.length : Int)) = true := decide_eq_true c12
                        clear c12
                        by_cases c13 : (rd l0 (ji10)) = x3_1
                        · rw [if_pos c13] at H
                          have c13b0 : ((rd l0 (ji10)) == x3_1) = true := beq_iff_eq.mpr c13
                          have c13b1 : ((rd l0 (ji10)) != x3_1) = false := bne_eq_false_iff_eq.mpr c13
                          clear c13
                          obtain ⟨ji14, hji14⟩ : ∃ j_ : Int, (wrap64 ((ji6) + 1)) = j_ := ⟨_, rfl⟩
                          replace H : (if 0 ≤ (ji14) then (if (ji14) < (l0.length : Int) then (if (rd l0 (ji14)) = x3_1 then (spec_l2Units.l0 k1 l0 (wrap64 (x3_1 + 1))) else (some false)) else (none)) else (none)) = some r := by first | (rw [hji14] at H; exact H) | (simp only [hji14] at H ⊢; exact H)
                          have hji14w : (IntKind.i64.wrap ((ji6) + 1)) = ji14 := (i64_w _).trans hji14
                          by_cases c15 : 0 ≤ (ji14)
                          · rw [if_pos c15] at H
                            have c15b0 : decide (0 ≤ (ji14)) = true := decide_eq_true c15
                            clear c15
                            by_cases c16 : (ji14) < (l0.length : Int)
                            · rw [if_pos c16] at H
                              have c16b0 : decide ((ji14) < (l0.length : Int)) = true := decide_eq_true c16
                              clear c16
                              by_cases c17 : (rd l0 (ji14)) = x3_1
                              · rw [if_pos c17] at H
                                have c17b0 : ((rd l0 (ji14)) == x3_1) = true := beq_iff_eq.mpr c17
                                have c17b1 : ((rd l0 (ji14)) != x3_1) = false := bne_eq_false_iff_eq.mpr c17
                                clear c17
                                have H' := Aside0.mk H
                                clear H
                                have p178 : 0 ≤ (x3_1 : Int) := of_decide_eq_true (by first | (with_reducible assumption) | assumption)
                                have q178 : x3_1 < (l0.length : Int) := of_decide_eq_true (by first | (with_reducible assumption) | assumption)
                                obtain ⟨ad178, e178, hx178_0⟩ := Kd.at_int HR0.out x3_1 p178 q178
                                cases e178
                                replace p178 := eq_true p178
                                replace q178 := eq_true q178
                                have p179 : 0 ≤ ((ji6) : Int) := of_decide_eq_true (by first | (with_reducible assumption) | assumption)
                                have q179 : (ji6) < (l0.length : Int) := of_decide_eq_true (by first | (with_reducible assumption) | assumption)
                                obtain ⟨ad179, e179, hx179_0⟩ := Kd.at_int HR0.out (ji6) p179 q179
                                obtain rfl : ad178 = ad179 := (by injection e179)
                                replace p179 := eq_true p179
                                replace q179 := eq_true q179
                                have p180 : 0 ≤ ((ji10) : Int) := of_decide_eq_true (by first | (with_reducible assumption) | assumption)
                                have q180 : (ji10) < (l0.length : Int) := of_decide_eq_true (by first | (with_reducible assumption) | assumption)
                                obtain ⟨ad180, e180, hx180_0⟩ := Kd.at_int HR0.out (ji10) p180 q180
                                obtain rfl : ad178 = ad180 := (by injection e180)
                                replace p180 := eq_true p180
                                replace q180 := eq_true q180
                                have p181 : 0 ≤ ((ji14) : Int) := of_decide_eq_true (by first | (with_reducible assumption) | assumption)
                                have q181 : (ji14) < (l0.length : Int) := of_decide_eq_true (by first | (with_reducible assumption) | assumption)
                                obtain ⟨ad181, e181, hx181_0⟩ := Kd.at_int HR0.out (ji14) p181 q181
                                obtain rfl : ad178 = ad181 := (by injection e181)
                                replace p181 := eq_true p181
                                replace q181 := eq_true q181
                                go_wp2
                                go_roundg k1
                                case measure => have := HK1.out; omega
                                case rel => exact ⟨(wrap64 (x3_1 + 1)), (by first | rfl | (simp; done) | (simp [*]; done)), H', ⟨by have := HK1.out; omega⟩, by repeat (first | exact Drawn0.refl _ | apply Drawn0.step)⟩
                              · rw [if_neg c17] at H
                                have c17b0 : ((rd l0 (ji14)) == x3_1) = false := beq_eq_false_iff_ne.mpr c17
                                have c17b1 : ((rd l0 (ji14)) != x3_1) = true := bne_iff_ne.mpr c17
                                obtain rfl := Option.some.inj H
                                have p178 : 0 ≤ (x3_1 : Int) := of_decide_eq_true (by first | (with_reducible assumption) | assumption)
                                have q178 : x3_1 < (l0.length : Int) := of_decide_eq_true (by first | (with_reducible assumption) | assumption)
                                obtain ⟨ad178, e178, hx178_0⟩ := Kd.at_int HR0.out x3_1 p178 q178
                                cases e178
                                replace p178 := eq_true p178
                                replace q178 := eq_true q178
                                have p179 : 0 ≤ ((ji6) : Int) := of_decide_eq_true (by first | (with_reducible assumption) | assumption)
                                have q179 : (ji6) < (l0.length : Int) := of_decide_eq_true (by first | (with_reducible assumption) | assumption)
                                obtain ⟨ad179, e179, hx179_0⟩ := Kd.at_int HR0.out (ji6) p179 q179
                                obtain rfl : ad178 = ad179 := (by injection e179)
                                replace p179 := eq_true p179
                                replace q179 := eq_true q179
                                have p180 : 0 ≤ ((ji10) : Int) := of_decide_eq_true (by first | (with_reducible assumption) | assumption)
                                have q180 : (ji10) < (l0.length : Int) := of_decide_eq_true (by first | (with_reducible assumption) | assumption)
                                obtain ⟨ad180, e180, hx180_0⟩ := Kd.at_int HR0.out (ji10) p180 q180
                                obtain rfl : ad178 = ad180 := (by injection e180)
                                replace p180 := eq_true p180
                                replace q180 := eq_true q180
                                have p181 : 0 ≤ ((ji14) : Int) := of_decide_eq_true (by first | (with_reducible assumption) | assumption)
                                have q181 : (ji14) < (l0.length : Int) := of_decide_eq_true (by first | (with_reducible assumption) | assumption)
                                obtain ⟨ad181, e181, hx181_0⟩ := Kd.at_int HR0.out (ji14) p181 q181
                                obtain rfl : ad178 = ad181 := (by injection e181)
                                replace p181 := eq_true p181
                                replace q181 := eq_true q181
                                go_wp2
                                go_ret
                                exact ⟨by first | rfl | (simp; done) | (simp only [← hji6, ← hji10, ← hji14] <;> (first | rfl | simp)) | (simp [*]; done), by repeat (first | exact Drawn0.refl _ | apply Drawn0.step)⟩
                            · rw [if_neg c16] at H
                              exact absurd H (by simp)
                          · rw [if_neg c15] at H
                            exact absurd H (by simp)
                        · rw [if_neg c13] at H
                          have c13b0 : ((rd l0 (ji10)) == x3_1) = false := beq_eq_false_iff_ne.mpr c13
                          have c13b1 : ((rd l0 (ji10)) != x3_1) = true := bne_iff_ne.mpr c13
                          obtain rfl := Option.some.inj H
                          have p178 : 0 ≤ (x3_1 : Int) := of_decide_eq_true (by first | (with_reducible assumption) | assumption)
                          have q178 : x3_1 < (l0.length : Int) := of_decide_eq_true (by first | (with_reducible assumption) | assumption)
                          obtain ⟨ad178, e178, hx178_0⟩ := Kd.at_int HR0.out x3_1 p178 q178
                          cases e178
                          replace p178 := eq_true p178
                          replace q178 := eq_true q178
                          have p179 : 0 ≤ ((ji6) : Int) := of_decide_eq_true (by first | (with_reducible assumption) | assumption)
                          have q179 : (ji6) < (l0.length : Int) := of_decide_eq_true (by first | (with_reducible assumption) | assumption)
                          obtain ⟨ad179, e179, hx179_0⟩ := Kd.at_int HR0.out (ji6) p179 q179
                          obtain rfl : ad178 = ad179 := (by injection e179)
                          replace p179 := eq_true p179
                          replace q179 := eq_true q179
                          have p180 : 0 ≤ ((ji10) : Int) := of_decide_eq_true (by first | (with_reducible assumption) | assumption)
                          have q180 : (ji10) < (l0.length : Int) := of_decide_eq_true (by first | (with_reducible assumption) | assumption)
                          obtain ⟨ad180, e180, hx180_0⟩ := Kd.at_int HR0.out (ji10) p180 q180
                          obtain rfl : ad178 = ad180 := (by injection e180)
                          replace p180 := eq_true p180
                          replace q180 := eq_true q180
                          go_wp2
                          go_ret
                          exact ⟨by first | rfl | (simp; done) | (simp only [← hji6, ← hji10] <;> (first | rfl | simp)) | (simp [*]; done), by repeat (first | exact Drawn0.refl _ | apply Drawn0.step)⟩
                      · rw [if_neg c12] at H
                        exact absurd H (by simp)
                    · rw [if_neg c11] at H
                      exact absurd H (by simp)
                  · rw [if_neg c9] at H
                    have c9b0 : ((rd l0 (ji6)) == 0) = false := beq_eq_false_iff_ne.mpr c9
                    have c9b1 : ((rd l0 (ji6)) != 0) = true := bne_iff_ne.mpr c9
                    obtain rfl := Option.some.inj H
                    have p178 : 0 ≤ (x3_1 : Int) := of_decide_eq_true (by first | (with_reducible assumption) | assumption)
                    have q178 : x3_1 < (l0.length : Int) := of_decide_eq_true (by first | (with_reducible assumption) | assumption)
                    obtain ⟨ad178, e178, hx178_0⟩ := Kd.at_int HR0.out x3_1 p178 q178
                    cases e178
                    replace p178 := eq_true p178
                    replace q178 := eq_true q178
                    have p179 : 0 ≤ ((ji6) : Int) := of_decide_eq_true (by first | (with_reducible assumption) | assumption)
                    have q179 : (ji6) < (l0.length : Int) := of_decide_eq_true (by first | (with_reducible assumption) | assumption)
                    obtain ⟨ad179, e179, hx179_0⟩ := Kd.at_int HR0.out (ji6) p179 q179
                    obtain rfl : ad178 = ad179 := (by injection e179)
                    replace p179 := eq_true p179
                    replace q179 := eq_true q179
                    go_wp2
                    go_ret
                    exact ⟨by first | rfl | (simp; done) | (simp only [← hji6] <;> (first | rfl | simp)) | (simp [*]; done), by repeat (first | exact Drawn0.refl _ | apply Drawn0.step)⟩
                · rw [if_neg c8] at H
                  exact absurd H (by simp)
              · rw [if_neg c7] at H
                exact absurd H (by simp)
            · rw [if_neg c5] at H
              have c5b0 : ((rd l0 x3_1) == 0) = false := beq_eq_false_iff_ne.mpr c5
              have c5b1 : ((rd l0 x3_1) != 0) = true := bne_iff_ne.mpr c5
              obtain rfl := Option.some.inj H
              have p178 : 0 ≤ (x3_1 : Int) := of_decide_eq_true (by first | (with_reducible assumption) | assumption)
              have q178 : x3_1 < (l0.length : Int) := of_decide_eq_true (by first | (with_reducible assumption) | assumption)
              obtain ⟨ad178, e178, hx178_0⟩ := Kd.at_int HR0.out x3_1 p178 q178
              cases e178
              replace p178 := eq_true p178
              replace q178 := eq_true q178
              go_wp2
              go_ret
              exact ⟨by first | rfl | (simp; done) | (simp [*]; done), by repeat (first | exact Drawn0.refl _ | apply Drawn0.step)⟩
          · rw [if_neg c4] at H
            exact absurd H (by simp)
        · rw [if_neg c3] at H
          exact absurd H (by simp)
      · rw [if_neg c2] at H
        have c2b0 : decide (x3_1 < 9) = false := decide_eq_false c2
        clear c2
        obtain rfl := Option.some.inj H
        go_wp2
        go_ret
        exact ⟨by first | rfl | (simp; done) | (simp [*]; done), by repeat (first | exact Drawn0.refl _ | apply Drawn0.step)⟩

end Go.Proofs.Ytfoadgbffidgaaa.P

namespace Go.Proofs.Ytfoadgbffidgaaa.P
open Go.RowKit Go.Proofs.YtfoadgbffidgaaaW.PrintWords Go.Proofs.YtfoadgbffidgaaaW.PrintLast Go.Proofs.YtfoadgbffidgaaaW.PrintMore
attribute [local go_sem] max2_int min2_int max_two min_two max_three min_three max_four min_four   -- for this text's walks alone
set_option linter.unusedVariables false
set_option linter.unusedSimpArgs false

/-! ### spec_SystemIn: function 55 -/
mutual
def spec_SystemIn.j0 : Nat → List Int → Bool → Option (Bool)
  | 0, _, _ => none
  | k + 1, x0, x17 => if x17 = true then (some false) else (spec_SystemIn.l0 k x0 0)
def spec_SystemIn.l0 : Nat → List Int → Int → Option (Bool)
  | 0, _, _ => none
  | k + 1, x0, x3 => if x3 < 9 then (spec_SystemIn.l1 k x0 x3 0) else (some true)
def spec_SystemIn.l1 : Nat → List Int → Int → Int → Option (Bool)
  | 0, _, _, _ => none
  | k + 1, x0, x3, x4 => if x4 < x3 then ((spec_l2Solves.f x0 x3 x4).bind fun t185 => (if t185 = true then (spec_SystemIn.l1 k x0 x3 (wrap64 (x4 + 1))) else (some false))) else (spec_SystemIn.l0 k x0 (wrap64 (x3 + 1)))
end
def spec_SystemIn.f (k : Nat) (l0 : List Int) : Option (Bool) := (spec_l2Table.f k l0).bind fun t182 => (if t182 = true then ((spec_l2Units.f k l0).bind fun t183 => (if t183 = true then ((spec_l2Shares.f l0).bind fun t184 => (spec_SystemIn.j0 k l0 (!t184))) else (spec_SystemIn.j0 k l0 true))) else (spec_SystemIn.j0 k l0 true))
theorem spec_SystemIn.mono_l : ∀ k, (∀ y0 y1, LeO (spec_SystemIn.j0 k y0 y1) (spec_SystemIn.j0 (k + 1) y0 y1)) ∧ (∀ y0 y1, LeO (spec_SystemIn.l0 k y0 y1) (spec_SystemIn.l0 (k + 1) y0 y1)) ∧ (∀ y0 y1 y2, LeO (spec_SystemIn.l1 k y0 y1 y2) (spec_SystemIn.l1 (k + 1) y0 y1 y2))
  | 0 => ⟨fun _ _ r h => by simp [spec_SystemIn.j0] at h, fun _ _ r h => by simp [spec_SystemIn.l0] at h, fun _ _ _ r h => by simp [spec_SystemIn.l1] at h⟩
  | k + 1 => by
    obtain ⟨ih0, ih1, ih2⟩ := spec_SystemIn.mono_l k
    refine ⟨?_, ?_, ?_⟩
    · intro y0 y1
      unfold spec_SystemIn.j0
      repeat' first
      | (with_reducible exact ih0 _ _)
      | (with_reducible exact ih1 _ _)
      | (with_reducible exact ih2 _ _ _)
      | (with_reducible exact spec_l2Table.mono _ _)
      | (with_reducible exact spec_l2Units.mono _ _)
      | (with_reducible exact LeO.refl _)
      | (with_reducible exact LeO.none _)
      | (with_reducible refine LeO.ite ?_ ?_)
      | (with_reducible refine LeO.bind ?_ (fun _ => ?_))
      | exact ih0 _ _
      | exact ih1 _ _
      | exact ih2 _ _ _
      | exact spec_l2Table.mono _ _
      | exact spec_l2Units.mono _ _
      | exact LeO.none _
      | refine LeO.ite ?_ ?_
      | refine LeO.bind ?_ (fun _ => ?_)
    · intro y0 y1
      unfold spec_SystemIn.l0
      repeat' first
      | (with_reducible exact ih0 _ _)
      | (with_reducible exact ih1 _ _)
      | (with_reducible exact ih2 _ _ _)
      | (with_reducible exact spec_l2Table.mono _ _)
      | (with_reducible exact spec_l2Units.mono _ _)
      | (with_reducible exact LeO.refl _)
      | (with_reducible exact LeO.none _)
      | (with_reducible refine LeO.ite ?_ ?_)
      | (with_reducible refine LeO.bind ?_ (fun _ => ?_))
      | exact ih0 _ _
      | exact ih1 _ _
      | exact ih2 _ _ _
      | exact spec_l2Table.mono _ _
      | exact spec_l2Units.mono _ _
      | exact LeO.none _
      | refine LeO.ite ?_ ?_
      | refine LeO.bind ?_ (fun _ => ?_)
    · intro y0 y1 y2
      unfold spec_SystemIn.l1
      repeat' first
      | (with_reducible exact ih0 _ _)
      | (with_reducible exact ih1 _ _)
      | (with_reducible exact ih2 _ _ _)
      | (with_reducible exact spec_l2Table.mono _ _)
      | (with_reducible exact spec_l2Units.mono _ _)
      | (with_reducible exact LeO.refl _)
      | (with_reducible exact LeO.none _)
      | (with_reducible refine LeO.ite ?_ ?_)
      | (with_reducible refine LeO.bind ?_ (fun _ => ?_))
      | exact ih0 _ _
      | exact ih1 _ _
      | exact ih2 _ _ _
      | exact spec_l2Table.mono _ _
      | exact spec_l2Units.mono _ _
      | exact LeO.none _
      | refine LeO.ite ?_ ?_
      | refine LeO.bind ?_ (fun _ => ?_)
theorem spec_SystemIn.mono : ∀ a0 k, LeO (spec_SystemIn.f k a0) (spec_SystemIn.f (k + 1) a0) := by
  intro a0 k
  obtain ⟨ih0, ih1, ih2⟩ := spec_SystemIn.mono_l k
  unfold spec_SystemIn.f
  repeat' first
      | (with_reducible exact ih0 _ _)
      | (with_reducible exact ih1 _ _)
      | (with_reducible exact ih2 _ _ _)
      | (with_reducible exact spec_l2Table.mono _ _)
      | (with_reducible exact spec_l2Units.mono _ _)
      | (with_reducible exact LeO.refl _)
      | (with_reducible exact LeO.none _)
      | (with_reducible refine LeO.ite ?_ ?_)
      | (with_reducible refine LeO.bind ?_ (fun _ => ?_))
      | exact ih0 _ _
      | exact ih1 _ _
      | exact ih2 _ _ _
      | exact spec_l2Table.mono _ _
      | exact spec_l2Units.mono _ _
      | exact LeO.none _
      | refine LeO.ite ?_ ?_
      | refine LeO.bind ?_ (fun _ => ?_)
set_option maxHeartbeats 8000000 in
set_option maxRecDepth 100000 in
theorem spec_SystemIn.calls (k : Nat) (A0 : Option Addr) (c0 : Nat) (l0 : List Int) (r : Bool) (w : World) (hr0 : Kd.C (Kd.int .i64) w A0 l0.length l0) (hc0 : l0.length ≤ c0) (h : spec_SystemIn.f k l0 = some r) :
    Calls Try.prog 55 #[.slice A0 l0.length c0] w fun e w' => e = .returned (.bool r) ∧ Below w.heap.size w w' := by
  have HR0 := Aside0.mk hr0
  have HC0 := Aside0.mk hc0
  clear hr0 hc0
  have HB := Aside0.mk (Below.refl w.heap.size w)
  have H : ((spec_l2Table.f k l0).bind fun t182 => (if t182 = true then ((spec_l2Units.f k l0).bind fun t183 => (if t183 = true then ((spec_l2Shares.f l0).bind fun t184 => (spec_SystemIn.j0 k l0 (!t184))) else (spec_SystemIn.j0 k l0 true))) else (spec_SystemIn.j0 k l0 true))) = some r := h
  clear h
  have HC2 := Aside0.mk H
  clear H
  go_enter Try.func55, Try.ntmps55
  go_upto_region 1 with (fail)
  go_cut [17] (fun v17 wc => ∃ (kq : Nat) (x17_1 : Bool), v17 = .bool x17_1 ∧ Aside0 (spec_SystemIn.j0 kq l0 x17_1 = some r) ∧ Aside0 (kq ≤ k) ∧ Aside0 (Below w.heap.size w wc))
  case first =>
    have H := HC2.out
    clear HC2
    replace H := Option.bind_eq_some_iff.mp H
    obtain ⟨t182, A30, H⟩ := H
    replace H : (if t182 = true then ((spec_l2Units.f k l0).bind fun t183 => (if t183 = true then ((spec_l2Shares.f l0).bind fun t184 => (spec_SystemIn.j0 k l0 (!t184))) else (spec_SystemIn.j0 k l0 true))) else (spec_SystemIn.j0 k l0 true)) = some r := H
    have A3 := Aside0.mk A30
    clear A30
    by_cases c4 : t182 = true
    · subst c4
      have H1 : ((spec_l2Units.f k l0).bind fun t183 => (if t183 = true then ((spec_l2Shares.f l0).bind fun t184 => (spec_SystemIn.j0 k l0 (!t184))) else (spec_SystemIn.j0 k l0 true))) = some r := by rw [if_pos rfl] at H; exact H
      clear H
      have H := H1
      clear H1
      replace H := Option.bind_eq_some_iff.mp H
      obtain ⟨t183, A50, H⟩ := H
      replace H : (if t183 = true then ((spec_l2Shares.f l0).bind fun t184 => (spec_SystemIn.j0 k l0 (!t184))) else (spec_SystemIn.j0 k l0 true)) = some r := H
      have A5 := Aside0.mk A50
      clear A50
      by_cases c6 : t183 = true
      · subst c6
        have H1 : ((spec_l2Shares.f l0).bind fun t184 => (spec_SystemIn.j0 k l0 (!t184))) = some r := by rw [if_pos rfl] at H; exact H
        clear H
        have H := H1
        clear H1
        replace H := Option.bind_eq_some_iff.mp H
        obtain ⟨t184, A70, H⟩ := H
        replace H : (spec_SystemIn.j0 k l0 (!t184)) = some r := H
        have A7 := Aside0.mk A70
        clear A70
        have H' := Aside0.mk H
        clear H
        go_wp2_with (first | ((with_reducible refine gate_callee (f := 75) rfl ?_); refine goesL_ (some 6) rfl rfl Try.func75 (by kernel_rfl) rfl #[.slice A0 l0.length c0] rfl (by (try simp only [List.map_toArray, List.map_cons, List.map_nil]); first | done | rfl | (simp only [List.length_drop, List.length_take]; rfl)) ?_; (with_reducible refine (spec_l2Table.calls k _ _ l0 true _ ?side1 ?side2 A3.out).mono ?_); (case side1 => repeat (first | exact (Kd.C_below HR0.out HB.out) | (with_reducible refine Kd.C_alloc ?_ _) | (with_reducible refine Kd.C_drewN ?_ _) | (with_reducible refine Kd.C_drew ?_))); (case side2 => exact HC0.out); rintro e w' ⟨rfl, ⟨nd, rfl⟩⟩; refine ⟨_, rfl, ?_⟩) | (go_at_call 101; (with_reducible refine (spec_l2Units.calls k _ _ l0 true _ ?side1 ?side2 A5.out).mono ?_); (case side1 => repeat (first | exact (Kd.C_below HR0.out (by repeat (first | (with_reducible first | exact HB.out | apply below_alloc | apply pw_below_drewN | apply below_drew1) | exact HB.out))) | (with_reducible refine Kd.C_alloc ?_ _) | (with_reducible refine Kd.C_drewN ?_ _) | (with_reducible refine Kd.C_drew ?_))); (case side2 => exact HC0.out); rintro e w' ⟨rfl, ⟨nd, rfl⟩⟩) | (go_at_call 102; (with_reducible refine (spec_l2Shares.calls _ _ l0 t184 _ ?side1 ?side2 A7.out).mono ?_); (case side1 => repeat (first | exact (Kd.C_below HR0.out (by repeat (first | (with_reducible first | exact HB.out | apply below_alloc | apply pw_below_drewN | apply below_drew1) | exact HB.out))) | (with_reducible refine Kd.C_alloc ?_ _) | (with_reducible refine Kd.C_drewN ?_ _) | (with_reducible refine Kd.C_drew ?_))); (case side2 => exact HC0.out); rintro e w' ⟨rfl, ⟨nd, rfl⟩⟩))
        go_meet
        case rel => exact ⟨_, (!t184), (by first | rfl | (simp; done) | (simp [*]; done)), H', ⟨by first | omega | exact Nat.le_refl _⟩, ⟨by repeat (first | (with_reducible first | exact HB.out | apply below_alloc | apply pw_below_drewN | apply below_drew1) | exact HB.out)⟩⟩
      · replace c6 := Bool.eq_false_iff.mpr c6
        subst c6
        have H1 : (spec_SystemIn.j0 k l0 true) = some r := by rw [if_neg (show ¬ (false = true) by decide)] at H; exact H
        clear H
        have H := H1
        clear H1
        have H' := Aside0.mk H
        clear H
        go_wp2_with (first | ((with_reducible refine gate_callee (f := 75) rfl ?_); refine goesL_ (some 6) rfl rfl Try.func75 (by kernel_rfl) rfl #[.slice A0 l0.length c0] rfl (by (try simp only [List.map_toArray, List.map_cons, List.map_nil]); first | done | rfl | (simp only [List.length_drop, List.length_take]; rfl)) ?_; (with_reducible refine (spec_l2Table.calls k _ _ l0 true _ ?side1 ?side2 A3.out).mono ?_); (case side1 => repeat (first | exact (Kd.C_below HR0.out HB.out) | (with_reducible refine Kd.C_alloc ?_ _) | (with_reducible refine Kd.C_drewN ?_ _) | (with_reducible refine Kd.C_drew ?_))); (case side2 => exact HC0.out); rintro e w' ⟨rfl, ⟨nd, rfl⟩⟩; refine ⟨_, rfl, ?_⟩) | (go_at_call 101; (with_reducible refine (spec_l2Units.calls k _ _ l0 false _ ?side1 ?side2 A5.out).mono ?_); (case side1 => repeat (first | exact (Kd.C_below HR0.out (by repeat (first | (with_reducible first | exact HB.out | apply below_alloc | apply pw_below_drewN | apply below_drew1) | exact HB.out))) | (with_reducible refine Kd.C_alloc ?_ _) | (with_reducible refine Kd.C_drewN ?_ _) | (with_reducible refine Kd.C_drew ?_))); (case side2 => exact HC0.out); rintro e w' ⟨rfl, ⟨nd, rfl⟩⟩))
        go_meet
        case rel => exact ⟨_, (true), (by first | rfl | (simp; done) | (simp [*]; done)), H', ⟨by first | omega | exact Nat.le_refl _⟩, ⟨by repeat (first | (with_reducible first | exact HB.out | apply below_alloc | apply pw_below_drewN | apply below_drew1) | exact HB.out)⟩⟩
    · replace c4 := Bool.eq_false_iff.mpr c4
      subst c4
      have H1 : (spec_SystemIn.j0 k l0 true) = some r := by rw [if_neg (show ¬ (false = true) by decide)] at H; exact H
      clear H
      have H := H1
      clear H1
      have H' := Aside0.mk H
      clear H
      go_wp2_with (first | ((with_reducible refine gate_callee (f := 75) rfl ?_); refine goesL_ (some 6) rfl rfl Try.func75 (by kernel_rfl) rfl #[.slice A0 l0.length c0] rfl (by (try simp only [List.map_toArray, List.map_cons, List.map_nil]); first | done | rfl | (simp only [List.length_drop, List.length_take]; rfl)) ?_; (with_reducible refine (spec_l2Table.calls k _ _ l0 false _ ?side1 ?side2 A3.out).mono ?_); (case side1 => repeat (first | exact (Kd.C_below HR0.out HB.out) | (with_reducible refine Kd.C_alloc ?_ _) | (with_reducible refine Kd.C_drewN ?_ _) | (with_reducible refine Kd.C_drew ?_))); (case side2 => exact HC0.out); rintro e w' ⟨rfl, ⟨nd, rfl⟩⟩; refine ⟨_, rfl, ?_⟩))
      go_meet
      case rel => exact ⟨_, (true), (by first | rfl | (simp; done) | (simp [*]; done)), H', ⟨by first | omega | exact Nat.le_refl _⟩, ⟨by repeat (first | (with_reducible first | exact HB.out | apply below_alloc | apply pw_below_drewN | apply below_drew1) | exact HB.out)⟩⟩
  case rest =>
    clear HC2
    try clear p2
    try clear c4
    try clear c5
    try clear c6
    try clear c7
    obtain ⟨kq, x17_1, rfl, HA, HJ1, HB⟩ := hcut
    cases kq with
    | zero => exact absurd HA.out (by simp [spec_SystemIn.j0])
    | succ kj1 =>
      have H := HA.out
      clear HA
      simp only [spec_SystemIn.j0] at H
      by_cases c8 : x17_1 = true
      · subst c8
        have H1 : (some false) = some r := by rw [if_pos rfl] at H; exact H
        clear H
        have H := H1
        clear H1
        obtain rfl := Option.some.inj H
        go_wp2
        go_ret
        exact ⟨by first | rfl | (simp [errW_none, errW_some] <;> rfl) | (simp [*, errW_none, errW_some] <;> rfl), by repeat (first | (with_reducible first | exact HB.out | apply below_alloc | apply pw_below_drewN | apply below_drew1) | exact HB.out)⟩
      · replace c8 := Bool.eq_false_iff.mpr c8
        subst c8
        have H1 : (spec_SystemIn.l0 kj1 l0 0) = some r := by rw [if_neg (show ¬ (false = true) by decide)] at H; exact H
        clear H
        have H := H1
        clear H1
        have H' := Aside0.mk H
        clear H
        go_wp2
        go_loopg [3] kj1 (fun kq v3 w' => ∃ (x3_2 : Int), v3 = .int .i64 x3_2 ∧ Aside0 (spec_SystemIn.l0 kq l0 x3_2 = some r) ∧ Aside0 (kq ≤ kj1) ∧ Aside0 (Below w.heap.size w w'))
        case atStart => exact ⟨(0), (by first | rfl | (simp; done) | (simp [*]; done)), H', ⟨Nat.le_refl _⟩, ⟨by repeat (first | (with_reducible first | exact HB.out | apply below_alloc | apply pw_below_drewN | apply below_drew1) | exact HB.out)⟩⟩
        case round =>
          clear H'
          try clear p2
          try clear c4
          try clear c5
          try clear c6
          try clear c7
          try clear c8
          try clear p2
          obtain ⟨x3_2, rfl, HA, HK2, HB⟩ := hrel
          cases gk with
          | zero => exact absurd HA.out (by simp [spec_SystemIn.l0])
          | succ k2 =>
            have H := HA.out
            clear HA
            simp only [spec_SystemIn.l0] at H
            by_cases c9 : x3_2 < 9
            · rw [if_pos c9] at H
              have c9b0 : decide (x3_2 < 9) = true := decide_eq_true c9
              clear c9
              have H' := Aside0.mk H
              clear H
              go_wp2
              go_loopg [4] k2 (fun kq v4 w' => ∃ (x4_3 : Int), v4 = .int .i64 x4_3 ∧ Aside0 (spec_SystemIn.l1 kq l0 x3_2 x4_3 = some r) ∧ Aside0 (kq ≤ k2) ∧ Aside0 (Below w.heap.size w w'))
              case atStart => exact ⟨(0), (by first | rfl | (simp; done) | (simp [*]; done)), H', ⟨Nat.le_refl _⟩, ⟨by repeat (first | (with_reducible first | exact HB.out | apply below_alloc | apply pw_below_drewN | apply below_drew1) | exact HB.out)⟩⟩
              case round =>
                clear H'
                try clear p2
                try clear c4
                try clear c5
                try clear c6
                try clear c7
                try clear c8
                try clear c9
                try clear c9b0
                try clear p2
                obtain ⟨x4_3, rfl, HA, HK3, HB⟩ := hrel
                cases gk with
                | zero => exact absurd HA.out (by simp [spec_SystemIn.l1])
                | succ k3 =>
                  have H := HA.out
                  clear HA
                  simp only [spec_SystemIn.l1] at H
                  by_cases c10 : x4_3 < x3_2
                  · rw [if_pos c10] at H
                    have c10b0 : decide (x4_3 < x3_2) = true := decide_eq_true c10
                    clear c10
                    replace H := Option.bind_eq_some_iff.mp H
                    obtain ⟨t185, A110, H⟩ := H
                    replace H : (if t185 = true then (spec_SystemIn.l1 k3 l0 x3_2 (wrap64 (x4_3 + 1))) else (some false)) = some r := H
                    have A11 := Aside0.mk A110
                    clear A110
                    by_cases c12 : t185 = true
                    · subst c12
                      have H1 : (spec_SystemIn.l1 k3 l0 x3_2 (wrap64 (x4_3 + 1))) = some r := by rw [if_pos rfl] at H; exact H
                      clear H
                      have H := H1
                      clear H1
                      have H' := Aside0.mk H
                      clear H
                      go_wp2_with (first | ((with_reducible refine gate_callee (f := 103) rfl ?_); refine goesL_ (some 30) rfl rfl Try.func103 (by kernel_rfl) rfl #[.slice A0 l0.length c0, .int .i64 x3_2, .int .i64 x4_3] rfl (by (try simp only [List.map_toArray, List.map_cons, List.map_nil]); first | done | rfl | (simp only [List.length_drop, List.length_take]; rfl)) ?_; (with_reducible refine (spec_l2Solves.calls _ _ l0 x3_2 x4_3 true _ ?side1 ?side2 A11.out).mono ?_); (case side1 => repeat (first | exact (Kd.C_below HR0.out HB.out) | (with_reducible refine Kd.C_alloc ?_ _) | (with_reducible refine Kd.C_drewN ?_ _) | (with_reducible refine Kd.C_drew ?_))); (case side2 => exact HC0.out); rintro e w13 ⟨rfl, hb⟩; refine ⟨_, rfl, ?_⟩; have n0_ := Aside0.mk (below_step (by repeat (first | (with_reducible first | exact HB.out | apply below_alloc | apply pw_below_drewN | apply below_drew1) | exact HB.out)) hb); clear HB; have HB := n0_; clear n0_; (try clear hb); (try clear hb2); (try clear hk); (try clear hi)))
                      go_roundg k3
                      case measure => have := HJ1.out; have := HK2.out; have := HK3.out; omega
                      case rel => exact ⟨(wrap64 (x4_3 + 1)), (by first | rfl | (simp; done) | (simp [*]; done)), H', ⟨by have := HJ1.out; have := HK2.out; have := HK3.out; omega⟩, ⟨by repeat (first | (with_reducible first | exact HB.out | apply below_alloc | apply pw_below_drewN | apply below_drew1) | exact HB.out)⟩⟩
                    · replace c12 := Bool.eq_false_iff.mpr c12
                      subst c12
                      have H1 : (some false) = some r := by rw [if_neg (show ¬ (false = true) by decide)] at H; exact H
                      clear H
                      have H := H1
                      clear H1
                      obtain rfl := Option.some.inj H
                      go_wp2_with (first | ((with_reducible refine gate_callee (f := 103) rfl ?_); refine goesL_ (some 30) rfl rfl Try.func103 (by kernel_rfl) rfl #[.slice A0 l0.length c0, .int .i64 x3_2, .int .i64 x4_3] rfl (by (try simp only [List.map_toArray, List.map_cons, List.map_nil]); first | done | rfl | (simp only [List.length_drop, List.length_take]; rfl)) ?_; (with_reducible refine (spec_l2Solves.calls _ _ l0 x3_2 x4_3 false _ ?side1 ?side2 A11.out).mono ?_); (case side1 => repeat (first | exact (Kd.C_below HR0.out HB.out) | (with_reducible refine Kd.C_alloc ?_ _) | (with_reducible refine Kd.C_drewN ?_ _) | (with_reducible refine Kd.C_drew ?_))); (case side2 => exact HC0.out); rintro e w14 ⟨rfl, hb⟩; refine ⟨_, rfl, ?_⟩; have n0_ := Aside0.mk (below_step (by repeat (first | (with_reducible first | exact HB.out | apply below_alloc | apply pw_below_drewN | apply below_drew1) | exact HB.out)) hb); clear HB; have HB := n0_; clear n0_; (try clear hb); (try clear hb2); (try clear hk); (try clear hi)))
                      go_ret
                      exact ⟨by first | rfl | (simp [errW_none, errW_some] <;> rfl) | (simp [*, errW_none, errW_some] <;> rfl), by repeat (first | (with_reducible first | exact HB.out | apply below_alloc | apply pw_below_drewN | apply below_drew1) | exact HB.out)⟩
                  · rw [if_neg c10] at H
                    have c10b0 : decide (x4_3 < x3_2) = false := decide_eq_false c10
                    clear c10
                    have H' := Aside0.mk H
                    clear H
                    go_wp2
                    go_roundg k3
                    case measure => have := HJ1.out; have := HK2.out; have := HK3.out; omega
                    case rel => exact ⟨(wrap64 (x3_2 + 1)), (by first | rfl | (simp; done) | (simp [*]; done)), H', ⟨by have := HJ1.out; have := HK2.out; have := HK3.out; omega⟩, ⟨by repeat (first | (with_reducible first | exact HB.out | apply below_alloc | apply pw_below_drewN | apply below_drew1) | exact HB.out)⟩⟩
            · rw [if_neg c9] at H
              have c9b0 : decide (x3_2 < 9) = false := decide_eq_false c9
              clear c9
              obtain rfl := Option.some.inj H
              go_wp2
              go_ret
              exact ⟨by first | rfl | (simp [errW_none, errW_some] <;> rfl) | (simp [*, errW_none, errW_some] <;> rfl), by repeat (first | (with_reducible first | exact HB.out | apply below_alloc | apply pw_below_drewN | apply below_drew1) | exact HB.out)⟩

end Go.Proofs.Ytfoadgbffidgaaa.P

namespace Go.Proofs.Ytfoadgbffidgaaa.P
open Go.RowKit Go.Proofs.YtfoadgbffidgaaaW.PrintWords Go.Proofs.YtfoadgbffidgaaaW.PrintLast Go.Proofs.YtfoadgbffidgaaaW.PrintMore
attribute [local go_sem] max2_int min2_int max_two min_two max_three min_three max_four min_four   -- for this text's walks alone
set_option linter.unusedVariables false
set_option linter.unusedSimpArgs false

/-! ### spec_l3On: function 94 -/
def spec_l3On.f (l0 : List Int) (a1 : Int) (a2 : Int) : Option (Bool) := if a2 = 90 then (some (decide (a1 ≥ 81))) else (if a2 ≥ 81 then (if a1 = 90 then (some true) else (if a1 < 81 then (some ((wrap64 (Int.tdiv a1 9)) == (wrap64 (a2 - 81)))) else (some false))) else (if a1 ≥ 81 then (some ((wrap64 (a1 - 81)) == (wrap64 (Int.tdiv a2 9)))) else (if 0 ≤ (wrap64 ((wrap64 ((wrap64 (Int.tdiv a1 9)) * 9)) + (wrap64 (Int.tdiv a2 9)))) then (if (wrap64 ((wrap64 ((wrap64 (Int.tdiv a1 9)) * 9)) + (wrap64 (Int.tdiv a2 9)))) < (l0.length : Int) then ((spec_l1Add.f (rd l0 (wrap64 ((wrap64 ((wrap64 (Int.tdiv a1 9)) * 9)) + (wrap64 (Int.tdiv a2 9))))) (Int.tmod a2 9)).bind fun t499 => (some ((Int.tmod a1 9) == t499))) else (none)) else (none))))
set_option maxHeartbeats 8000000 in
set_option maxRecDepth 100000 in
theorem spec_l3On.calls (A0 : Option Addr) (c0 : Nat) (l0 : List Int) (a1 : Int) (a2 : Int) (r : Bool) (w : World) (hr0 : Kd.C (Kd.int .i64) w A0 l0.length l0) (hc0 : l0.length ≤ c0) (h : spec_l3On.f l0 a1 a2 = some r) :
    Calls Try.prog 94 #[.slice A0 l0.length c0, .int .i64 a1, .int .i64 a2] w fun e w' => e = .returned (.bool r) ∧ Drawn0 w w' := by
  have HR0 := Aside0.mk hr0
  have HC0 := Aside0.mk hc0
  clear hr0 hc0
  have H : (if a2 = 90 then (some (decide (a1 ≥ 81))) else (if a2 ≥ 81 then (if a1 = 90 then (some true) else (if a1 < 81 then (some ((wrap64 (Int.tdiv a1 9)) == (wrap64 (a2 - 81)))) else (some false))) else (if a1 ≥ 81 then (some ((wrap64 (a1 - 81)) == (wrap64 (Int.tdiv a2 9)))) else (if 0 ≤ (wrap64 ((wrap64 ((wrap64 (Int.tdiv a1 9)) * 9)) + (wrap64 (Int.tdiv a2 9)))) then (if (wrap64 ((wrap64 ((wrap64 (Int.tdiv a1 9)) * 9)) + (wrap64 (Int.tdiv a2 9)))) < (l0.length : Int) then ((spec_l1Add.f (rd l0 (wrap64 ((wrap64 ((wrap64 (Int.tdiv a1 9)) * 9)) + (wrap64 (Int.tdiv a2 9))))) (Int.tmod a2 9)).bind fun t499 => (some ((Int.tmod a1 9) == t499))) else (none)) else (none))))) = some r := h
  clear h
  by_cases c4 : a2 = 90
  · rw [if_pos c4] at H
    have c4b0 : (a2 == 90) = true := beq_iff_eq.mpr c4
    have c4b1 : (a2 != 90) = false := bne_eq_false_iff_eq.mpr c4
    clear c4
    obtain rfl := Option.some.inj H
    go_enter Try.func94, Try.ntmps94
    go_wp2
    go_ret
    exact ⟨by first | rfl | (simp; done) | (simp [*]; done), by repeat (first | exact Drawn0.refl _ | apply Drawn0.step)⟩
  · rw [if_neg c4] at H
    have c4b0 : (a2 == 90) = false := beq_eq_false_iff_ne.mpr c4
    have c4b1 : (a2 != 90) = true := bne_iff_ne.mpr c4
    by_cases c5 : a2 ≥ 81
    · rw [if_pos c5] at H
      have c5b0 : decide (81 ≤ a2) = true := decide_eq_true c5
      clear c5
      by_cases c6 : a1 = 90
      · rw [if_pos c6] at H
        have c6b0 : (a1 == 90) = true := beq_iff_eq.mpr c6
        have c6b1 : (a1 != 90) = false := bne_eq_false_iff_eq.mpr c6
        clear c6
        obtain rfl := Option.some.inj H
        go_enter Try.func94, Try.ntmps94
        go_wp2
        go_ret
        exact ⟨by first | rfl | (simp; done) | (simp [*]; done), by repeat (first | exact Drawn0.refl _ | apply Drawn0.step)⟩
      · rw [if_neg c6] at H
        have c6b0 : (a1 == 90) = false := beq_eq_false_iff_ne.mpr c6
        have c6b1 : (a1 != 90) = true := bne_iff_ne.mpr c6
        by_cases c7 : a1 < 81
        · rw [if_pos c7] at H
          have c7b0 : decide (a1 < 81) = true := decide_eq_true c7
          clear c7
          obtain rfl := Option.some.inj H
          go_enter Try.func94, Try.ntmps94
          go_wp2
          go_ret
          exact ⟨by first | rfl | (simp; done) | (simp [*]; done), by repeat (first | exact Drawn0.refl _ | apply Drawn0.step)⟩
        · rw [if_neg c7] at H
          have c7b0 : decide (a1 < 81) = false := decide_eq_false c7
          clear c7
          obtain rfl := Option.some.inj H
          go_enter Try.func94, Try.ntmps94
          go_wp2
          go_ret
          exact ⟨by first | rfl | (simp; done) | (simp [*]; done), by repeat (first | exact Drawn0.refl _ | apply Drawn0.step)⟩
    · rw [if_neg c5] at H
      have c5b0 : decide (81 ≤ a2) = false := decide_eq_false c5
      clear c5
      by_cases c8 : a1 ≥ 81
      · rw [if_pos c8] at H
        have c8b0 : decide (81 ≤ a1) = true := decide_eq_true c8
        clear c8
        obtain rfl := Option.some.inj H
        go_enter Try.func94, Try.ntmps94
        go_wp2
        go_ret
        exact ⟨by first | rfl | (simp; done) | (simp [*]; done), by repeat (first | exact Drawn0.refl _ | apply Drawn0.step)⟩
      · rw [if_neg c8] at H
        have c8b0 : decide (81 ≤ a1) = false := decide_eq_false c8
        clear c8
        obtain ⟨ji9, hji9⟩ : ∃ j_ : Int, (wrap64 ((wrap64 ((wrap64 (Int.tdiv a1 9)) * 9)) + (wrap64 (Int.tdiv a2 9)))) = j_ := ⟨_, rfl⟩
        replace H : (if 0 ≤ (ji9) then (if (ji9) < (l0.length : Int) then ((spec_l1Add.f (rd l0 (ji9)) (Int.tmod a2 9)).bind fun t499 => (some ((Int.tmod a1 9) == t499))) else (none)) else (none)) = some r := by first | (rw [hji9] at H; exact H) | (simp only [hji9] at H ⊢; exact H)
        have hji9w : (IntKind.i64.wrap ((wrap64 ((wrap64 (Int.tdiv a1 9)) * 9)) + (wrap64 (Int.tdiv a2 9)))) = ji9 := (i64_w _).trans hji9
        by_cases c10 : 0 ≤ (ji9)
        · rw [if_pos c10] at H
          have c10b0 : decide (0 ≤ (ji9)) = true := decide_eq_true c10
          clear c10
          by_cases c11 : (ji9) < (l0.length : Int)
          · rw [if_pos c11] at H
            have c11b0 : decide ((ji9) < (l0.length : Int)) = true := decide_eq_true c11
            clear c11
            replace H := Option.bind_eq_some_iff.mp H
            obtain ⟨t499, A120, H⟩ := H
            replace H : (some ((Int.tmod a1 9) == t499)) = some r := H
            have A12 := Aside0.mk A120
            clear A120
            obtain rfl := Option.some.inj H
            have p498 : 0 ≤ ((ji9) : Int) := of_decide_eq_true (by first | (with_reducible assumption) | assumption)
            have q498 : (ji9) < (l0.length : Int) := of_decide_eq_true (by first | (with_reducible assumption) | assumption)
            obtain ⟨ad498, e498, hx498_0⟩ := Kd.at_int HR0.out (ji9) p498 q498
            cases e498
            replace p498 := eq_true p498
            replace q498 := eq_true q498
            go_enter Try.func94, Try.ntmps94
            go_wp2_with (first | ((with_reducible refine gate_callee (f := 85) rfl ?_); refine goesL_ (some 49) rfl rfl Try.func85 (by kernel_rfl) rfl #[.int .i64 (rd l0 (ji9)), .int .i64 (Int.tmod a2 9)] rfl (by (try simp only [List.map_toArray, List.map_cons, List.map_nil]); first | done | (simp only [hji9]; rfl) | rfl | (simp only [List.length_drop, List.length_take]; rfl)) ?_; (with_reducible refine (spec_l1Add.calls (rd l0 (ji9)) (Int.tmod a2 9) t499 _ A12.out).mono ?_); rintro e w' ⟨rfl, ⟨nd, rfl⟩⟩; refine ⟨_, rfl, ?_⟩))
            go_ret
            exact ⟨by first | rfl | (simp; done) | (simp only [← hji9] <;> (first | rfl | simp)) | (simp [*]; done), by repeat (first | exact Drawn0.refl _ | apply Drawn0.step)⟩
          · rw [if_neg c11] at H
            exact absurd H (by simp)
        · rw [if_neg c10] at H
          exact absurd H (by simp)

end Go.Proofs.Ytfoadgbffidgaaa.P

namespace Go.Proofs.Ytfoadgbffidgaaa.P
open Go.RowKit Go.Proofs.YtfoadgbffidgaaaW.PrintWords Go.Proofs.YtfoadgbffidgaaaW.PrintLast Go.Proofs.YtfoadgbffidgaaaW.PrintMore
attribute [local go_sem] max2_int min2_int max_two min_two max_three min_three max_four min_four   -- for this text's walks alone
set_option linter.unusedVariables false
set_option linter.unusedSimpArgs false

/-! ### spec_l3Join: function 126 -/
def spec_l3Join.l0 : Nat → List Int → Int → Int → Int → Option (Int)
  | 0, _, _, _, _ => none
  | k + 1, x0, x1, x2, x7 => if x7 < 91 then ((spec_l3On.f x0 x1 x7).bind fun t507 => (if t507 = true then ((spec_l3On.f x0 x2 x7).bind fun t508 => (if t508 = true then (some x7) else (spec_l3Join.l0 k x0 x1 x2 (wrap64 (x7 + 1))))) else (spec_l3Join.l0 k x0 x1 x2 (wrap64 (x7 + 1))))) else (some 0)
def spec_l3Join.f (k : Nat) (l0 : List Int) (a1 : Int) (a2 : Int) : Option (Int) := spec_l3Join.l0 k l0 a1 a2 0
theorem spec_l3Join.mono_l : ∀ k, (∀ y0 y1 y2 y3, LeO (spec_l3Join.l0 k y0 y1 y2 y3) (spec_l3Join.l0 (k + 1) y0 y1 y2 y3))
  | 0 => fun _ _ _ _ r h => by simp [spec_l3Join.l0] at h
  | k + 1 => by
    have ih0 := spec_l3Join.mono_l k
    · intro y0 y1 y2 y3
      unfold spec_l3Join.l0
      repeat' first
      | (with_reducible exact ih0 _ _ _ _)
      | (with_reducible exact LeO.refl _)
      | (with_reducible exact LeO.none _)
      | (with_reducible refine LeO.ite ?_ ?_)
      | (with_reducible refine LeO.bind ?_ (fun _ => ?_))
      | exact ih0 _ _ _ _
      | exact LeO.none _
      | refine LeO.ite ?_ ?_
      | refine LeO.bind ?_ (fun _ => ?_)
theorem spec_l3Join.mono : ∀ a0 a1 a2 k, LeO (spec_l3Join.f k a0 a1 a2) (spec_l3Join.f (k + 1) a0 a1 a2) := by
  intro a0 a1 a2 k
  have ih0 := spec_l3Join.mono_l k
  unfold spec_l3Join.f
  repeat' first
      | (with_reducible exact ih0 _ _ _ _)
      | (with_reducible exact LeO.refl _)
      | (with_reducible exact LeO.none _)
      | (with_reducible refine LeO.ite ?_ ?_)
      | (with_reducible refine LeO.bind ?_ (fun _ => ?_))
      | exact ih0 _ _ _ _
      | exact LeO.none _
      | refine LeO.ite ?_ ?_
      | refine LeO.bind ?_ (fun _ => ?_)
set_option maxHeartbeats 8000000 in
set_option maxRecDepth 100000 in
theorem spec_l3Join.calls (k : Nat) (A0 : Option Addr) (c0 : Nat) (l0 : List Int) (a1 : Int) (a2 : Int) (r : Int) (w : World) (hr0 : Kd.C (Kd.int .i64) w A0 l0.length l0) (hc0 : l0.length ≤ c0) (h : spec_l3Join.f k l0 a1 a2 = some r) :
    Calls Try.prog 126 #[.slice A0 l0.length c0, .int .i64 a1, .int .i64 a2] w fun e w' => e = .returned (.int .i64 r) ∧ Drawn0 w w' := by
  have HR0 := Aside0.mk hr0
  have HC0 := Aside0.mk hc0
  clear hr0 hc0
  have H : (spec_l3Join.l0 k l0 a1 a2 0) = some r := h
  clear h
  have H' := Aside0.mk H
  clear H
  go_enter Try.func126, Try.ntmps126
  go_wp2
  go_loopg [7] k (fun kq v7 w' => ∃ (x7_1 : Int), v7 = .int .i64 x7_1 ∧ Aside0 (spec_l3Join.l0 kq l0 a1 a2 x7_1 = some r) ∧ Aside0 (kq ≤ k) ∧ Drawn0 w w')
  case atStart => exact ⟨(0), (by first | rfl | (simp; done) | (simp [*]; done)), H', ⟨Nat.le_refl _⟩, by repeat (first | exact Drawn0.refl _ | apply Drawn0.step)⟩
  case round =>
    clear H'
    try clear c1
    try clear p2
    obtain ⟨x7_1, rfl, HA, HK1, ⟨m1, rfl⟩⟩ := hrel
    cases gk with
    | zero => exact absurd HA.out (by simp [spec_l3Join.l0])
    | succ k1 =>
      have H := HA.out
      clear HA
      simp only [spec_l3Join.l0] at H
      by_cases c4 : x7_1 < 91
      · rw [if_pos c4] at H
        have c4b0 : decide (x7_1 < 91) = true := decide_eq_true c4
        clear c4
        replace H := Option.bind_eq_some_iff.mp H
        obtain ⟨t507, A50, H⟩ := H
        replace H : (if t507 = true then ((spec_l3On.f l0 a2 x7_1).bind fun t508 => (if t508 = true then (some x7_1) else (spec_l3Join.l0 k1 l0 a1 a2 (wrap64 (x7_1 + 1))))) else (spec_l3Join.l0 k1 l0 a1 a2 (wrap64 (x7_1 + 1)))) = some r := H
        have A5 := Aside0.mk A50
        clear A50
        by_cases c6 : t507 = true
        · subst c6
          have H1 : ((spec_l3On.f l0 a2 x7_1).bind fun t508 => (if t508 = true then (some x7_1) else (spec_l3Join.l0 k1 l0 a1 a2 (wrap64 (x7_1 + 1))))) = some r := by rw [if_pos rfl] at H; exact H
          clear H
          have H := H1
          clear H1
          replace H := Option.bind_eq_some_iff.mp H
          obtain ⟨t508, A70, H⟩ := H
          replace H : (if t508 = true then (some x7_1) else (spec_l3Join.l0 k1 l0 a1 a2 (wrap64 (x7_1 + 1)))) = some r := H
          have A7 := Aside0.mk A70
          clear A70
          by_cases c8 : t508 = true
          · subst c8
            have H1 : (some x7_1) = some r := by rw [if_pos rfl] at H; exact H
            clear H
            have H := H1
            clear H1
            obtain rfl := Option.some.inj H
            go_wp2_with (first | ((with_reducible refine gate_callee (f := 94) rfl ?_); refine goesL_ (some 15) rfl rfl Try.func94 (by kernel_rfl) rfl #[.slice A0 l0.length c0, .int .i64 a1, .int .i64 x7_1] rfl (by (try simp only [List.map_toArray, List.map_cons, List.map_nil]); first | done | rfl | (simp only [List.length_drop, List.length_take]; rfl)) ?_; (with_reducible refine (spec_l3On.calls _ _ l0 a1 x7_1 true _ ?side1 ?side2 A5.out).mono ?_); (case side1 => repeat (first | exact HR0.out | (with_reducible refine Kd.C_alloc ?_ _) | (with_reducible refine Kd.C_drewN ?_ _) | (with_reducible refine Kd.C_drew ?_))); (case side2 => exact HC0.out); rintro e w' ⟨rfl, ⟨nd, rfl⟩⟩; refine ⟨_, rfl, ?_⟩) | (go_at_call 94; (with_reducible refine (spec_l3On.calls _ _ l0 a2 x7_1 true _ ?side1 ?side2 A7.out).mono ?_); (case side1 => repeat (first | exact HR0.out | (with_reducible refine Kd.C_alloc ?_ _) | (with_reducible refine Kd.C_drewN ?_ _) | (with_reducible refine Kd.C_drew ?_))); (case side2 => exact HC0.out); rintro e w' ⟨rfl, ⟨nd, rfl⟩⟩))
            go_ret
            exact ⟨by first | rfl | (simp; done) | (simp [*]; done), by repeat (first | exact Drawn0.refl _ | apply Drawn0.step)⟩
          · replace c8 := Bool.eq_false_iff.mpr c8
            subst c8
            have H1 : (spec_l3Join.l0 k1 l0 a1 a2 (wrap64 (x7_1 + 1))) = some r := by rw [if_neg (show ¬ (false = true) by decide)] at H; exact H
            clear H
            have H := H1
            clear H1
            have H' := Aside0.mk H
            clear H
            go_wp2_with (first | ((with_reducible refine gate_callee (f := 94) rfl ?_); refine goesL_ (some 15) rfl rfl Try.func94 (by kernel_rfl) rfl #[.slice A0 l0.length c0, .int .i64 a1, .int .i64 x7_1] rfl (by (try simp only [List.map_toArray, List.map_cons, List.map_nil]); first | done | rfl | (simp only [List.length_drop, List.length_take]; rfl)) ?_; (with_reducible refine (spec_l3On.calls _ _ l0 a1 x7_1 true _ ?side1 ?side2 A5.out).mono ?_); (case side1 => repeat (first | exact HR0.out | (with_reducible refine Kd.C_alloc ?_ _) | (with_reducible refine Kd.C_drewN ?_ _) | (with_reducible refine Kd.C_drew ?_))); (case side2 => exact HC0.out); rintro e w' ⟨rfl, ⟨nd, rfl⟩⟩; refine ⟨_, rfl, ?_⟩) | (go_at_call 94; (with_reducible refine (spec_l3On.calls _ _ l0 a2 x7_1 false _ ?side1 ?side2 A7.out).mono ?_); (case side1 => repeat (first | exact HR0.out | (with_reducible refine Kd.C_alloc ?_ _) | (with_reducible refine Kd.C_drewN ?_ _) | (with_reducible refine Kd.C_drew ?_))); (case side2 => exact HC0.out); rintro e w' ⟨rfl, ⟨nd, rfl⟩⟩))
            go_roundg k1
            case measure => have := HK1.out; omega
            case rel => exact ⟨(wrap64 (x7_1 + 1)), (by first | rfl | (simp; done) | (simp [*]; done)), H', ⟨by have := HK1.out; omega⟩, by repeat (first | exact Drawn0.refl _ | apply Drawn0.step)⟩
        · replace c6 := Bool.eq_false_iff.mpr c6
          subst c6
          have H1 : (spec_l3Join.l0 k1 l0 a1 a2 (wrap64 (x7_1 + 1))) = some r := by rw [if_neg (show ¬ (false = true) by decide)] at H; exact H
          clear H
          have H := H1
          clear H1
          have H' := Aside0.mk H
          clear H
          go_wp2_with (first | ((with_reducible refine gate_callee (f := 94) rfl ?_); refine goesL_ (some 15) rfl rfl Try.func94 (by kernel_rfl) rfl #[.slice A0 l0.length c0, .int .i64 a1, .int .i64 x7_1] rfl (by (try simp only [List.map_toArray, List.map_cons, List.map_nil]); first | done | rfl | (simp only [List.length_drop, List.length_take]; rfl)) ?_; (with_reducible refine (spec_l3On.calls _ _ l0 a1 x7_1 false _ ?side1 ?side2 A5.out).mono ?_); (case side1 => repeat (first | exact HR0.out | (with_reducible refine Kd.C_alloc ?_ _) | (with_reducible refine Kd.C_drewN ?_ _) | (with_reducible refine Kd.C_drew ?_))); (case side2 => exact HC0.out); rintro e w' ⟨rfl, ⟨nd, rfl⟩⟩; refine ⟨_, rfl, ?_⟩))
          go_roundg k1
          case measure => have := HK1.out; omega
          case rel => exact ⟨(wrap64 (x7_1 + 1)), (by first | rfl | (simp; done) | (simp [*]; done)), H', ⟨by have := HK1.out; omega⟩, by repeat (first | exact Drawn0.refl _ | apply Drawn0.step)⟩
      · rw [if_neg c4] at H
        have c4b0 : decide (x7_1 < 91) = false := decide_eq_false c4
        clear c4
        obtain rfl := Option.some.inj H
        go_wp2
        go_ret
        exact ⟨by first | rfl | (simp; done) | (simp [*]; done), by repeat (first | exact Drawn0.refl _ | apply Drawn0.step)⟩

end Go.Proofs.Ytfoadgbffidgaaa.P

namespace Go.Proofs.Ytfoadgbffidgaaa.P
open Go.RowKit Go.Proofs.YtfoadgbffidgaaaW.PrintWords Go.Proofs.YtfoadgbffidgaaaW.PrintLast Go.Proofs.YtfoadgbffidgaaaW.PrintMore
attribute [local go_sem] max2_int min2_int max_two min_two max_three min_three max_four min_four   -- for this text's walks alone
set_option linter.unusedVariables false
set_option linter.unusedSimpArgs false

/-! ### spec_l3Points: function 125 -/
def spec_l3Points.l0 : Nat → List Int → Int → List Int → Int → Option (List Int)
  | 0, _, _, _, _ => none
  | k + 1, x0, x1, x5, x6 => if x6 < 91 then ((spec_l3On.f x0 x6 x1).bind fun t503 => (if t503 = true then (if x5.length < 17592186044416 then (spec_l3Points.l0 k x0 x1 (x5 ++ [x6]) (wrap64 (x6 + 1))) else (none)) else (spec_l3Points.l0 k x0 x1 x5 (wrap64 (x6 + 1))))) else (some x5)
def spec_l3Points.f (k : Nat) (l0 : List Int) (a1 : Int) : Option (List Int) := spec_l3Points.l0 k l0 a1 (([] : List Int)) 0
theorem spec_l3Points.mono_l : ∀ k, (∀ y0 y1 y2 y3, LeO (spec_l3Points.l0 k y0 y1 y2 y3) (spec_l3Points.l0 (k + 1) y0 y1 y2 y3))
  | 0 => fun _ _ _ _ r h => by simp [spec_l3Points.l0] at h
  | k + 1 => by
    have ih0 := spec_l3Points.mono_l k
    · intro y0 y1 y2 y3
      unfold spec_l3Points.l0
      repeat' first
      | (with_reducible exact ih0 _ _ _ _)
      | (with_reducible exact LeO.refl _)
      | (with_reducible exact LeO.none _)
      | (with_reducible refine LeO.ite ?_ ?_)
      | (with_reducible refine LeO.bind ?_ (fun _ => ?_))
      | exact ih0 _ _ _ _
      | exact LeO.none _
      | refine LeO.ite ?_ ?_
      | refine LeO.bind ?_ (fun _ => ?_)
theorem spec_l3Points.mono : ∀ a0 a1 k, LeO (spec_l3Points.f k a0 a1) (spec_l3Points.f (k + 1) a0 a1) := by
  intro a0 a1 k
  have ih0 := spec_l3Points.mono_l k
  unfold spec_l3Points.f
  repeat' first
      | (with_reducible exact ih0 _ _ _ _)
      | (with_reducible exact LeO.refl _)
      | (with_reducible exact LeO.none _)
      | (with_reducible refine LeO.ite ?_ ?_)
      | (with_reducible refine LeO.bind ?_ (fun _ => ?_))
      | exact ih0 _ _ _ _
      | exact LeO.none _
      | refine LeO.ite ?_ ?_
      | refine LeO.bind ?_ (fun _ => ?_)
set_option maxHeartbeats 8000000 in
set_option maxRecDepth 100000 in
theorem spec_l3Points.calls (k : Nat) (A0 : Option Addr) (c0 : Nat) (l0 : List Int) (a1 : Int) (r : List Int) (w : World) (hr0 : Kd.C (Kd.int .i64) w A0 l0.length l0) (hc0 : l0.length ≤ c0) (h : spec_l3Points.f k l0 a1 = some r) :
    Calls Try.prog 125 #[.slice A0 l0.length c0, .int .i64 a1] w fun e w' => ∃ v0_ : Value, e = .returned (v0_) ∧ Kd.R (Kd.int .i64) 3 w' w.heap.size (fun _ => True) v0_ r ∧ Below w.heap.size w w' := by
  have HR0 := Aside0.mk hr0
  have HC0 := Aside0.mk hc0
  clear hr0 hc0
  have HB := Aside0.mk (Below.refl w.heap.size w)
  have H : (spec_l3Points.l0 k l0 a1 (([] : List Int)) 0) = some r := h
  clear h
  obtain ⟨y500, hy500⟩ : ∃ y_ : List Int, y_ = (([] : List Int)) := ⟨_, rfl⟩
  replace H : (spec_l3Points.l0 k l0 a1 y500 0) = some r := by first | (rw [hy500]; with_reducible exact H) | (have H2_ := (Option.bind_some _ _).symm.trans H; rw [hy500]; with_reducible exact H2_) | (have H2_ := (Option.bind_some _ _).symm.trans H; with_reducible exact H2_) | with_reducible exact H | (rw [hy500]; exact H) | exact H
  have Ny500 := Aside0.mk hy500
  clear hy500
  have H' := Aside0.mk H
  clear H
  go_enter Try.func125, Try.ntmps125
  go_wp2_with (first | ((with_reducible refine gate_dst (N := 7) rfl ?_); refine Kd.R_lit (Kd.int .i64) _ 3 ?hg (N := 7) ?hd (xs := ([] : List Int)) (inner := []) (ok := fun _ => True) (okp := fun _ => True) ?hr ?hp (fun _ hk => hk) trivial (Below.refl _ _) (Nat.le_refl _) (by simp) ?_; (case hd => rfl); (case hg => rfl); (case hr => first | (go_simp; done) | (go_simp; rfl)); (case hp => exact (Reps.none _ _)); intro v501 w3 ho4 hb hg_ hnew_; clear hg_ hnew_; (first | rw [← Ny500.out] at ho4 | (simp only [Int.reduceToNat] at ho4; rw [← Ny500.out] at ho4)); have n0_ := Aside0.mk (Kd.R_lower ho4 (below_size (by repeat (first | (with_reducible first | exact HB.out | apply below_alloc | apply pw_below_drewN | apply below_drew1) | exact HB.out)))); have n1_ := Aside0.mk (below_step (by repeat (first | (with_reducible first | exact HB.out | apply below_alloc | apply pw_below_drewN | apply below_drew1) | exact HB.out)) hb); clear HB; have HO502 := n0_; have HB := n1_; clear n0_ n1_; clear hb ho4))
  go_loopg [5, 6] k (fun kq v5 v6 w' => ∃ (x5_1 : List Int) (x6_1 : Int), v6 = .int .i64 x6_1 ∧ Aside0 (spec_l3Points.l0 kq l0 a1 x5_1 x6_1 = some r) ∧ Aside0 (kq ≤ k) ∧ Aside0 (Kd.R (Kd.int .i64) 3 w' w.heap.size (fun _ => True) v5 x5_1) ∧ Aside0 (Below w.heap.size w w'))
  case atStart => exact ⟨(y500), (0), (by first | rfl | (simp; done) | (simp [*]; done)), H', ⟨Nat.le_refl _⟩, ⟨by (with_reducible repeat (first | apply Kd.R_alloc | apply Kd.R_drewN | apply Kd.R_drew)); exact HO502.out⟩, ⟨by repeat (first | (with_reducible first | exact HB.out | apply below_alloc | apply pw_below_drewN | apply below_drew1) | exact HB.out)⟩⟩
  case round =>
    clear H'
    try clear c1
    try clear p2
    obtain ⟨x5_1, x6_1, rfl, HA, HK1, HO_5, HB⟩ := hrel
    cases gk with
    | zero => exact absurd HA.out (by simp [spec_l3Points.l0])
    | succ k1 =>
      have H := HA.out
      clear HA
      simp only [spec_l3Points.l0] at H
      by_cases c5 : x6_1 < 91
      · rw [if_pos c5] at H
        have c5b0 : decide (x6_1 < 91) = true := decide_eq_true c5
        clear c5
        replace H := Option.bind_eq_some_iff.mp H
        obtain ⟨t503, A60, H⟩ := H
        replace H : (if t503 = true then (if x5_1.length < 17592186044416 then (spec_l3Points.l0 k1 l0 a1 (x5_1 ++ [x6_1]) (wrap64 (x6_1 + 1))) else (none)) else (spec_l3Points.l0 k1 l0 a1 x5_1 (wrap64 (x6_1 + 1)))) = some r := H
        have A6 := Aside0.mk A60
        clear A60
        by_cases c7 : t503 = true
        · subst c7
          have H1 : (if x5_1.length < 17592186044416 then (spec_l3Points.l0 k1 l0 a1 (x5_1 ++ [x6_1]) (wrap64 (x6_1 + 1))) else (none)) = some r := by rw [if_pos rfl] at H; exact H
          clear H
          have H := H1
          clear H1
          by_cases c8 : x5_1.length < 17592186044416
          · rw [if_pos c8] at H
            have LMc8 := Aside0.mk c8
            clear c8
            obtain ⟨y504, hy504⟩ : ∃ y_ : List Int, y_ = (x5_1 ++ [x6_1]) := ⟨_, rfl⟩
            replace H : (spec_l3Points.l0 k1 l0 a1 y504 (wrap64 (x6_1 + 1))) = some r := by first | (rw [hy504]; with_reducible exact H) | (have H2_ := (Option.bind_some _ _).symm.trans H; rw [hy504]; with_reducible exact H2_) | (have H2_ := (Option.bind_some _ _).symm.trans H; with_reducible exact H2_) | with_reducible exact H | (rw [hy504]; exact H) | exact H
            have Ny504 := Aside0.mk hy504
            clear hy504
            have H' := Aside0.mk H
            clear H
            go_wp2_with (first | ((with_reducible refine gate_callee (f := 94) rfl ?_); refine goesL_ (some 15) rfl rfl Try.func94 (by kernel_rfl) rfl #[.slice A0 l0.length c0, .int .i64 x6_1, .int .i64 a1] rfl (by (try simp only [List.map_toArray, List.map_cons, List.map_nil]); first | done | rfl | (simp only [List.length_drop, List.length_take]; rfl)) ?_; (with_reducible refine (spec_l3On.calls _ _ l0 x6_1 a1 true _ ?side1 ?side2 A6.out).mono ?_); (case side1 => repeat (first | exact (Kd.C_below HR0.out HB.out) | (with_reducible refine Kd.C_alloc ?_ _) | (with_reducible refine Kd.C_drewN ?_ _) | (with_reducible refine Kd.C_drew ?_))); (case side2 => exact HC0.out); rintro e w' ⟨rfl, ⟨nd, rfl⟩⟩; refine ⟨_, rfl, ?_⟩) | ((with_reducible refine gate_builtin (b := .append) (xs := #[.tmp 16, .tmp 18]) rfl ?_); at_builtin; refine Kd.R_append (Kd.int .i64) (w0 := w) w.heap.size rfl (.tmp 16) (.tmp 18) 27 3 (.int .i64 0) 8 rfl Try.underlying27 info3 rfl (by decide) (by omega) u5 x5_1 x6_1 [.int .i64 x6_1] (fun _ => True) (fun _ => False) rfl rfl ?aP (fun _ hk => hk.elim) ?aF ?aO ?aB ?aS ?aL ?_; (case aP => exact rfl); (case aB => exact (by repeat (first | (with_reducible first | exact HB.out | apply below_alloc | apply pw_below_drewN | apply below_drew1) | exact HB.out))); (case aF => exact (fun _ _ => trivial)); (case aO => exact (by (with_reducible repeat (first | apply Kd.R_alloc | apply Kd.R_drewN | apply Kd.R_drew)); exact HO_5.out)); (case aS => exact (below_size (by repeat (first | (with_reducible first | exact HB.out | apply below_alloc | apply pw_below_drewN | apply below_drew1) | exact HB.out)))); (case aL => have := LMc8.out; omega); intro v505 w9 ho hb hg hat; rw [← Ny504.out] at ho; have n0_ := Aside0.mk (hb); have n1_ := Aside0.mk (ho); clear HB; clear HO_5; have HB := n0_; have HO506 := n1_; clear n0_ n1_; clear ho hb hg hat))
            go_roundg k1
            case measure => have := HK1.out; omega
            case rel => exact ⟨(y504), (wrap64 (x6_1 + 1)), (by first | rfl | (simp; done) | (simp [*]; done)), H', ⟨by have := HK1.out; omega⟩, ⟨by (with_reducible repeat (first | apply Kd.R_alloc | apply Kd.R_drewN | apply Kd.R_drew)); exact HO506.out⟩, ⟨by repeat (first | (with_reducible first | exact HB.out | apply below_alloc | apply pw_below_drewN | apply below_drew1) | exact HB.out)⟩⟩
          · rw [if_neg c8] at H
            exact absurd H (by simp)
        · replace c7 := Bool.eq_false_iff.mpr c7
          subst c7
          have H1 : (spec_l3Points.l0 k1 l0 a1 x5_1 (wrap64 (x6_1 + 1))) = some r := by rw [if_neg (show ¬ (false = true) by decide)] at H; exact H
          clear H
          have H := H1
          clear H1
          have H' := Aside0.mk H
          clear H
          go_wp2_with (first | ((with_reducible refine gate_callee (f := 94) rfl ?_); refine goesL_ (some 15) rfl rfl Try.func94 (by kernel_rfl) rfl #[.slice A0 l0.length c0, .int .i64 x6_1, .int .i64 a1] rfl (by (try simp only [List.map_toArray, List.map_cons, List.map_nil]); first | done | rfl | (simp only [List.length_drop, List.length_take]; rfl)) ?_; (with_reducible refine (spec_l3On.calls _ _ l0 x6_1 a1 false _ ?side1 ?side2 A6.out).mono ?_); (case side1 => repeat (first | exact (Kd.C_below HR0.out HB.out) | (with_reducible refine Kd.C_alloc ?_ _) | (with_reducible refine Kd.C_drewN ?_ _) | (with_reducible refine Kd.C_drew ?_))); (case side2 => exact HC0.out); rintro e w' ⟨rfl, ⟨nd, rfl⟩⟩; refine ⟨_, rfl, ?_⟩))
          go_roundg k1
          case measure => have := HK1.out; omega
          case rel => exact ⟨(x5_1), (wrap64 (x6_1 + 1)), (by first | rfl | (simp; done) | (simp [*]; done)), H', ⟨by have := HK1.out; omega⟩, ⟨by (with_reducible repeat (first | apply Kd.R_alloc | apply Kd.R_drewN | apply Kd.R_drew)); exact HO_5.out⟩, ⟨by repeat (first | (with_reducible first | exact HB.out | apply below_alloc | apply pw_below_drewN | apply below_drew1) | exact HB.out)⟩⟩
      · rw [if_neg c5] at H
        have c5b0 : decide (x6_1 < 91) = false := decide_eq_false c5
        clear c5
        obtain rfl := Option.some.inj H
        go_wp2
        go_ret
        exact ⟨_, by first | rfl | (simp [errW_none, errW_some] <;> rfl) | (simp [*, errW_none, errW_some] <;> rfl), by (with_reducible repeat (first | apply Kd.R_alloc | apply Kd.R_drewN | apply Kd.R_drew)); exact HO_5.out, by repeat (first | (with_reducible first | exact HB.out | apply below_alloc | apply pw_below_drewN | apply below_drew1) | exact HB.out)⟩

end Go.Proofs.Ytfoadgbffidgaaa.P

namespace Go.Proofs.Ytfoadgbffidgaaa.P
open Go.RowKit Go.Proofs.YtfoadgbffidgaaaW.PrintWords Go.Proofs.YtfoadgbffidgaaaW.PrintLast Go.Proofs.YtfoadgbffidgaaaW.PrintMore
attribute [local go_sem] max2_int min2_int max_two min_two max_three min_three max_four min_four   -- for this text's walks alone
set_option linter.unusedVariables false
set_option linter.unusedSimpArgs false

/-! ### spec_l5Line: function 87 -/
def spec_l5Line.l0 : Nat → List Int → List Int → List Int → Int → Int → Option (Int × Bool)
  | 0, _, _, _, _, _ => none
  | k + 1, x0, x1, x8, x9, x10 => if x10 < (x8.length : Int) then (if 0 ≤ x10 then (if 0 ≤ (rd x8 x10) then (if (rd x8 x10) < (x1.length : Int) then ((spec_l3On.f x0 (rd x1 (rd x8 x10)) x9).bind fun t519 => (if t519 = true then (spec_l5Line.l0 k x0 x1 x8 x9 (wrap64 (x10 + 1))) else (some (0, false)))) else (none)) else (none)) else (none)) else (some (x9, true))
def spec_l5Line.f (k : Nat) (l0 : List Int) (l1 : List Int) (a2 : Int) : Option (Int × Bool) := (spec_l3Points.f k l0 a2).bind fun t509 => (if 0 < (t509.length : Int) then (if 0 ≤ (rd t509 0) then (if (rd t509 0) < (l1.length : Int) then (if 1 < (t509.length : Int) then (if 0 ≤ (rd t509 1) then (if (rd t509 1) < (l1.length : Int) then ((spec_l3Join.f k l0 (rd l1 (rd t509 0)) (rd l1 (rd t509 1))).bind fun t516 => (spec_l5Line.l0 k l0 l1 t509 t516 2)) else (none)) else (none)) else (none)) else (none)) else (none)) else (none))
theorem spec_l5Line.mono_l : ∀ k, (∀ y0 y1 y2 y3 y4, LeO (spec_l5Line.l0 k y0 y1 y2 y3 y4) (spec_l5Line.l0 (k + 1) y0 y1 y2 y3 y4))
  | 0 => fun _ _ _ _ _ r h => by simp [spec_l5Line.l0] at h
  | k + 1 => by
    have ih0 := spec_l5Line.mono_l k
    · intro y0 y1 y2 y3 y4
      unfold spec_l5Line.l0
      repeat' first
      | (with_reducible exact ih0 _ _ _ _ _)
      | (with_reducible exact spec_l3Join.mono _ _ _ _)
      | (with_reducible exact spec_l3Points.mono _ _ _)
      | (with_reducible exact LeO.refl _)
      | (with_reducible exact LeO.none _)
      | (with_reducible refine LeO.ite ?_ ?_)
      | (with_reducible refine LeO.bind ?_ (fun _ => ?_))
      | exact ih0 _ _ _ _ _
      | exact spec_l3Join.mono _ _ _ _
      | exact spec_l3Points.mono _ _ _
      | exact LeO.none _
      | refine LeO.ite ?_ ?_
      | refine LeO.bind ?_ (fun _ => ?_)
theorem spec_l5Line.mono : ∀ a0 a1 a2 k, LeO (spec_l5Line.f k a0 a1 a2) (spec_l5Line.f (k + 1) a0 a1 a2) := by
  intro a0 a1 a2 k
  have ih0 := spec_l5Line.mono_l k
  unfold spec_l5Line.f
  repeat' first
      | (with_reducible exact ih0 _ _ _ _ _)
      | (with_reducible exact spec_l3Join.mono _ _ _ _)
      | (with_reducible exact spec_l3Points.mono _ _ _)
      | (with_reducible exact LeO.refl _)
      | (with_reducible exact LeO.none _)
      | (with_reducible refine LeO.ite ?_ ?_)
      | (with_reducible refine LeO.bind ?_ (fun _ => ?_))
      | exact ih0 _ _ _ _ _
      | exact spec_l3Join.mono _ _ _ _
      | exact spec_l3Points.mono _ _ _
      | exact LeO.none _
      | refine LeO.ite ?_ ?_
      | refine LeO.bind ?_ (fun _ => ?_)
set_option maxHeartbeats 8000000 in
set_option maxRecDepth 100000 in
theorem spec_l5Line.calls (k : Nat) (A0 : Option Addr) (c0 : Nat) (l0 : List Int) (A1 : Option Addr) (c1 : Nat) (l1 : List Int) (a2 : Int) (r1 : Int) (r2 : Bool) (w : World) (hr0 : Kd.C (Kd.int .i64) w A0 l0.length l0) (hc0 : l0.length ≤ c0) (hr1 : Kd.C (Kd.int .i64) w A1 l1.length l1) (hc1 : l1.length ≤ c1) (h : spec_l5Line.f k l0 l1 a2 = some (r1, r2)) :
    Calls Try.prog 87 #[.slice A0 l0.length c0, .slice A1 l1.length c1, .int .i64 a2] w fun e w' => e = .returned (.tuple #[.int .i64 r1, .bool r2]) ∧ Below w.heap.size w w' := by
  have HR0 := Aside0.mk hr0
  have HC0 := Aside0.mk hc0
  clear hr0 hc0
  have HR1 := Aside0.mk hr1
  have HC1 := Aside0.mk hc1
  clear hr1 hc1
  have HB := Aside0.mk (Below.refl w.heap.size w)
  have H : ((spec_l3Points.f k l0 a2).bind fun t509 => (if 0 < (t509.length : Int) then (if 0 ≤ (rd t509 0) then (if (rd t509 0) < (l1.length : Int) then (if 1 < (t509.length : Int) then (if 0 ≤ (rd t509 1) then (if (rd t509 1) < (l1.length : Int) then ((spec_l3Join.f k l0 (rd l1 (rd t509 0)) (rd l1 (rd t509 1))).bind fun t516 => (spec_l5Line.l0 k l0 l1 t509 t516 2)) else (none)) else (none)) else (none)) else (none)) else (none)) else (none))) = some (r1, r2) := h
  clear h
  replace H := Option.bind_eq_some_iff.mp H
  obtain ⟨t509, A40, H⟩ := H
  replace H : (if 0 < (t509.length : Int) then (if 0 ≤ (rd t509 0) then (if (rd t509 0) < (l1.length : Int) then (if 1 < (t509.length : Int) then (if 0 ≤ (rd t509 1) then (if (rd t509 1) < (l1.length : Int) then ((spec_l3Join.f k l0 (rd l1 (rd t509 0)) (rd l1 (rd t509 1))).bind fun t516 => (spec_l5Line.l0 k l0 l1 t509 t516 2)) else (none)) else (none)) else (none)) else (none)) else (none)) else (none)) = some (r1, r2) := H
  have A4 := Aside0.mk A40
  clear A40
  by_cases c5 : 0 < (t509.length : Int)
  · rw [if_pos c5] at H
    have c5b0 : decide (0 < (t509.length : Int)) = true := decide_eq_true c5
    have c5b1 : decide (0 < t509.length) = true := decide_eq_true (by omega)
    clear c5
    by_cases c6 : 0 ≤ (rd t509 0)
    · rw [if_pos c6] at H
      have c6b0 : decide (0 ≤ (rd t509 0)) = true := decide_eq_true c6
      clear c6
      by_cases c7 : (rd t509 0) < (l1.length : Int)
      · rw [if_pos c7] at H
        have c7b0 : decide ((rd t509 0) < (l1.length : Int)) = true := decide_eq_true c7
        clear c7
        by_cases c8 : 1 < (t509.length : Int)
        · rw [if_pos c8] at H
          have c8b0 : decide (1 < (t509.length : Int)) = true := decide_eq_true c8
          have c8b1 : decide (1 < t509.length) = true := decide_eq_true (by omega)
          clear c8
          by_cases c9 : 0 ≤ (rd t509 1)
          · rw [if_pos c9] at H
            have c9b0 : decide (0 ≤ (rd t509 1)) = true := decide_eq_true c9
            clear c9
            by_cases c10 : (rd t509 1) < (l1.length : Int)
            · rw [if_pos c10] at H
              have c10b0 : decide ((rd t509 1) < (l1.length : Int)) = true := decide_eq_true c10
              clear c10
              replace H := Option.bind_eq_some_iff.mp H
              obtain ⟨t516, A110, H⟩ := H
              replace H : (spec_l5Line.l0 k l0 l1 t509 t516 2) = some (r1, r2) := H
              have A11 := Aside0.mk A110
              clear A110
              have H' := Aside0.mk H
              clear H
              go_enter Try.func87, Try.ntmps87
              go_wp2_with (first | (go_at_call 125; (with_reducible refine (spec_l3Points.calls k _ _ l0 a2 t509 _ ?side1 ?side2 A4.out).mono ?_); (case side1 => repeat (first | exact HR0.out | (with_reducible refine Kd.C_alloc ?_ _) | (with_reducible refine Kd.C_drewN ?_ _) | (with_reducible refine Kd.C_drew ?_))); (case side2 => exact HC0.out); rintro e w12 ⟨v510, rfl, ho0, hb⟩; have n0_ := Aside0.mk (Kd.R_lower ho0 (below_size (by repeat (first | (with_reducible first | exact HB.out | apply below_alloc | apply pw_below_drewN | apply below_drew1) | exact HB.out)))); have n1_ := Aside0.mk (below_step (by repeat (first | (with_reducible first | exact HB.out | apply below_alloc | apply pw_below_drewN | apply below_drew1) | exact HB.out)) hb); clear HB; have HO511 := n0_; have HB := n1_; clear n0_ n1_; (try clear hb); (try clear hb2); (try clear hk); (try clear hi); (try clear ho0); obtain ⟨Ao13, co13, eo13⟩ := Kd.R_slice HO511.out; subst eo13; have p512 : 0 ≤ (0 : Int) := (by omega); have q512 : 0 < (t509.length : Int) := of_decide_eq_true (by first | (with_reducible assumption) | assumption); obtain ⟨ad512, e512, hx512_0⟩ := Kd.at_int (Kd.R_reads' HO511.out).2.2 0 p512 q512; cases e512; have qi512 : (0 < t509.length) = True := eq_true (by omega); (try rw [show ((0 : Int)).toNat = 0 from rfl] at hx512_0); (try rw [Addr.add_zero'] at hx512_0); replace p512 := eq_true p512; replace q512 := eq_true q512; have p513 : 0 ≤ ((rd t509 0) : Int) := of_decide_eq_true (by first | (with_reducible assumption) | assumption); have q513 : (rd t509 0) < (l1.length : Int) := of_decide_eq_true (by first | (with_reducible assumption) | assumption); obtain ⟨ad513, e513, hx513_0⟩ := Kd.at_int HR1.out (rd t509 0) p513 q513; cases e513; replace hx513_0 := (HB.out.cell (World.block_lt_of_cell? w _ hx513_0)).trans hx513_0; replace p513 := eq_true p513; replace q513 := eq_true q513; have p514 : 0 ≤ (1 : Int) := (by omega); have q514 : 1 < (t509.length : Int) := of_decide_eq_true (by first | (with_reducible assumption) | assumption); obtain ⟨ad514, e514, hx514_0⟩ := Kd.at_int (Kd.R_reads' HO511.out).2.2 1 p514 q514; obtain rfl : ad512 = ad514 := (by injection e514); (try simp only [show (1 : Int).toNat = 1 from rfl, Nat.reduceMul, Nat.reduceEqDiff, Go.Addr.add, ↓reduceIte] at hx514_0); have qi514 : (1 < t509.length) = True := eq_true (by omega); (try rw [show ((1 : Int)).toNat = 1 from rfl] at hx514_0); replace p514 := eq_true p514; replace q514 := eq_true q514; have p515 : 0 ≤ ((rd t509 1) : Int) := of_decide_eq_true (by first | (with_reducible assumption) | assumption); have q515 : (rd t509 1) < (l1.length : Int) := of_decide_eq_true (by first | (with_reducible assumption) | assumption); obtain ⟨ad515, e515, hx515_0⟩ := Kd.at_int HR1.out (rd t509 1) p515 q515; obtain rfl : ad513 = ad515 := (by injection e515); replace hx515_0 := (HB.out.cell (World.block_lt_of_cell? w _ hx515_0)).trans hx515_0; replace p515 := eq_true p515; replace q515 := eq_true q515) | (go_at_call 126; (with_reducible refine (spec_l3Join.calls k _ _ l0 (rd l1 (rd t509 0)) (rd l1 (rd t509 1)) t516 _ ?side1 ?side2 A11.out).mono ?_); (case side1 => repeat (first | exact (Kd.C_below HR0.out HB.out) | (with_reducible refine Kd.C_alloc ?_ _) | (with_reducible refine Kd.C_drewN ?_ _) | (with_reducible refine Kd.C_drew ?_))); (case side2 => exact HC0.out); rintro e w' ⟨rfl, ⟨nd, rfl⟩⟩; (try first | exact ⟨rfl, _, World.drewN_drewN _ _ _⟩ | exact ⟨rfl, _, Eq.trans (World.drewN_drewN _ _ _) (congrArg (World.drewN _) (Nat.add_assoc _ _ _))⟩)))
              repeat (go_quiet (first | (go_at_call 125; (with_reducible refine (spec_l3Points.calls k _ _ l0 a2 t509 _ ?side1 ?side2 A4.out).mono ?_); (case side1 => repeat (first | exact HR0.out | (with_reducible refine Kd.C_alloc ?_ _) | (with_reducible refine Kd.C_drewN ?_ _) | (with_reducible refine Kd.C_drew ?_))); (case side2 => exact HC0.out); rintro e w12 ⟨v510, rfl, ho0, hb⟩; have n0_ := Aside0.mk (Kd.R_lower ho0 (below_size (by repeat (first | (with_reducible first | exact HB.out | apply below_alloc | apply pw_below_drewN | apply below_drew1) | exact HB.out)))); have n1_ := Aside0.mk (below_step (by repeat (first | (with_reducible first | exact HB.out | apply below_alloc | apply pw_below_drewN | apply below_drew1) | exact HB.out)) hb); clear HB; have HO511 := n0_; have HB := n1_; clear n0_ n1_; (try clear hb); (try clear hb2); (try clear hk); (try clear hi); (try clear ho0); obtain ⟨Ao13, co13, eo13⟩ := Kd.R_slice HO511.out; subst eo13; have p512 : 0 ≤ (0 : Int) := (by omega); have q512 : 0 < (t509.length : Int) := of_decide_eq_true (by first | (with_reducible assumption) | assumption); obtain ⟨ad512, e512, hx512_0⟩ := Kd.at_int (Kd.R_reads' HO511.out).2.2 0 p512 q512; cases e512; have qi512 : (0 < t509.length) = True := eq_true (by omega); (try rw [show ((0 : Int)).toNat = 0 from rfl] at hx512_0); (try rw [Addr.add_zero'] at hx512_0); replace p512 := eq_true p512; replace q512 := eq_true q512; have p513 : 0 ≤ ((rd t509 0) : Int) := of_decide_eq_true (by first | (with_reducible assumption) | assumption); have q513 : (rd t509 0) < (l1.length : Int) := of_decide_eq_true (by first | (with_reducible assumption) | assumption); obtain ⟨ad513, e513, hx513_0⟩ := Kd.at_int HR1.out (rd t509 0) p513 q513; cases e513; replace hx513_0 := (HB.out.cell (World.block_lt_of_cell? w _ hx513_0)).trans hx513_0; replace p513 := eq_true p513; replace q513 := eq_true q513; have p514 : 0 ≤ (1 : Int) := (by omega); have q514 : 1 < (t509.length : Int) := of_decide_eq_true (by first | (with_reducible assumption) | assumption); obtain ⟨ad514, e514, hx514_0⟩ := Kd.at_int (Kd.R_reads' HO511.out).2.2 1 p514 q514; obtain rfl : ad512 = ad514 := (by injection e514); (try simp only [show (1 : Int).toNat = 1 from rfl, Nat.reduceMul, Nat.reduceEqDiff, Go.Addr.add, ↓reduceIte] at hx514_0); have qi514 : (1 < t509.length) = True := eq_true (by omega); (try rw [show ((1 : Int)).toNat = 1 from rfl] at hx514_0); replace p514 := eq_true p514; replace q514 := eq_true q514; have p515 : 0 ≤ ((rd t509 1) : Int) := of_decide_eq_true (by first | (with_reducible assumption) | assumption); have q515 : (rd t509 1) < (l1.length : Int) := of_decide_eq_true (by first | (with_reducible assumption) | assumption); obtain ⟨ad515, e515, hx515_0⟩ := Kd.at_int HR1.out (rd t509 1) p515 q515; obtain rfl : ad513 = ad515 := (by injection e515); replace hx515_0 := (HB.out.cell (World.block_lt_of_cell? w _ hx515_0)).trans hx515_0; replace p515 := eq_true p515; replace q515 := eq_true q515) | (go_at_call 126; (with_reducible refine (spec_l3Join.calls k _ _ l0 (rd l1 (rd t509 0)) (rd l1 (rd t509 1)) t516 _ ?side1 ?side2 A11.out).mono ?_); (case side1 => repeat (first | exact (Kd.C_below HR0.out HB.out) | (with_reducible refine Kd.C_alloc ?_ _) | (with_reducible refine Kd.C_drewN ?_ _) | (with_reducible refine Kd.C_drew ?_))); (case side2 => exact HC0.out); rintro e w' ⟨rfl, ⟨nd, rfl⟩⟩; (try first | exact ⟨rfl, _, World.drewN_drewN _ _ _⟩ | exact ⟨rfl, _, Eq.trans (World.drewN_drewN _ _ _) (congrArg (World.drewN _) (Nat.add_assoc _ _ _))⟩))); try go_wp2_with (first | (go_at_call 125; (with_reducible refine (spec_l3Points.calls k _ _ l0 a2 t509 _ ?side1 ?side2 A4.out).mono ?_); (case side1 => repeat (first | exact HR0.out | (with_reducible refine Kd.C_alloc ?_ _) | (with_reducible refine Kd.C_drewN ?_ _) | (with_reducible refine Kd.C_drew ?_))); (case side2 => exact HC0.out); rintro e w12 ⟨v510, rfl, ho0, hb⟩; have n0_ := Aside0.mk (Kd.R_lower ho0 (below_size (by repeat (first | (with_reducible first | exact HB.out | apply below_alloc | apply pw_below_drewN | apply below_drew1) | exact HB.out)))); have n1_ := Aside0.mk (below_step (by repeat (first | (with_reducible first | exact HB.out | apply below_alloc | apply pw_below_drewN | apply below_drew1) | exact HB.out)) hb); clear HB; have HO511 := n0_; have HB := n1_; clear n0_ n1_; (try clear hb); (try clear hb2); (try clear hk); (try clear hi); (try clear ho0); obtain ⟨Ao13, co13, eo13⟩ := Kd.R_slice HO511.out; subst eo13; have p512 : 0 ≤ (0 : Int) := (by omega); have q512 : 0 < (t509.length : Int) := of_decide_eq_true (by first | (with_reducible assumption) | assumption); obtain ⟨ad512, e512, hx512_0⟩ := Kd.at_int (Kd.R_reads' HO511.out).2.2 0 p512 q512; cases e512; have qi512 : (0 < t509.length) = True := eq_true (by omega); (try rw [show ((0 : Int)).toNat = 0 from rfl] at hx512_0); (try rw [Addr.add_zero'] at hx512_0); replace p512 := eq_true p512; replace q512 := eq_true q512; have p513 : 0 ≤ ((rd t509 0) : Int) := of_decide_eq_true (by first | (with_reducible assumption) | assumption); have q513 : (rd t509 0) < (l1.length : Int) := of_decide_eq_true (by first | (with_reducible assumption) | assumption); obtain ⟨ad513, e513, hx513_0⟩ := Kd.at_int HR1.out (rd t509 0) p513 q513; cases e513; replace hx513_0 := (HB.out.cell (World.block_lt_of_cell? w _ hx513_0)).trans hx513_0; replace p513 := eq_true p513; replace q513 := eq_true q513; have p514 : 0 ≤ (1 : Int) := (by omega); have q514 : 1 < (t509.length : Int) := of_decide_eq_true (by first | (with_reducible assumption) | assumption); obtain ⟨ad514, e514, hx514_0⟩ := Kd.at_int (Kd.R_reads' HO511.out).2.2 1 p514 q514; obtain rfl : ad512 = ad514 := (by injection e514); (try simp only [show (1 : Int).toNat = 1 from rfl, Nat.reduceMul, Nat.reduceEqDiff, Go.Addr.add, ↓reduceIte] at hx514_0); have qi514 : (1 < t509.length) = True := eq_true (by omega); (try rw [show ((1 : Int)).toNat = 1 from rfl] at hx514_0); replace p514 := eq_true p514; replace q514 := eq_true q514; have p515 : 0 ≤ ((rd t509 1) : Int) := of_decide_eq_true (by first | (with_reducible assumption) | assumption); have q515 : (rd t509 1) < (l1.length : Int) := of_decide_eq_true (by first | (with_reducible assumption) | assumption); obtain ⟨ad515, e515, hx515_0⟩ := Kd.at_int HR1.out (rd t509 1) p515 q515; obtain rfl : ad513 = ad515 := (by injection e515); replace hx515_0 := (HB.out.cell (World.block_lt_of_cell? w _ hx515_0)).trans hx515_0; replace p515 := eq_true p515; replace q515 := eq_true q515) | (go_at_call 126; (with_reducible refine (spec_l3Join.calls k _ _ l0 (rd l1 (rd t509 0)) (rd l1 (rd t509 1)) t516 _ ?side1 ?side2 A11.out).mono ?_); (case side1 => repeat (first | exact (Kd.C_below HR0.out HB.out) | (with_reducible refine Kd.C_alloc ?_ _) | (with_reducible refine Kd.C_drewN ?_ _) | (with_reducible refine Kd.C_drew ?_))); (case side2 => exact HC0.out); rintro e w' ⟨rfl, ⟨nd, rfl⟩⟩; (try first | exact ⟨rfl, _, World.drewN_drewN _ _ _⟩ | exact ⟨rfl, _, Eq.trans (World.drewN_drewN _ _ _) (congrArg (World.drewN _) (Nat.add_assoc _ _ _))⟩))))
              go_loopg [10] k (fun kq v10 w' => ∃ (x10_1 : Int), v10 = .int .i64 x10_1 ∧ Aside0 (spec_l5Line.l0 kq l0 l1 t509 t516 x10_1 = some (r1, r2)) ∧ Aside0 (kq ≤ k) ∧ Aside0 (Kd.R (Kd.int .i64) 3 w' w.heap.size (fun _ => True) (.slice (some ad512) t509.length co13) t509) ∧ Aside0 (Below w.heap.size w w'))
              case atStart => exact ⟨(2), (by first | rfl | (simp; done) | (simp [*]; done)), H', ⟨Nat.le_refl _⟩, ⟨by (with_reducible repeat (first | apply Kd.R_alloc | apply Kd.R_drewN | apply Kd.R_drew)); exact HO511.out⟩, ⟨by repeat (first | (with_reducible first | exact HB.out | apply below_alloc | apply pw_below_drewN | apply below_drew1) | exact HB.out)⟩⟩
              case round =>
                clear H'
                try clear c1
                try clear p2
                try clear c5
                try clear c5b0
                try clear c5b1
                try clear p5
                try clear q5
                try clear hx5
                try clear qi5
                try clear c6
                try clear c6b0
                try clear c7
                try clear c7b0
                try clear c8
                try clear c8b0
                try clear c8b1
                try clear c9
                try clear c9b0
                try clear c10
                try clear c10b0
                try clear hx512_0
                try clear hx513_0
                try clear hx514_0
                try clear hx515_0
                try clear p512
                try clear p513
                try clear p514
                try clear p515
                try clear q512
                try clear q513
                try clear q514
                try clear q515
                obtain ⟨x10_1, rfl, HA, HK1, HO_8, HB⟩ := hrel
                cases gk with
                | zero => exact absurd HA.out (by simp [spec_l5Line.l0])
                | succ k1 =>
                  have H := HA.out
                  clear HA
                  simp only [spec_l5Line.l0] at H
                  by_cases c14 : x10_1 < (t509.length : Int)
                  · rw [if_pos c14] at H
                    have c14b0 : decide (x10_1 < (t509.length : Int)) = true := decide_eq_true c14
                    clear c14
                    by_cases c15 : 0 ≤ x10_1
                    · rw [if_pos c15] at H
                      have c15b0 : decide (0 ≤ x10_1) = true := decide_eq_true c15
                      clear c15
                      by_cases c16 : 0 ≤ (rd t509 x10_1)
                      · rw [if_pos c16] at H
                        have c16b0 : decide (0 ≤ (rd t509 x10_1)) = true := decide_eq_true c16
                        clear c16
                        by_cases c17 : (rd t509 x10_1) < (l1.length : Int)
                        · rw [if_pos c17] at H
                          have c17b0 : decide ((rd t509 x10_1) < (l1.length : Int)) = true := decide_eq_true c17
                          clear c17
                          replace H := Option.bind_eq_some_iff.mp H
                          obtain ⟨t519, A180, H⟩ := H
                          replace H : (if t519 = true then (spec_l5Line.l0 k1 l0 l1 t509 t516 (wrap64 (x10_1 + 1))) else (some (0, false))) = some (r1, r2) := H
                          have A18 := Aside0.mk A180
                          clear A180
                          by_cases c19 : t519 = true
                          · subst c19
                            have H1 : (spec_l5Line.l0 k1 l0 l1 t509 t516 (wrap64 (x10_1 + 1))) = some (r1, r2) := by rw [if_pos rfl] at H; exact H
                            clear H
                            have H := H1
                            clear H1
                            have H' := Aside0.mk H
                            clear H
                            have p517 : 0 ≤ (x10_1 : Int) := of_decide_eq_true (by first | (with_reducible assumption) | assumption)
                            have q517 : x10_1 < (t509.length : Int) := of_decide_eq_true (by first | (with_reducible assumption) | assumption)
                            obtain ⟨ad517, e517, hx517_0⟩ := Kd.at_int (Kd.R_reads' HO_8.out).2.2 x10_1 p517 q517
                            obtain rfl : ad512 = ad517 := (by injection e517)
                            replace p517 := eq_true p517
                            replace q517 := eq_true q517
                            have p518 : 0 ≤ ((rd t509 x10_1) : Int) := of_decide_eq_true (by first | (with_reducible assumption) | assumption)
                            have q518 : (rd t509 x10_1) < (l1.length : Int) := of_decide_eq_true (by first | (with_reducible assumption) | assumption)
                            obtain ⟨ad518, e518, hx518_0⟩ := Kd.at_int HR1.out (rd t509 x10_1) p518 q518
                            obtain rfl : ad513 = ad518 := (by injection e518)
                            replace hx518_0 := (HB.out.cell (World.block_lt_of_cell? w _ hx518_0)).trans hx518_0
                            replace p518 := eq_true p518
                            replace q518 := eq_true q518
                            go_wp2_with (first | (go_at_call 94; (with_reducible refine (spec_l3On.calls _ _ l0 (rd l1 (rd t509 x10_1)) t516 true _ ?side1 ?side2 A18.out).mono ?_); (case side1 => repeat (first | exact (Kd.C_below HR0.out HB.out) | (with_reducible refine Kd.C_alloc ?_ _) | (with_reducible refine Kd.C_drewN ?_ _) | (with_reducible refine Kd.C_drew ?_))); (case side2 => exact HC0.out); rintro e w' ⟨rfl, ⟨nd, rfl⟩⟩; (try first | exact ⟨rfl, _, World.drewN_drewN _ _ _⟩ | exact ⟨rfl, _, Eq.trans (World.drewN_drewN _ _ _) (congrArg (World.drewN _) (Nat.add_assoc _ _ _))⟩)))
                            repeat (go_quiet (first | (go_at_call 94; (with_reducible refine (spec_l3On.calls _ _ l0 (rd l1 (rd t509 x10_1)) t516 true _ ?side1 ?side2 A18.out).mono ?_); (case side1 => repeat (first | exact (Kd.C_below HR0.out HB.out) | (with_reducible refine Kd.C_alloc ?_ _) | (with_reducible refine Kd.C_drewN ?_ _) | (with_reducible refine Kd.C_drew ?_))); (case side2 => exact HC0.out); rintro e w' ⟨rfl, ⟨nd, rfl⟩⟩; (try first | exact ⟨rfl, _, World.drewN_drewN _ _ _⟩ | exact ⟨rfl, _, Eq.trans (World.drewN_drewN _ _ _) (congrArg (World.drewN _) (Nat.add_assoc _ _ _))⟩))); try go_wp2_with (first | (go_at_call 94; (with_reducible refine (spec_l3On.calls _ _ l0 (rd l1 (rd t509 x10_1)) t516 true _ ?side1 ?side2 A18.out).mono ?_); (case side1 => repeat (first | exact (Kd.C_below HR0.out HB.out) | (with_reducible refine Kd.C_alloc ?_ _) | (with_reducible refine Kd.C_drewN ?_ _) | (with_reducible refine Kd.C_drew ?_))); (case side2 => exact HC0.out); rintro e w' ⟨rfl, ⟨nd, rfl⟩⟩; (try first | exact ⟨rfl, _, World.drewN_drewN _ _ _⟩ | exact ⟨rfl, _, Eq.trans (World.drewN_drewN _ _ _) (congrArg (World.drewN _) (Nat.add_assoc _ _ _))⟩))))
                            go_roundg k1
                            case measure => have := HK1.out; omega
                            case rel => exact ⟨(wrap64 (x10_1 + 1)), (by first | rfl | (simp; done) | (simp [*]; done)), H', ⟨by have := HK1.out; omega⟩, ⟨by (with_reducible repeat (first | apply Kd.R_alloc | apply Kd.R_drewN | apply Kd.R_drew)); exact HO_8.out⟩, ⟨by repeat (first | (with_reducible first | exact HB.out | apply below_alloc | apply pw_below_drewN | apply below_drew1) | exact HB.out)⟩⟩
                          · replace c19 := Bool.eq_false_iff.mpr c19
                            subst c19
                            have H1 : (some (0, false)) = some (r1, r2) := by rw [if_neg (show ¬ (false = true) by decide)] at H; exact H
                            clear H
                            have H := H1
                            clear H1
                            simp only [Option.some.injEq, Prod.mk.injEq] at H
                            obtain ⟨rfl, rfl⟩ := H
                            have p517 : 0 ≤ (x10_1 : Int) := of_decide_eq_true (by first | (with_reducible assumption) | assumption)
                            have q517 : x10_1 < (t509.length : Int) := of_decide_eq_true (by first | (with_reducible assumption) | assumption)
                            obtain ⟨ad517, e517, hx517_0⟩ := Kd.at_int (Kd.R_reads' HO_8.out).2.2 x10_1 p517 q517
                            obtain rfl : ad512 = ad517 := (by injection e517)
                            replace p517 := eq_true p517
                            replace q517 := eq_true q517
                            have p518 : 0 ≤ ((rd t509 x10_1) : Int) := of_decide_eq_true (by first | (with_reducible assumption) | assumption)
                            have q518 : (rd t509 x10_1) < (l1.length : Int) := of_decide_eq_true (by first | (with_reducible assumption) | assumption)
                            obtain ⟨ad518, e518, hx518_0⟩ := Kd.at_int HR1.out (rd t509 x10_1) p518 q518
                            obtain rfl : ad513 = ad518 := (by injection e518)
                            replace hx518_0 := (HB.out.cell (World.block_lt_of_cell? w _ hx518_0)).trans hx518_0
                            replace p518 := eq_true p518
                            replace q518 := eq_true q518
                            go_wp2_with (first | (go_at_call 94; (with_reducible refine (spec_l3On.calls _ _ l0 (rd l1 (rd t509 x10_1)) t516 false _ ?side1 ?side2 A18.out).mono ?_); (case side1 => repeat (first | exact (Kd.C_below HR0.out HB.out) | (with_reducible refine Kd.C_alloc ?_ _) | (with_reducible refine Kd.C_drewN ?_ _) | (with_reducible refine Kd.C_drew ?_))); (case side2 => exact HC0.out); rintro e w' ⟨rfl, ⟨nd, rfl⟩⟩; (try first | exact ⟨rfl, _, World.drewN_drewN _ _ _⟩ | exact ⟨rfl, _, Eq.trans (World.drewN_drewN _ _ _) (congrArg (World.drewN _) (Nat.add_assoc _ _ _))⟩)))
                            repeat (go_quiet (first | (go_at_call 94; (with_reducible refine (spec_l3On.calls _ _ l0 (rd l1 (rd t509 x10_1)) t516 false _ ?side1 ?side2 A18.out).mono ?_); (case side1 => repeat (first | exact (Kd.C_below HR0.out HB.out) | (with_reducible refine Kd.C_alloc ?_ _) | (with_reducible refine Kd.C_drewN ?_ _) | (with_reducible refine Kd.C_drew ?_))); (case side2 => exact HC0.out); rintro e w' ⟨rfl, ⟨nd, rfl⟩⟩; (try first | exact ⟨rfl, _, World.drewN_drewN _ _ _⟩ | exact ⟨rfl, _, Eq.trans (World.drewN_drewN _ _ _) (congrArg (World.drewN _) (Nat.add_assoc _ _ _))⟩))); try go_wp2_with (first | (go_at_call 94; (with_reducible refine (spec_l3On.calls _ _ l0 (rd l1 (rd t509 x10_1)) t516 false _ ?side1 ?side2 A18.out).mono ?_); (case side1 => repeat (first | exact (Kd.C_below HR0.out HB.out) | (with_reducible refine Kd.C_alloc ?_ _) | (with_reducible refine Kd.C_drewN ?_ _) | (with_reducible refine Kd.C_drew ?_))); (case side2 => exact HC0.out); rintro e w' ⟨rfl, ⟨nd, rfl⟩⟩; (try first | exact ⟨rfl, _, World.drewN_drewN _ _ _⟩ | exact ⟨rfl, _, Eq.trans (World.drewN_drewN _ _ _) (congrArg (World.drewN _) (Nat.add_assoc _ _ _))⟩))))
                            go_ret2
                            exact ⟨by first | rfl | (simp [errW_none, errW_some] <;> rfl) | (simp [*, errW_none, errW_some] <;> rfl), by repeat (first | (with_reducible first | exact HB.out | apply below_alloc | apply pw_below_drewN | apply below_drew1) | exact HB.out)⟩
                        · rw [if_neg c17] at H
                          exact absurd H (by simp)
                      · rw [if_neg c16] at H
                        exact absurd H (by simp)
                    · rw [if_neg c15] at H
                      exact absurd H (by simp)
                  · rw [if_neg c14] at H
                    have c14b0 : decide (x10_1 < (t509.length : Int)) = false := decide_eq_false c14
                    clear c14
                    simp only [Option.some.injEq, Prod.mk.injEq] at H
                    obtain ⟨rfl, rfl⟩ := H
                    go_wp2
                    repeat (go_quiet (fail); try go_wp2)
                    go_ret2
                    exact ⟨by first | rfl | (simp [errW_none, errW_some] <;> rfl) | (simp [*, errW_none, errW_some] <;> rfl), by repeat (first | (with_reducible first | exact HB.out | apply below_alloc | apply pw_below_drewN | apply below_drew1) | exact HB.out)⟩
            · rw [if_neg c10] at H
              exact absurd H (by simp)
          · rw [if_neg c9] at H
            exact absurd H (by simp)
        · rw [if_neg c8] at H
          exact absurd H (by simp)
      · rw [if_neg c7] at H
        exact absurd H (by simp)
    · rw [if_neg c6] at H
      exact absurd H (by simp)
  · rw [if_neg c5] at H
    exact absurd H (by simp)

end Go.Proofs.Ytfoadgbffidgaaa.P

namespace Go.Proofs.Ytfoadgbffidgaaa.P
open Go.RowKit Go.Proofs.YtfoadgbffidgaaaW.PrintWords Go.Proofs.YtfoadgbffidgaaaW.PrintLast Go.Proofs.YtfoadgbffidgaaaW.PrintMore
attribute [local go_sem] max2_int min2_int max_two min_two max_three min_three max_four min_four   -- for this text's walks alone
set_option linter.unusedVariables false
set_option linter.unusedSimpArgs false

/-! ### spec_l3In: function 86 -/
def spec_l3In.f (a0 : Int) : Option (Bool) := (spec_l6In.f a0 0 90).bind fun t520 => (some t520)
set_option maxHeartbeats 8000000 in
set_option maxRecDepth 100000 in
theorem spec_l3In.calls (a0 : Int) (r : Bool) (w : World) (h : spec_l3In.f a0 = some r) :
    Calls Try.prog 86 #[.int .i64 a0] w fun e w' => e = .returned (.bool r) ∧ Drawn0 w w' := by
  have H : ((spec_l6In.f a0 0 90).bind fun t520 => (some t520)) = some r := h
  clear h
  replace H := Option.bind_eq_some_iff.mp H
  obtain ⟨t520, A20, H⟩ := H
  replace H : (some t520) = some r := H
  have A2 := Aside0.mk A20
  clear A20
  obtain rfl := Option.some.inj H
  go_enter Try.func86, Try.ntmps86
  go_wp2_with (first | ((with_reducible refine gate_callee (f := 56) rfl ?_); refine goesL_ (some 4) rfl rfl Try.func56 (by kernel_rfl) rfl #[.int .i64 a0, .int .i64 0, .int .i64 90] rfl (by (try simp only [List.map_toArray, List.map_cons, List.map_nil]); first | done | rfl | (simp only [List.length_drop, List.length_take]; rfl)) ?_; (with_reducible refine (spec_l6In.calls a0 0 90 t520 _ A2.out).mono ?_); rintro e w' ⟨rfl, ⟨nd, rfl⟩⟩; refine ⟨_, rfl, ?_⟩))
  go_ret
  exact ⟨by first | rfl | (simp; done) | (simp [*]; done), by repeat (first | exact Drawn0.refl _ | apply Drawn0.step)⟩

end Go.Proofs.Ytfoadgbffidgaaa.P

namespace Go.Proofs.Ytfoadgbffidgaaa.P
open Go.RowKit Go.Proofs.YtfoadgbffidgaaaW.PrintWords Go.Proofs.YtfoadgbffidgaaaW.PrintLast Go.Proofs.YtfoadgbffidgaaaW.PrintMore
attribute [local go_sem] max2_int min2_int max_two min_two max_three min_three max_four min_four   -- for this text's walks alone
set_option linter.unusedVariables false
set_option linter.unusedSimpArgs false

/-! ### spec_l5Perm: function 119 -/
def spec_l5Perm.l0 : Nat → List Int → List Bool → Int → Option (Bool)
  | 0, _, _, _ => none
  | k + 1, x0, x3, x4 => if x4 < (x0.length : Int) then (if 0 ≤ x4 then ((spec_l3In.f (rd x0 x4)).bind fun t525 => (if t525 = true then (if 0 ≤ (rd x0 x4) then (if (rd x0 x4) < (x3.length : Int) then (if rdOf false x3 (rd x0 x4) = true then (some false) else (spec_l5Perm.l0 k x0 (x3.set ((rd x0 x4) : Int).toNat true) (wrap64 (x4 + 1)))) else (none)) else (none)) else (some false))) else (none)) else (some ((x0.length : Int) == 91))
def spec_l5Perm.f (k : Nat) (l0 : List Int) : Option (Bool) := if 91 ≤ 281474976710656 then (spec_l5Perm.l0 k l0 (List.replicate 91 false) 0) else (none)
theorem spec_l5Perm.mono_l : ∀ k, (∀ y0 y1 y2, LeO (spec_l5Perm.l0 k y0 y1 y2) (spec_l5Perm.l0 (k + 1) y0 y1 y2))
  | 0 => fun _ _ _ r h => by simp [spec_l5Perm.l0] at h
  | k + 1 => by
    have ih0 := spec_l5Perm.mono_l k
    · intro y0 y1 y2
      unfold spec_l5Perm.l0
      repeat' first
      | (with_reducible exact ih0 _ _ _)
      | (with_reducible exact LeO.refl _)
      | (with_reducible exact LeO.none _)
      | (with_reducible refine LeO.ite ?_ ?_)
      | (with_reducible refine LeO.bind ?_ (fun _ => ?_))
      | exact ih0 _ _ _
      | exact LeO.none _
      | refine LeO.ite ?_ ?_
      | refine LeO.bind ?_ (fun _ => ?_)
theorem spec_l5Perm.mono : ∀ a0 k, LeO (spec_l5Perm.f k a0) (spec_l5Perm.f (k + 1) a0) := by
  intro a0 k
  have ih0 := spec_l5Perm.mono_l k
  unfold spec_l5Perm.f
  repeat' first
      | (with_reducible exact ih0 _ _ _)
      | (with_reducible exact LeO.refl _)
      | (with_reducible exact LeO.none _)
      | (with_reducible refine LeO.ite ?_ ?_)
      | (with_reducible refine LeO.bind ?_ (fun _ => ?_))
      | exact ih0 _ _ _
      | exact LeO.none _
      | refine LeO.ite ?_ ?_
      | refine LeO.bind ?_ (fun _ => ?_)
set_option maxHeartbeats 8000000 in
set_option maxRecDepth 100000 in
theorem spec_l5Perm.calls (k : Nat) (A0 : Option Addr) (c0 : Nat) (l0 : List Int) (r : Bool) (w : World) (hr0 : Kd.C (Kd.int .i64) w A0 l0.length l0) (hc0 : l0.length ≤ c0) (h : spec_l5Perm.f k l0 = some r) :
    Calls Try.prog 119 #[.slice A0 l0.length c0] w fun e w' => e = .returned (.bool r) ∧ Below w.heap.size w w' := by
  have HR0 := Aside0.mk hr0
  have HC0 := Aside0.mk hc0
  clear hr0 hc0
  have HB := Aside0.mk (Below.refl w.heap.size w)
  have H : (if 91 ≤ 281474976710656 then (spec_l5Perm.l0 k l0 (List.replicate 91 false) 0) else (none)) = some r := h
  clear h
  by_cases c2 : 91 ≤ 281474976710656
  · rw [if_pos c2] at H
    have c2b0 := eq_true c2
    have c2b1 : decide (91 ≤ 281474976710656) = true := decide_eq_true c2
    clear c2
    obtain ⟨y521, hy521⟩ : ∃ y_ : List Bool, y_ = (List.replicate 91 false) := ⟨_, rfl⟩
    replace H : (spec_l5Perm.l0 k l0 y521 0) = some r := by first | (rw [hy521]; with_reducible exact H) | (have H2_ := (Option.bind_some _ _).symm.trans H; rw [hy521]; with_reducible exact H2_) | (have H2_ := (Option.bind_some _ _).symm.trans H; with_reducible exact H2_) | with_reducible exact H | (rw [hy521]; exact H) | exact H
    have Ny521 := Aside0.mk hy521
    clear hy521
    have H' := Aside0.mk H
    clear H
    go_enter Try.func119, Try.ntmps119
    go_wp2_with (first | ((with_reducible refine gate_dst (N := 5) rfl ?_); refine Kd.R_make Kd.bool _ 4 rfl (N := 5) rfl 51 _ _ rfl 91 rfl rfl Try.underlying51 (.bool false) 1 info4 rfl (by decide) (by omega) false (ok := fun _ => True) (okp := fun _ => True) rfl (fun _ hk => hk) trivial (by omega) (by omega) (Below.refl _ _) (Nat.le_refl _) ?_; intro v522 w3 ho4 hb hg_ hnew_; clear hg_ hnew_; (first | rw [← Ny521.out] at ho4 | (simp only [Int.reduceToNat] at ho4; rw [← Ny521.out] at ho4)); have n0_ := Aside0.mk (Kd.R_lower ho4 (below_size (by repeat (first | (with_reducible first | exact HB.out | apply below_alloc | apply pw_below_drewN | apply below_drew1) | exact HB.out)))); have n1_ := Aside0.mk (below_step (by repeat (first | (with_reducible first | exact HB.out | apply below_alloc | apply pw_below_drewN | apply below_drew1) | exact HB.out)) hb); clear HB; have HO523 := n0_; have HB := n1_; clear n0_ n1_; clear hb ho4))
    go_loopg [4] k (fun kq v4 w' => ∃ (x3_1 : List Bool) (x4_1 : Int), v4 = .int .i64 x4_1 ∧ Aside0 (spec_l5Perm.l0 kq l0 x3_1 x4_1 = some r) ∧ Aside0 (kq ≤ k) ∧ Aside0 (Kd.R Kd.bool 4 w' w.heap.size (fun _ => True) v522 x3_1) ∧ Aside0 (Below w.heap.size w w'))
    case atStart => exact ⟨(y521), (0), (by first | rfl | (simp; done) | (simp [*]; done)), H', ⟨Nat.le_refl _⟩, ⟨by (with_reducible repeat (first | apply Kd.R_alloc | apply Kd.R_drewN | apply Kd.R_drew)); exact HO523.out⟩, ⟨by repeat (first | (with_reducible first | exact HB.out | apply below_alloc | apply pw_below_drewN | apply below_drew1) | exact HB.out)⟩⟩
    case round =>
      clear H'
      try clear c1
      try clear c2
      try clear c2b0
      try clear c2b1
      try clear p2
      obtain ⟨x3_1, x4_1, rfl, HA, HK1, HO_3, HB⟩ := hrel
      cases gk with
      | zero => exact absurd HA.out (by simp [spec_l5Perm.l0])
      | succ k1 =>
        have H := HA.out
        clear HA
        simp only [spec_l5Perm.l0] at H
        by_cases c5 : x4_1 < (l0.length : Int)
        · rw [if_pos c5] at H
          have c5b0 : decide (x4_1 < (l0.length : Int)) = true := decide_eq_true c5
          clear c5
          by_cases c6 : 0 ≤ x4_1
          · rw [if_pos c6] at H
            have c6b0 : decide (0 ≤ x4_1) = true := decide_eq_true c6
            clear c6
            replace H := Option.bind_eq_some_iff.mp H
            obtain ⟨t525, A70, H⟩ := H
            replace H : (if t525 = true then (if 0 ≤ (rd l0 x4_1) then (if (rd l0 x4_1) < (x3_1.length : Int) then (if rdOf false x3_1 (rd l0 x4_1) = true then (some false) else (spec_l5Perm.l0 k1 l0 (x3_1.set ((rd l0 x4_1) : Int).toNat true) (wrap64 (x4_1 + 1)))) else (none)) else (none)) else (some false)) = some r := H
            have A7 := Aside0.mk A70
            clear A70
            by_cases c8 : t525 = true
            · subst c8
              have H1 : (if 0 ≤ (rd l0 x4_1) then (if (rd l0 x4_1) < (x3_1.length : Int) then (if rdOf false x3_1 (rd l0 x4_1) = true then (some false) else (spec_l5Perm.l0 k1 l0 (x3_1.set ((rd l0 x4_1) : Int).toNat true) (wrap64 (x4_1 + 1)))) else (none)) else (none)) = some r := by rw [if_pos rfl] at H; exact H
              clear H
              have H := H1
              clear H1
              by_cases c9 : 0 ≤ (rd l0 x4_1)
              · rw [if_pos c9] at H
                have c9b0 : decide (0 ≤ (rd l0 x4_1)) = true := decide_eq_true c9
                clear c9
                by_cases c10 : (rd l0 x4_1) < (x3_1.length : Int)
                · rw [if_pos c10] at H
                  have c10b0 : decide ((rd l0 x4_1) < (x3_1.length : Int)) = true := decide_eq_true c10
                  clear c10
                  obtain ⟨bq11, hbq11⟩ : ∃ b_ : Bool, b_ = (rdOf false x3_1 (rd l0 x4_1)) := ⟨_, rfl⟩
                  replace H : (if bq11 = true then (some false) else (spec_l5Perm.l0 k1 l0 (x3_1.set ((rd l0 x4_1) : Int).toNat true) (wrap64 (x4_1 + 1)))) = some r := by rw [← hbq11] at H; exact H
                  have Nbq11 := Aside0.mk hbq11
                  clear hbq11
                  by_cases c12 : bq11 = true
                  · subst c12
                    have H1 : (some false) = some r := by rw [if_pos rfl] at H; exact H
                    clear H
                    have H := H1
                    clear H1
                    obtain rfl := Option.some.inj H
                    have p524 : 0 ≤ (x4_1 : Int) := of_decide_eq_true (by first | (with_reducible assumption) | assumption)
                    have q524 : x4_1 < (l0.length : Int) := of_decide_eq_true (by first | (with_reducible assumption) | assumption)
                    obtain ⟨ad524, e524, hx524_0⟩ := Kd.at_int HR0.out x4_1 p524 q524
                    cases e524
                    replace hx524_0 := (HB.out.cell (World.block_lt_of_cell? w _ hx524_0)).trans hx524_0
                    replace p524 := eq_true p524
                    replace q524 := eq_true q524
                    go_wp2_with (first | ((with_reducible refine gate_callee (f := 86) rfl ?_); refine goesL_ (some 16) rfl rfl Try.func86 (by kernel_rfl) rfl #[.int .i64 (rd l0 x4_1)] rfl (by (try simp only [List.map_toArray, List.map_cons, List.map_nil]); first | done | rfl | (simp only [List.length_drop, List.length_take]; rfl)) ?_; (with_reducible refine (spec_l3In.calls (rd l0 x4_1) true _ A7.out).mono ?_); rintro e w' ⟨rfl, ⟨nd, rfl⟩⟩; refine ⟨_, rfl, ?_⟩; have p526 : 0 ≤ (x4_1 : Int) := of_decide_eq_true (by first | (with_reducible assumption) | assumption); have q526 : x4_1 < (l0.length : Int) := of_decide_eq_true (by first | (with_reducible assumption) | assumption); obtain ⟨ad526, e526, hx526_0⟩ := Kd.at_int HR0.out x4_1 p526 q526; obtain rfl : ad524 = ad526 := (by injection e526); replace hx526_0 := (HB.out.cell (World.block_lt_of_cell? w _ hx526_0)).trans hx526_0; replace p526 := eq_true p526; replace q526 := eq_true q526; obtain ⟨Ao13, co13, eo13⟩ := Kd.R_slice HO_3.out; subst eo13; have p527 : 0 ≤ ((rd l0 x4_1) : Int) := of_decide_eq_true (by first | (with_reducible assumption) | assumption); have q527 : (rd l0 x4_1) < (x3_1.length : Int) := of_decide_eq_true (by first | (with_reducible assumption) | assumption); obtain ⟨ad527, e527, hx527_0⟩ := Kd.at_bool (Kd.R_reads' HO_3.out).2.2 (rd l0 x4_1) p527 q527; (try rw [← Nbq11.out] at hx527_0); cases e527; replace p527 := eq_true p527; replace q527 := eq_true q527))
                    go_ret
                    exact ⟨by first | rfl | (simp [errW_none, errW_some] <;> rfl) | (simp [*, errW_none, errW_some] <;> rfl), by repeat (first | (with_reducible first | exact HB.out | apply below_alloc | apply pw_below_drewN | apply below_drew1) | exact HB.out)⟩
                  · replace c12 := Bool.eq_false_iff.mpr c12
                    subst c12
                    have H1 : (spec_l5Perm.l0 k1 l0 (x3_1.set ((rd l0 x4_1) : Int).toNat true) (wrap64 (x4_1 + 1))) = some r := by rw [if_neg (show ¬ (false = true) by decide)] at H; exact H
                    clear H
                    have H := H1
                    clear H1
                    obtain ⟨y529, hy529⟩ : ∃ y_ : List Bool, y_ = (x3_1.set ((rd l0 x4_1) : Int).toNat true) := ⟨_, rfl⟩
                    replace H : (spec_l5Perm.l0 k1 l0 y529 (wrap64 (x4_1 + 1))) = some r := by first | (rw [hy529]; with_reducible exact H) | (have H2_ := (Option.bind_some _ _).symm.trans H; rw [hy529]; with_reducible exact H2_) | (have H2_ := (Option.bind_some _ _).symm.trans H; with_reducible exact H2_) | with_reducible exact H | (rw [hy529]; exact H) | exact H
                    have Ny529 := Aside0.mk hy529
                    clear hy529
                    have H' := Aside0.mk H
                    clear H
                    have p524 : 0 ≤ (x4_1 : Int) := of_decide_eq_true (by first | (with_reducible assumption) | assumption)
                    have q524 : x4_1 < (l0.length : Int) := of_decide_eq_true (by first | (with_reducible assumption) | assumption)
                    obtain ⟨ad524, e524, hx524_0⟩ := Kd.at_int HR0.out x4_1 p524 q524
                    cases e524
                    replace hx524_0 := (HB.out.cell (World.block_lt_of_cell? w _ hx524_0)).trans hx524_0
                    replace p524 := eq_true p524
                    replace q524 := eq_true q524
                    go_wp2_with (first | ((with_reducible refine gate_callee (f := 86) rfl ?_); refine goesL_ (some 16) rfl rfl Try.func86 (by kernel_rfl) rfl #[.int .i64 (rd l0 x4_1)] rfl (by (try simp only [List.map_toArray, List.map_cons, List.map_nil]); first | done | rfl | (simp only [List.length_drop, List.length_take]; rfl)) ?_; (with_reducible refine (spec_l3In.calls (rd l0 x4_1) true _ A7.out).mono ?_); rintro e w' ⟨rfl, ⟨nd, rfl⟩⟩; refine ⟨_, rfl, ?_⟩; (try (rw [drewN_self wr]; generalize hq_ : World.drewN wr _ = wr; have n0_ : Aside0 (Kd.R Kd.bool 4 wr w.heap.size (fun _ => True) v522 x3_1) := ⟨by rw [← hq_]; exact (by (with_reducible repeat (first | apply Kd.R_alloc | apply Kd.R_drewN | apply Kd.R_drew)); exact HO_3.out)⟩; have n1_ : Aside0 (Below w.heap.size w wr) := ⟨by rw [← hq_]; exact (by repeat (first | (with_reducible first | exact HB.out | apply below_alloc | apply pw_below_drewN | apply below_drew1) | exact HB.out))⟩; clear HO_3 HB hq_; have HO_3 := n0_; have HB := n1_; clear n0_ n1_)); have p526 : 0 ≤ (x4_1 : Int) := of_decide_eq_true (by first | (with_reducible assumption) | assumption); have q526 : x4_1 < (l0.length : Int) := of_decide_eq_true (by first | (with_reducible assumption) | assumption); obtain ⟨ad526, e526, hx526_0⟩ := Kd.at_int HR0.out x4_1 p526 q526; obtain rfl : ad524 = ad526 := (by injection e526); replace hx526_0 := (HB.out.cell (World.block_lt_of_cell? w _ hx526_0)).trans hx526_0; replace p526 := eq_true p526; replace q526 := eq_true q526; obtain ⟨Ao15, co15, eo15⟩ := Kd.R_slice HO_3.out; subst eo15; have p527 : 0 ≤ ((rd l0 x4_1) : Int) := of_decide_eq_true (by first | (with_reducible assumption) | assumption); have q527 : (rd l0 x4_1) < (x3_1.length : Int) := of_decide_eq_true (by first | (with_reducible assumption) | assumption); obtain ⟨ad527, e527, hx527_0⟩ := Kd.at_bool (Kd.R_reads' HO_3.out).2.2 (rd l0 x4_1) p527 q527; (try rw [← Nbq11.out] at hx527_0); cases e527; replace p527 := eq_true p527; replace q527 := eq_true q527; have p528 : 0 ≤ (x4_1 : Int) := of_decide_eq_true (by first | (with_reducible assumption) | assumption); have q528 : x4_1 < (l0.length : Int) := of_decide_eq_true (by first | (with_reducible assumption) | assumption); obtain ⟨ad528, e528, hx528_0⟩ := Kd.at_int HR0.out x4_1 p528 q528; obtain rfl : ad524 = ad528 := (by injection e528); replace hx528_0 := (HB.out.cell (World.block_lt_of_cell? w _ hx528_0)).trans hx528_0; replace p528 := eq_true p528; replace q528 := eq_true q528; have p14 : 0 ≤ ((rd l0 x4_1) : Int) := of_decide_eq_true (by first | (with_reducible assumption) | assumption); have q14 : ((rd l0 x4_1) : Int) < ((x3_1.length : Int) : Int) := of_decide_eq_true (by first | (with_reducible assumption) | assumption); obtain ⟨go14, co14, eo14, gb14, gl14, cl14, HG14⟩ := Kd.R_form HO_3.out (by omega); (first | cases eo14 | (injection eo14 with ea_ en_ ec_; (first | subst ea_ | (injection ea_ with ea_; subst ea_)); subst ec_; clear en_)); have GB14 := Aside0.mk gb14; have GG14 := Aside0.mk HG14; clear gb14 gl14 HG14; (first | simp only [add_plain] at hx527_0 | skip); obtain ⟨hx14_0, hf14_0⟩ := Kd.R_celln false HO_3.out ((rd l0 x4_1) : Int) p14 q14; replace p14 := eq_true p14; replace q14 := eq_true q14; obtain ⟨hy16_, hz16_⟩ := Kd.R_celln false HO_3.out ((rd l0 x4_1) : Int) (of_decide_eq_true (by first | (with_reducible assumption) | assumption)) (of_decide_eq_true (by first | (with_reducible assumption) | assumption)); have HP16 := Kd.R_putg HO_3.out ((rd l0 x4_1) : Int) true) | ((with_reducible refine gate_store (t := 4) (p := 32) rfl ?_); refine store_event (t := 4) (p := 32) (v := ?vo_w17) (w1 := (wr.setCell ⟨go14, ((rd l0 x4_1) : Int).toNat, none⟩ (.bool true))) ?hg ?ho ?hn ?hr ?_; (case ho => rfl); (case hg => rfl); (case hn => rfl); (case hr => first | (go_simp; done) | (go_simp; rfl)); intro w17 hw; have hg : wr.grownBy w17 (some go14) := (by rw [hw]; exact HP16.2); have hp_ : Kd.R Kd.bool 4 w17 w.heap.size (fun _ => True) (.slice (some ⟨go14, 0, none⟩) x3_1.length co15) y529 := (by rw [hw, Ny529.out]; exact HP16.1); clear HP16; have n0_ := Aside0.mk (hp_); have n1_ := Aside0.mk ((by rw [hw]; exact below_set (HB.out) GB14.out : Below w.heap.size w w17)); clear HO_3; clear HB; have HO_3 := n0_; have HB := n1_; clear n0_ n1_; clear hg hw hp_))
                    go_roundg k1
                    case measure => have := HK1.out; omega
                    case rel => exact ⟨(y529), (wrap64 (x4_1 + 1)), (by first | rfl | (simp; done) | (simp [*]; done)), H', ⟨by have := HK1.out; omega⟩, ⟨by (with_reducible repeat (first | apply Kd.R_alloc | apply Kd.R_drewN | apply Kd.R_drew)); exact HO_3.out⟩, ⟨by repeat (first | (with_reducible first | exact HB.out | apply below_alloc | apply pw_below_drewN | apply below_drew1) | exact HB.out)⟩⟩
                · rw [if_neg c10] at H
                  exact absurd H (by simp)
              · rw [if_neg c9] at H
                exact absurd H (by simp)
            · replace c8 := Bool.eq_false_iff.mpr c8
              subst c8
              have H1 : (some false) = some r := by rw [if_neg (show ¬ (false = true) by decide)] at H; exact H
              clear H
              have H := H1
              clear H1
              obtain rfl := Option.some.inj H
              have p524 : 0 ≤ (x4_1 : Int) := of_decide_eq_true (by first | (with_reducible assumption) | assumption)
              have q524 : x4_1 < (l0.length : Int) := of_decide_eq_true (by first | (with_reducible assumption) | assumption)
              obtain ⟨ad524, e524, hx524_0⟩ := Kd.at_int HR0.out x4_1 p524 q524
              cases e524
              replace hx524_0 := (HB.out.cell (World.block_lt_of_cell? w _ hx524_0)).trans hx524_0
              replace p524 := eq_true p524
              replace q524 := eq_true q524
              go_wp2_with (first | ((with_reducible refine gate_callee (f := 86) rfl ?_); refine goesL_ (some 16) rfl rfl Try.func86 (by kernel_rfl) rfl #[.int .i64 (rd l0 x4_1)] rfl (by (try simp only [List.map_toArray, List.map_cons, List.map_nil]); first | done | rfl | (simp only [List.length_drop, List.length_take]; rfl)) ?_; (with_reducible refine (spec_l3In.calls (rd l0 x4_1) false _ A7.out).mono ?_); rintro e w' ⟨rfl, ⟨nd, rfl⟩⟩; refine ⟨_, rfl, ?_⟩))
              go_ret
              exact ⟨by first | rfl | (simp [errW_none, errW_some] <;> rfl) | (simp [*, errW_none, errW_some] <;> rfl), by repeat (first | (with_reducible first | exact HB.out | apply below_alloc | apply pw_below_drewN | apply below_drew1) | exact HB.out)⟩
          · rw [if_neg c6] at H
            exact absurd H (by simp)
        · rw [if_neg c5] at H
          have c5b0 : decide (x4_1 < (l0.length : Int)) = false := decide_eq_false c5
          clear c5
          obtain rfl := Option.some.inj H
          go_wp2
          go_ret
          exact ⟨by first | rfl | (simp [errW_none, errW_some] <;> rfl) | (simp [*, errW_none, errW_some] <;> rfl), by repeat (first | (with_reducible first | exact HB.out | apply below_alloc | apply pw_below_drewN | apply below_drew1) | exact HB.out)⟩
  · rw [if_neg c2] at H
    exact absurd H (by simp)

end Go.Proofs.Ytfoadgbffidgaaa.P

namespace Go.Proofs.Ytfoadgbffidgaaa.P
open Go.RowKit Go.Proofs.YtfoadgbffidgaaaW.PrintWords Go.Proofs.YtfoadgbffidgaaaW.PrintLast Go.Proofs.YtfoadgbffidgaaaW.PrintMore
attribute [local go_sem] max2_int min2_int max_two min_two max_three min_three max_four min_four   -- for this text's walks alone
set_option linter.unusedVariables false
set_option linter.unusedSimpArgs false

/-! ### spec_l5In: function 80 -/
def spec_l5In.l0 : Nat → List Int → List Int → Int → Option (Bool)
  | 0, _, _, _ => none
  | k + 1, x0, x1, x5 => if x5 < 91 then ((spec_l5Line.f k x0 x1 x5).bind fun bt531 => (if bt531.2 = true then (spec_l5In.l0 k x0 x1 (wrap64 (x5 + 1))) else (some false))) else (some true)
def spec_l5In.f (k : Nat) (l0 : List Int) (l1 : List Int) : Option (Bool) := (spec_l5Perm.f k l1).bind fun t530 => (if t530 = true then (spec_l5In.l0 k l0 l1 0) else (some false))
theorem spec_l5In.mono_l : ∀ k, (∀ y0 y1 y2, LeO (spec_l5In.l0 k y0 y1 y2) (spec_l5In.l0 (k + 1) y0 y1 y2))
  | 0 => fun _ _ _ r h => by simp [spec_l5In.l0] at h
  | k + 1 => by
    have ih0 := spec_l5In.mono_l k
    · intro y0 y1 y2
      unfold spec_l5In.l0
      repeat' first
      | (with_reducible exact ih0 _ _ _)
      | (with_reducible exact spec_l5Line.mono _ _ _ _)
      | (with_reducible exact spec_l5Perm.mono _ _)
      | (with_reducible exact LeO.refl _)
      | (with_reducible exact LeO.none _)
      | (with_reducible refine LeO.ite ?_ ?_)
      | (with_reducible refine LeO.bind ?_ (fun _ => ?_))
      | exact ih0 _ _ _
      | exact spec_l5Line.mono _ _ _ _
      | exact spec_l5Perm.mono _ _
      | exact LeO.none _
      | refine LeO.ite ?_ ?_
      | refine LeO.bind ?_ (fun _ => ?_)
theorem spec_l5In.mono : ∀ a0 a1 k, LeO (spec_l5In.f k a0 a1) (spec_l5In.f (k + 1) a0 a1) := by
  intro a0 a1 k
  have ih0 := spec_l5In.mono_l k
  unfold spec_l5In.f
  repeat' first
      | (with_reducible exact ih0 _ _ _)
      | (with_reducible exact spec_l5Line.mono _ _ _ _)
      | (with_reducible exact spec_l5Perm.mono _ _)
      | (with_reducible exact LeO.refl _)
      | (with_reducible exact LeO.none _)
      | (with_reducible refine LeO.ite ?_ ?_)
      | (with_reducible refine LeO.bind ?_ (fun _ => ?_))
      | exact ih0 _ _ _
      | exact spec_l5Line.mono _ _ _ _
      | exact spec_l5Perm.mono _ _
      | exact LeO.none _
      | refine LeO.ite ?_ ?_
      | refine LeO.bind ?_ (fun _ => ?_)
set_option maxHeartbeats 8000000 in
set_option maxRecDepth 100000 in
theorem spec_l5In.calls (k : Nat) (A0 : Option Addr) (c0 : Nat) (l0 : List Int) (A1 : Option Addr) (c1 : Nat) (l1 : List Int) (r : Bool) (w : World) (hr0 : Kd.C (Kd.int .i64) w A0 l0.length l0) (hc0 : l0.length ≤ c0) (hr1 : Kd.C (Kd.int .i64) w A1 l1.length l1) (hc1 : l1.length ≤ c1) (h : spec_l5In.f k l0 l1 = some r) :
    Calls Try.prog 80 #[.slice A0 l0.length c0, .slice A1 l1.length c1] w fun e w' => e = .returned (.bool r) ∧ Below w.heap.size w w' := by
  have HR0 := Aside0.mk hr0
  have HC0 := Aside0.mk hc0
  clear hr0 hc0
  have HR1 := Aside0.mk hr1
  have HC1 := Aside0.mk hc1
  clear hr1 hc1
  have HB := Aside0.mk (Below.refl w.heap.size w)
  have H : ((spec_l5Perm.f k l1).bind fun t530 => (if t530 = true then (spec_l5In.l0 k l0 l1 0) else (some false))) = some r := h
  clear h
  replace H := Option.bind_eq_some_iff.mp H
  obtain ⟨t530, A30, H⟩ := H
  replace H : (if t530 = true then (spec_l5In.l0 k l0 l1 0) else (some false)) = some r := H
  have A3 := Aside0.mk A30
  clear A30
  by_cases c4 : t530 = true
  · subst c4
    have H1 : (spec_l5In.l0 k l0 l1 0) = some r := by rw [if_pos rfl] at H; exact H
    clear H
    have H := H1
    clear H1
    have H' := Aside0.mk H
    clear H
    go_enter Try.func80, Try.ntmps80
    go_wp2_with (first | ((with_reducible refine gate_callee (f := 119) rfl ?_); refine goesL_ (some 9) rfl rfl Try.func119 (by kernel_rfl) rfl #[.slice A1 l1.length c1] rfl (by (try simp only [List.map_toArray, List.map_cons, List.map_nil]); first | done | rfl | (simp only [List.length_drop, List.length_take]; rfl)) ?_; (with_reducible refine (spec_l5Perm.calls k _ _ l1 true _ ?side1 ?side2 A3.out).mono ?_); (case side1 => repeat (first | exact HR1.out | (with_reducible refine Kd.C_alloc ?_ _) | (with_reducible refine Kd.C_drewN ?_ _) | (with_reducible refine Kd.C_drew ?_))); (case side2 => exact HC1.out); rintro e w5 ⟨rfl, hb⟩; refine ⟨_, rfl, ?_⟩; have n0_ := Aside0.mk (below_step (by repeat (first | (with_reducible first | exact HB.out | apply below_alloc | apply pw_below_drewN | apply below_drew1) | exact HB.out)) hb); clear HB; have HB := n0_; clear n0_; (try clear hb); (try clear hb2); (try clear hk); (try clear hi)))
    go_loopg [5] k (fun kq v5 w' => ∃ (x5_1 : Int), v5 = .int .i64 x5_1 ∧ Aside0 (spec_l5In.l0 kq l0 l1 x5_1 = some r) ∧ Aside0 (kq ≤ k) ∧ Aside0 (Below w.heap.size w w'))
    case atStart => exact ⟨(0), (by first | rfl | (simp; done) | (simp [*]; done)), H', ⟨Nat.le_refl _⟩, ⟨by repeat (first | (with_reducible first | exact HB.out | apply below_alloc | apply pw_below_drewN | apply below_drew1) | exact HB.out)⟩⟩
    case round =>
      clear H'
      try clear c1
      try clear p2
      try clear c4
      obtain ⟨x5_1, rfl, HA, HK1, HB⟩ := hrel
      cases gk with
      | zero => exact absurd HA.out (by simp [spec_l5In.l0])
      | succ k1 =>
        have H := HA.out
        clear HA
        simp only [spec_l5In.l0] at H
        by_cases c6 : x5_1 < 91
        · rw [if_pos c6] at H
          have c6b0 : decide (x5_1 < 91) = true := decide_eq_true c6
          clear c6
          replace H := Option.bind_eq_some_iff.mp H
          obtain ⟨⟨t531, t532⟩, A70, H⟩ := H
          replace H : (if t532 = true then (spec_l5In.l0 k1 l0 l1 (wrap64 (x5_1 + 1))) else (some false)) = some r := H
          have A7 := Aside0.mk A70
          clear A70
          by_cases c8 : t532 = true
          · subst c8
            have H1 : (spec_l5In.l0 k1 l0 l1 (wrap64 (x5_1 + 1))) = some r := by rw [if_pos rfl] at H; exact H
            clear H
            have H := H1
            clear H1
            have H' := Aside0.mk H
            clear H
            go_wp2_with (first | ((with_reducible refine gate_callee (f := 87) rfl ?_); refine goesL_ (some 19) rfl rfl Try.func87 (by kernel_rfl) rfl #[.slice A0 l0.length c0, .slice A1 l1.length c1, .int .i64 x5_1] rfl (by (try simp only [List.map_toArray, List.map_cons, List.map_nil]); first | done | rfl | (simp only [List.length_drop, List.length_take]; rfl)) ?_; (with_reducible refine (spec_l5Line.calls k1 _ _ l0 _ _ l1 x5_1 t531 true _ ?side1 ?side2 ?side3 ?side4 A7.out).mono ?_); (case side1 => repeat (first | exact (Kd.C_below HR0.out HB.out) | (with_reducible refine Kd.C_alloc ?_ _) | (with_reducible refine Kd.C_drewN ?_ _) | (with_reducible refine Kd.C_drew ?_))); (case side2 => exact HC0.out); (case side3 => repeat (first | exact (Kd.C_below HR1.out HB.out) | (with_reducible refine Kd.C_alloc ?_ _) | (with_reducible refine Kd.C_drewN ?_ _) | (with_reducible refine Kd.C_drew ?_))); (case side4 => exact HC1.out); rintro e w9 ⟨rfl, hb⟩; refine ⟨_, rfl, ?_⟩; have n0_ := Aside0.mk (below_step (by repeat (first | (with_reducible first | exact HB.out | apply below_alloc | apply pw_below_drewN | apply below_drew1) | exact HB.out)) hb); clear HB; have HB := n0_; clear n0_; (try clear hb); (try clear hb2); (try clear hk); (try clear hi)))
            go_roundg k1
            case measure => have := HK1.out; omega
            case rel => exact ⟨(wrap64 (x5_1 + 1)), (by first | rfl | (simp; done) | (simp [*]; done)), H', ⟨by have := HK1.out; omega⟩, ⟨by repeat (first | (with_reducible first | exact HB.out | apply below_alloc | apply pw_below_drewN | apply below_drew1) | exact HB.out)⟩⟩
          · replace c8 := Bool.eq_false_iff.mpr c8
            subst c8
            have H1 : (some false) = some r := by rw [if_neg (show ¬ (false = true) by decide)] at H; exact H
            clear H
            have H := H1
            clear H1
            obtain rfl := Option.some.inj H
            go_wp2_with (first | ((with_reducible refine gate_callee (f := 87) rfl ?_); refine goesL_ (some 19) rfl rfl Try.func87 (by kernel_rfl) rfl #[.slice A0 l0.length c0, .slice A1 l1.length c1, .int .i64 x5_1] rfl (by (try simp only [List.map_toArray, List.map_cons, List.map_nil]); first | done | rfl | (simp only [List.length_drop, List.length_take]; rfl)) ?_; (with_reducible refine (spec_l5Line.calls k1 _ _ l0 _ _ l1 x5_1 t531 false _ ?side1 ?side2 ?side3 ?side4 A7.out).mono ?_); (case side1 => repeat (first | exact (Kd.C_below HR0.out HB.out) | (with_reducible refine Kd.C_alloc ?_ _) | (with_reducible refine Kd.C_drewN ?_ _) | (with_reducible refine Kd.C_drew ?_))); (case side2 => exact HC0.out); (case side3 => repeat (first | exact (Kd.C_below HR1.out HB.out) | (with_reducible refine Kd.C_alloc ?_ _) | (with_reducible refine Kd.C_drewN ?_ _) | (with_reducible refine Kd.C_drew ?_))); (case side4 => exact HC1.out); rintro e w10 ⟨rfl, hb⟩; refine ⟨_, rfl, ?_⟩; have n0_ := Aside0.mk (below_step (by repeat (first | (with_reducible first | exact HB.out | apply below_alloc | apply pw_below_drewN | apply below_drew1) | exact HB.out)) hb); clear HB; have HB := n0_; clear n0_; (try clear hb); (try clear hb2); (try clear hk); (try clear hi)))
            go_ret
            exact ⟨by first | rfl | (simp [errW_none, errW_some] <;> rfl) | (simp [*, errW_none, errW_some] <;> rfl), by repeat (first | (with_reducible first | exact HB.out | apply below_alloc | apply pw_below_drewN | apply below_drew1) | exact HB.out)⟩
        · rw [if_neg c6] at H
          have c6b0 : decide (x5_1 < 91) = false := decide_eq_false c6
          clear c6
          obtain rfl := Option.some.inj H
          go_wp2
          go_ret
          exact ⟨by first | rfl | (simp [errW_none, errW_some] <;> rfl) | (simp [*, errW_none, errW_some] <;> rfl), by repeat (first | (with_reducible first | exact HB.out | apply below_alloc | apply pw_below_drewN | apply below_drew1) | exact HB.out)⟩
  · replace c4 := Bool.eq_false_iff.mpr c4
    subst c4
    have H1 : (some false) = some r := by rw [if_neg (show ¬ (false = true) by decide)] at H; exact H
    clear H
    have H := H1
    clear H1
    obtain rfl := Option.some.inj H
    go_enter Try.func80, Try.ntmps80
    go_wp2_with (first | ((with_reducible refine gate_callee (f := 119) rfl ?_); refine goesL_ (some 9) rfl rfl Try.func119 (by kernel_rfl) rfl #[.slice A1 l1.length c1] rfl (by (try simp only [List.map_toArray, List.map_cons, List.map_nil]); first | done | rfl | (simp only [List.length_drop, List.length_take]; rfl)) ?_; (with_reducible refine (spec_l5Perm.calls k _ _ l1 false _ ?side1 ?side2 A3.out).mono ?_); (case side1 => repeat (first | exact HR1.out | (with_reducible refine Kd.C_alloc ?_ _) | (with_reducible refine Kd.C_drewN ?_ _) | (with_reducible refine Kd.C_drew ?_))); (case side2 => exact HC1.out); rintro e w11 ⟨rfl, hb⟩; refine ⟨_, rfl, ?_⟩; have n0_ := Aside0.mk (below_step (by repeat (first | (with_reducible first | exact HB.out | apply below_alloc | apply pw_below_drewN | apply below_drew1) | exact HB.out)) hb); clear HB; have HB := n0_; clear n0_; (try clear hb); (try clear hb2); (try clear hk); (try clear hi)))
    go_ret
    exact ⟨by first | rfl | (simp [errW_none, errW_some] <;> rfl) | (simp [*, errW_none, errW_some] <;> rfl), by repeat (first | (with_reducible first | exact HB.out | apply below_alloc | apply pw_below_drewN | apply below_drew1) | exact HB.out)⟩

end Go.Proofs.Ytfoadgbffidgaaa.P

namespace Go.Proofs.Ytfoadgbffidgaaa.P
open Go.RowKit Go.Proofs.YtfoadgbffidgaaaW.PrintWords Go.Proofs.YtfoadgbffidgaaaW.PrintLast Go.Proofs.YtfoadgbffidgaaaW.PrintMore
attribute [local go_sem] max2_int min2_int max_two min_two max_three min_three max_four min_four   -- for this text's walks alone
set_option linter.unusedVariables false
set_option linter.unusedSimpArgs false

/-! ### spec_MoveIn: function 40 -/
def spec_MoveIn.f (k : Nat) (l0 : List Int) (l1 : List Int) : Option (Bool) := (spec_SystemIn.f k l0).bind fun t533 => (if t533 = true then ((spec_l5In.f k l0 l1).bind fun t534 => (some t534)) else (some false))
theorem spec_MoveIn.mono : ∀ a0 a1 k, LeO (spec_MoveIn.f k a0 a1) (spec_MoveIn.f (k + 1) a0 a1) := by
  intro a0 a1 k
  unfold spec_MoveIn.f
  repeat' first
      | (with_reducible exact spec_SystemIn.mono _ _)
      | (with_reducible exact spec_l5In.mono _ _ _)
      | (with_reducible exact LeO.refl _)
      | (with_reducible exact LeO.none _)
      | (with_reducible refine LeO.ite ?_ ?_)
      | (with_reducible refine LeO.bind ?_ (fun _ => ?_))
      | exact spec_SystemIn.mono _ _
      | exact spec_l5In.mono _ _ _
      | exact LeO.none _
      | refine LeO.ite ?_ ?_
      | refine LeO.bind ?_ (fun _ => ?_)
set_option maxHeartbeats 8000000 in
set_option maxRecDepth 100000 in
theorem spec_MoveIn.calls (k : Nat) (A0 : Option Addr) (c0 : Nat) (l0 : List Int) (A1 : Option Addr) (c1 : Nat) (l1 : List Int) (r : Bool) (w : World) (hr0 : Kd.C (Kd.int .i64) w A0 l0.length l0) (hc0 : l0.length ≤ c0) (hr1 : Kd.C (Kd.int .i64) w A1 l1.length l1) (hc1 : l1.length ≤ c1) (h : spec_MoveIn.f k l0 l1 = some r) :
    Calls Try.prog 40 #[.slice A0 l0.length c0, .slice A1 l1.length c1] w fun e w' => e = .returned (.bool r) ∧ Below w.heap.size w w' := by
  have HR0 := Aside0.mk hr0
  have HC0 := Aside0.mk hc0
  clear hr0 hc0
  have HR1 := Aside0.mk hr1
  have HC1 := Aside0.mk hc1
  clear hr1 hc1
  have HB := Aside0.mk (Below.refl w.heap.size w)
  have H : ((spec_SystemIn.f k l0).bind fun t533 => (if t533 = true then ((spec_l5In.f k l0 l1).bind fun t534 => (some t534)) else (some false))) = some r := h
  clear h
  replace H := Option.bind_eq_some_iff.mp H
  obtain ⟨t533, A30, H⟩ := H
  replace H : (if t533 = true then ((spec_l5In.f k l0 l1).bind fun t534 => (some t534)) else (some false)) = some r := H
  have A3 := Aside0.mk A30
  clear A30
  by_cases c4 : t533 = true
  · subst c4
    have H1 : ((spec_l5In.f k l0 l1).bind fun t534 => (some t534)) = some r := by rw [if_pos rfl] at H; exact H
    clear H
    have H := H1
    clear H1
    replace H := Option.bind_eq_some_iff.mp H
    obtain ⟨t534, A50, H⟩ := H
    replace H : (some t534) = some r := H
    have A5 := Aside0.mk A50
    clear A50
    obtain rfl := Option.some.inj H
    go_enter Try.func40, Try.ntmps40
    go_wp2_with (first | ((with_reducible refine gate_callee (f := 55) rfl ?_); refine goesL_ (some 6) rfl rfl Try.func55 (by kernel_rfl) rfl #[.slice A0 l0.length c0] rfl (by (try simp only [List.map_toArray, List.map_cons, List.map_nil]); first | done | rfl | (simp only [List.length_drop, List.length_take]; rfl)) ?_; (with_reducible refine (spec_SystemIn.calls k _ _ l0 true _ ?side1 ?side2 A3.out).mono ?_); (case side1 => repeat (first | exact HR0.out | (with_reducible refine Kd.C_alloc ?_ _) | (with_reducible refine Kd.C_drewN ?_ _) | (with_reducible refine Kd.C_drew ?_))); (case side2 => exact HC0.out); rintro e w6 ⟨rfl, hb⟩; refine ⟨_, rfl, ?_⟩; have n0_ := Aside0.mk (below_step (by repeat (first | (with_reducible first | exact HB.out | apply below_alloc | apply pw_below_drewN | apply below_drew1) | exact HB.out)) hb); clear HB; have HB := n0_; clear n0_; (try clear hb); (try clear hb2); (try clear hk); (try clear hi)) | (go_at_call 80; (with_reducible refine (spec_l5In.calls k _ _ l0 _ _ l1 t534 _ ?side1 ?side2 ?side3 ?side4 A5.out).mono ?_); (case side1 => repeat (first | exact (Kd.C_below HR0.out HB.out) | (with_reducible refine Kd.C_alloc ?_ _) | (with_reducible refine Kd.C_drewN ?_ _) | (with_reducible refine Kd.C_drew ?_))); (case side2 => exact HC0.out); (case side3 => repeat (first | exact (Kd.C_below HR1.out HB.out) | (with_reducible refine Kd.C_alloc ?_ _) | (with_reducible refine Kd.C_drewN ?_ _) | (with_reducible refine Kd.C_drew ?_))); (case side4 => exact HC1.out); rintro e w7 ⟨rfl, hb⟩; have n0_ := Aside0.mk (below_step (by repeat (first | (with_reducible first | exact HB.out | apply below_alloc | apply pw_below_drewN | apply below_drew1) | exact HB.out)) hb); clear HB; have HB := n0_; clear n0_; (try clear hb); (try clear hb2); (try clear hk); (try clear hi)))
    go_ret
    exact ⟨by first | rfl | (simp [errW_none, errW_some] <;> rfl) | (simp [*, errW_none, errW_some] <;> rfl), by repeat (first | (with_reducible first | exact HB.out | apply below_alloc | apply pw_below_drewN | apply below_drew1) | exact HB.out)⟩
  · replace c4 := Bool.eq_false_iff.mpr c4
    subst c4
    have H1 : (some false) = some r := by rw [if_neg (show ¬ (false = true) by decide)] at H; exact H
    clear H
    have H := H1
    clear H1
    obtain rfl := Option.some.inj H
    go_enter Try.func40, Try.ntmps40
    go_wp2_with (first | ((with_reducible refine gate_callee (f := 55) rfl ?_); refine goesL_ (some 6) rfl rfl Try.func55 (by kernel_rfl) rfl #[.slice A0 l0.length c0] rfl (by (try simp only [List.map_toArray, List.map_cons, List.map_nil]); first | done | rfl | (simp only [List.length_drop, List.length_take]; rfl)) ?_; (with_reducible refine (spec_SystemIn.calls k _ _ l0 false _ ?side1 ?side2 A3.out).mono ?_); (case side1 => repeat (first | exact HR0.out | (with_reducible refine Kd.C_alloc ?_ _) | (with_reducible refine Kd.C_drewN ?_ _) | (with_reducible refine Kd.C_drew ?_))); (case side2 => exact HC0.out); rintro e w8 ⟨rfl, hb⟩; refine ⟨_, rfl, ?_⟩; have n0_ := Aside0.mk (below_step (by repeat (first | (with_reducible first | exact HB.out | apply below_alloc | apply pw_below_drewN | apply below_drew1) | exact HB.out)) hb); clear HB; have HB := n0_; clear n0_; (try clear hb); (try clear hb2); (try clear hk); (try clear hi)))
    go_ret
    exact ⟨by first | rfl | (simp [errW_none, errW_some] <;> rfl) | (simp [*, errW_none, errW_some] <;> rfl), by repeat (first | (with_reducible first | exact HB.out | apply below_alloc | apply pw_below_drewN | apply below_drew1) | exact HB.out)⟩

end Go.Proofs.Ytfoadgbffidgaaa.P

namespace Go.Proofs.Ytfoadgbffidgaaa.P
open Go.RowKit Go.Proofs.YtfoadgbffidgaaaW.PrintWords Go.Proofs.YtfoadgbffidgaaaW.PrintLast Go.Proofs.YtfoadgbffidgaaaW.PrintMore
attribute [local go_sem] max2_int min2_int max_two min_two max_three min_three max_four min_four   -- for this text's walks alone
set_option linter.unusedVariables false
set_option linter.unusedSimpArgs false

/-! ### spec_MoveLine: function 45 -/
def spec_MoveLine.f (k : Nat) (l0 : List Int) (l1 : List Int) (a2 : Int) : Option (Int × Bool) := (spec_MoveIn.f k l0 l1).bind fun t615 => (if t615 = true then ((spec_l3In.f a2).bind fun t616 => (if t616 = true then ((spec_l5Line.f k l0 l1 a2).bind fun bt617 => (some (bt617.1, bt617.2))) else (some (0, false)))) else (some (0, false)))
theorem spec_MoveLine.mono : ∀ a0 a1 a2 k, LeO (spec_MoveLine.f k a0 a1 a2) (spec_MoveLine.f (k + 1) a0 a1 a2) := by
  intro a0 a1 a2 k
  unfold spec_MoveLine.f
  repeat' first
      | (with_reducible exact spec_MoveIn.mono _ _ _)
      | (with_reducible exact spec_l5Line.mono _ _ _ _)
      | (with_reducible exact LeO.refl _)
      | (with_reducible exact LeO.none _)
      | (with_reducible refine LeO.ite ?_ ?_)
      | (with_reducible refine LeO.bind ?_ (fun _ => ?_))
      | exact spec_MoveIn.mono _ _ _
      | exact spec_l5Line.mono _ _ _ _
      | exact LeO.none _
      | refine LeO.ite ?_ ?_
      | refine LeO.bind ?_ (fun _ => ?_)
set_option maxHeartbeats 8000000 in
set_option maxRecDepth 100000 in
theorem spec_MoveLine.calls (k : Nat) (A0 : Option Addr) (c0 : Nat) (l0 : List Int) (A1 : Option Addr) (c1 : Nat) (l1 : List Int) (a2 : Int) (r1 : Int) (r2 : Bool) (w : World) (hr0 : Kd.C (Kd.int .i64) w A0 l0.length l0) (hc0 : l0.length ≤ c0) (hr1 : Kd.C (Kd.int .i64) w A1 l1.length l1) (hc1 : l1.length ≤ c1) (h : spec_MoveLine.f k l0 l1 a2 = some (r1, r2)) :
    Calls Try.prog 45 #[.slice A0 l0.length c0, .slice A1 l1.length c1, .int .i64 a2] w fun e w' => e = .returned (.tuple #[.int .i64 r1, .bool r2]) ∧ Below w.heap.size w w' := by
  have HR0 := Aside0.mk hr0
  have HC0 := Aside0.mk hc0
  clear hr0 hc0
  have HR1 := Aside0.mk hr1
  have HC1 := Aside0.mk hc1
  clear hr1 hc1
  have HB := Aside0.mk (Below.refl w.heap.size w)
  have H : ((spec_MoveIn.f k l0 l1).bind fun t615 => (if t615 = true then ((spec_l3In.f a2).bind fun t616 => (if t616 = true then ((spec_l5Line.f k l0 l1 a2).bind fun bt617 => (some (bt617.1, bt617.2))) else (some (0, false)))) else (some (0, false)))) = some (r1, r2) := h
  clear h
  replace H := Option.bind_eq_some_iff.mp H
  obtain ⟨t615, A40, H⟩ := H
  replace H : (if t615 = true then ((spec_l3In.f a2).bind fun t616 => (if t616 = true then ((spec_l5Line.f k l0 l1 a2).bind fun bt617 => (some (bt617.1, bt617.2))) else (some (0, false)))) else (some (0, false))) = some (r1, r2) := H
  have A4 := Aside0.mk A40
  clear A40
  by_cases c5 : t615 = true
  · subst c5
    have H1 : ((spec_l3In.f a2).bind fun t616 => (if t616 = true then ((spec_l5Line.f k l0 l1 a2).bind fun bt617 => (some (bt617.1, bt617.2))) else (some (0, false)))) = some (r1, r2) := by rw [if_pos rfl] at H; exact H
    clear H
    have H := H1
    clear H1
    replace H := Option.bind_eq_some_iff.mp H
    obtain ⟨t616, A60, H⟩ := H
    replace H : (if t616 = true then ((spec_l5Line.f k l0 l1 a2).bind fun bt617 => (some (bt617.1, bt617.2))) else (some (0, false))) = some (r1, r2) := H
    have A6 := Aside0.mk A60
    clear A60
    by_cases c7 : t616 = true
    · subst c7
      have H1 : ((spec_l5Line.f k l0 l1 a2).bind fun bt617 => (some (bt617.1, bt617.2))) = some (r1, r2) := by rw [if_pos rfl] at H; exact H
      clear H
      have H := H1
      clear H1
      replace H := Option.bind_eq_some_iff.mp H
      obtain ⟨⟨t617, t618⟩, A80, H⟩ := H
      replace H : (some (t617, t618)) = some (r1, r2) := H
      have A8 := Aside0.mk A80
      clear A80
      simp only [Option.some.injEq, Prod.mk.injEq] at H
      obtain ⟨rfl, rfl⟩ := H
      go_enter Try.func45, Try.ntmps45
      go_wp2_with (first | ((with_reducible refine gate_callee (f := 40) rfl ?_); refine goesL_ (some 10) rfl rfl Try.func40 (by kernel_rfl) rfl #[.slice A0 l0.length c0, .slice A1 l1.length c1] rfl (by (try simp only [List.map_toArray, List.map_cons, List.map_nil]); first | done | rfl | (simp only [List.length_drop, List.length_take]; rfl)) ?_; (with_reducible refine (spec_MoveIn.calls k _ _ l0 _ _ l1 true _ ?side1 ?side2 ?side3 ?side4 A4.out).mono ?_); (case side1 => repeat (first | exact HR0.out | (with_reducible refine Kd.C_alloc ?_ _) | (with_reducible refine Kd.C_drewN ?_ _) | (with_reducible refine Kd.C_drew ?_))); (case side2 => exact HC0.out); (case side3 => repeat (first | exact HR1.out | (with_reducible refine Kd.C_alloc ?_ _) | (with_reducible refine Kd.C_drewN ?_ _) | (with_reducible refine Kd.C_drew ?_))); (case side4 => exact HC1.out); rintro e w9 ⟨rfl, hb⟩; refine ⟨_, rfl, ?_⟩; have n0_ := Aside0.mk (below_step (by repeat (first | (with_reducible first | exact HB.out | apply below_alloc | apply pw_below_drewN | apply below_drew1) | exact HB.out)) hb); clear HB; have HB := n0_; clear n0_; (try clear hb); (try clear hb2); (try clear hk); (try clear hi)) | (go_at_call 86; (with_reducible refine (spec_l3In.calls a2 true _ A6.out).mono ?_); rintro e w' ⟨rfl, ⟨nd, rfl⟩⟩) | ((with_reducible refine gate_callee (f := 87) rfl ?_); refine goesL_ (some 20) rfl rfl Try.func87 (by kernel_rfl) rfl #[.slice A0 l0.length c0, .slice A1 l1.length c1, .int .i64 a2] rfl (by (try simp only [List.map_toArray, List.map_cons, List.map_nil]); first | done | rfl | (simp only [List.length_drop, List.length_take]; rfl)) ?_; (with_reducible refine (spec_l5Line.calls k _ _ l0 _ _ l1 a2 t617 t618 _ ?side1 ?side2 ?side3 ?side4 A8.out).mono ?_); (case side1 => repeat (first | exact (Kd.C_below HR0.out (by repeat (first | (with_reducible first | exact HB.out | apply below_alloc | apply pw_below_drewN | apply below_drew1) | exact HB.out))) | (with_reducible refine Kd.C_alloc ?_ _) | (with_reducible refine Kd.C_drewN ?_ _) | (with_reducible refine Kd.C_drew ?_))); (case side2 => exact HC0.out); (case side3 => repeat (first | exact (Kd.C_below HR1.out (by repeat (first | (with_reducible first | exact HB.out | apply below_alloc | apply pw_below_drewN | apply below_drew1) | exact HB.out))) | (with_reducible refine Kd.C_alloc ?_ _) | (with_reducible refine Kd.C_drewN ?_ _) | (with_reducible refine Kd.C_drew ?_))); (case side4 => exact HC1.out); rintro e w10 ⟨rfl, hb⟩; refine ⟨_, rfl, ?_⟩; have n0_ := Aside0.mk (below_step (by repeat (first | (with_reducible first | exact HB.out | apply below_alloc | apply pw_below_drewN | apply below_drew1) | exact HB.out)) hb); clear HB; have HB := n0_; clear n0_; (try clear hb); (try clear hb2); (try clear hk); (try clear hi)))
      go_ret2
      exact ⟨by first | rfl | (simp [errW_none, errW_some] <;> rfl) | (simp [*, errW_none, errW_some] <;> rfl), by repeat (first | (with_reducible first | exact HB.out | apply below_alloc | apply pw_below_drewN | apply below_drew1) | exact HB.out)⟩
    · replace c7 := Bool.eq_false_iff.mpr c7
      subst c7
      have H1 : (some (0, false)) = some (r1, r2) := by rw [if_neg (show ¬ (false = true) by decide)] at H; exact H
      clear H
      have H := H1
      clear H1
      simp only [Option.some.injEq, Prod.mk.injEq] at H
      obtain ⟨rfl, rfl⟩ := H
      go_enter Try.func45, Try.ntmps45
      go_wp2_with (first | ((with_reducible refine gate_callee (f := 40) rfl ?_); refine goesL_ (some 10) rfl rfl Try.func40 (by kernel_rfl) rfl #[.slice A0 l0.length c0, .slice A1 l1.length c1] rfl (by (try simp only [List.map_toArray, List.map_cons, List.map_nil]); first | done | rfl | (simp only [List.length_drop, List.length_take]; rfl)) ?_; (with_reducible refine (spec_MoveIn.calls k _ _ l0 _ _ l1 true _ ?side1 ?side2 ?side3 ?side4 A4.out).mono ?_); (case side1 => repeat (first | exact HR0.out | (with_reducible refine Kd.C_alloc ?_ _) | (with_reducible refine Kd.C_drewN ?_ _) | (with_reducible refine Kd.C_drew ?_))); (case side2 => exact HC0.out); (case side3 => repeat (first | exact HR1.out | (with_reducible refine Kd.C_alloc ?_ _) | (with_reducible refine Kd.C_drewN ?_ _) | (with_reducible refine Kd.C_drew ?_))); (case side4 => exact HC1.out); rintro e w11 ⟨rfl, hb⟩; refine ⟨_, rfl, ?_⟩; have n0_ := Aside0.mk (below_step (by repeat (first | (with_reducible first | exact HB.out | apply below_alloc | apply pw_below_drewN | apply below_drew1) | exact HB.out)) hb); clear HB; have HB := n0_; clear n0_; (try clear hb); (try clear hb2); (try clear hk); (try clear hi)) | (go_at_call 86; (with_reducible refine (spec_l3In.calls a2 false _ A6.out).mono ?_); rintro e w' ⟨rfl, ⟨nd, rfl⟩⟩))
      go_ret2
      exact ⟨by first | rfl | (simp [errW_none, errW_some] <;> rfl) | (simp [*, errW_none, errW_some] <;> rfl), by repeat (first | (with_reducible first | exact HB.out | apply below_alloc | apply pw_below_drewN | apply below_drew1) | exact HB.out)⟩
  · replace c5 := Bool.eq_false_iff.mpr c5
    subst c5
    have H1 : (some (0, false)) = some (r1, r2) := by rw [if_neg (show ¬ (false = true) by decide)] at H; exact H
    clear H
    have H := H1
    clear H1
    simp only [Option.some.injEq, Prod.mk.injEq] at H
    obtain ⟨rfl, rfl⟩ := H
    go_enter Try.func45, Try.ntmps45
    go_wp2_with (first | ((with_reducible refine gate_callee (f := 40) rfl ?_); refine goesL_ (some 10) rfl rfl Try.func40 (by kernel_rfl) rfl #[.slice A0 l0.length c0, .slice A1 l1.length c1] rfl (by (try simp only [List.map_toArray, List.map_cons, List.map_nil]); first | done | rfl | (simp only [List.length_drop, List.length_take]; rfl)) ?_; (with_reducible refine (spec_MoveIn.calls k _ _ l0 _ _ l1 false _ ?side1 ?side2 ?side3 ?side4 A4.out).mono ?_); (case side1 => repeat (first | exact HR0.out | (with_reducible refine Kd.C_alloc ?_ _) | (with_reducible refine Kd.C_drewN ?_ _) | (with_reducible refine Kd.C_drew ?_))); (case side2 => exact HC0.out); (case side3 => repeat (first | exact HR1.out | (with_reducible refine Kd.C_alloc ?_ _) | (with_reducible refine Kd.C_drewN ?_ _) | (with_reducible refine Kd.C_drew ?_))); (case side4 => exact HC1.out); rintro e w12 ⟨rfl, hb⟩; refine ⟨_, rfl, ?_⟩; have n0_ := Aside0.mk (below_step (by repeat (first | (with_reducible first | exact HB.out | apply below_alloc | apply pw_below_drewN | apply below_drew1) | exact HB.out)) hb); clear HB; have HB := n0_; clear n0_; (try clear hb); (try clear hb2); (try clear hk); (try clear hi)))
    go_ret2
    exact ⟨by first | rfl | (simp [errW_none, errW_some] <;> rfl) | (simp [*, errW_none, errW_some] <;> rfl), by repeat (first | (with_reducible first | exact HB.out | apply below_alloc | apply pw_below_drewN | apply below_drew1) | exact HB.out)⟩

end Go.Proofs.Ytfoadgbffidgaaa.P
