/- The law FnSquareOf of the given program: for every input the call returns true, and each argument reads afterwards as it read before. No conditions. (Part 3 of 3; the last part holds the theorem.) -/
import Derived.Test.YtfoadgbffidgaaaMFnSquareOf0
import Derived.Test.YtfoadgbffidgaaaMFnSquareOf1
import Derived.Test.YtfoadgbffidgaaaRows
import Derived.WalkKit
import Derived.ProofKit
import Derived.OpenShut
import Derived.ShutString
import Derived.ChangeOld
import Derived.Below
import Derived.SizedLaws
import Derived.Test.YtfoadgbffidgaaaWSized
namespace Go.Proofs.Ytfoadgbffidgaaa.P
open Go.RowKit Go.Proofs.YtfoadgbffidgaaaW.PrintWords Go.Proofs.YtfoadgbffidgaaaW.PrintLast Go.Proofs.YtfoadgbffidgaaaW.PrintMore
attribute [local go_sem] max2_int min2_int max_two min_two max_three min_three max_four min_four   -- for this text's walks alone
set_option linter.unusedVariables false
set_option linter.unusedSimpArgs false

/-! ### spec_SquareTurned: function 30 -/
def spec_SquareTurned.l0 : Nat → List Int → List Int → Int → Option (List Int × Bool)
  | 0, _, _, _ => none
  | k + 1, x0, x4, x5 => if x5 < 81 then (if 0 ≤ (wrap64 ((wrap64 ((Int.tmod x5 9) * 9)) + (wrap64 (Int.tdiv x5 9)))) then (if (wrap64 ((wrap64 ((Int.tmod x5 9) * 9)) + (wrap64 (Int.tdiv x5 9)))) < (x0.length : Int) then (if x4.length < 17592186044416 then (spec_SquareTurned.l0 k x0 (x4 ++ [rd x0 (wrap64 ((wrap64 ((Int.tmod x5 9) * 9)) + (wrap64 (Int.tdiv x5 9))))]) (wrap64 (x5 + 1))) else (none)) else (none)) else (none)) else (some (x4, true))
def spec_SquareTurned.f (k : Nat) (l0 : List Int) : Option (List Int × Bool) := (some (([] : List Int) : List Int)).bind fun y341 => ((spec_SquareIn.f k l0).bind fun t344 => (if t344 = true then (spec_SquareTurned.l0 k l0 y341 0) else (some (y341, false))))
theorem spec_SquareTurned.mono_l : ∀ k, (∀ y0 y1 y2, LeO (spec_SquareTurned.l0 k y0 y1 y2) (spec_SquareTurned.l0 (k + 1) y0 y1 y2))
  | 0 => fun _ _ _ r h => by simp [spec_SquareTurned.l0] at h
  | k + 1 => by
    have ih0 := spec_SquareTurned.mono_l k
    · intro y0 y1 y2
      unfold spec_SquareTurned.l0
      repeat' first
      | (with_reducible exact ih0 _ _ _)
      | (with_reducible exact spec_SquareIn.mono _ _)
      | (with_reducible exact LeO.refl _)
      | (with_reducible exact LeO.none _)
      | (with_reducible refine LeO.ite ?_ ?_)
      | (with_reducible refine LeO.bind ?_ (fun _ => ?_))
      | exact ih0 _ _ _
      | exact spec_SquareIn.mono _ _
      | exact LeO.none _
      | refine LeO.ite ?_ ?_
      | refine LeO.bind ?_ (fun _ => ?_)
theorem spec_SquareTurned.mono : ∀ a0 k, LeO (spec_SquareTurned.f k a0) (spec_SquareTurned.f (k + 1) a0) := by
  intro a0 k
  have ih0 := spec_SquareTurned.mono_l k
  unfold spec_SquareTurned.f
  repeat' first
      | (with_reducible exact ih0 _ _ _)
      | (with_reducible exact spec_SquareIn.mono _ _)
      | (with_reducible exact LeO.refl _)
      | (with_reducible exact LeO.none _)
      | (with_reducible refine LeO.ite ?_ ?_)
      | (with_reducible refine LeO.bind ?_ (fun _ => ?_))
      | exact ih0 _ _ _
      | exact spec_SquareIn.mono _ _
      | exact LeO.none _
      | refine LeO.ite ?_ ?_
      | refine LeO.bind ?_ (fun _ => ?_)
set_option maxHeartbeats 8000000 in
set_option maxRecDepth 100000 in
theorem spec_SquareTurned.calls (k : Nat) (A0 : Option Addr) (c0 : Nat) (l0 : List Int) (r1 : List Int) (r2 : Bool) (w : World) (hr0 : Kd.C (Kd.int .i64) w A0 l0.length l0) (hc0 : l0.length ≤ c0) (h : spec_SquareTurned.f k l0 = some (r1, r2)) :
    Calls Try.prog 30 #[.slice A0 l0.length c0] w fun e w' => ∃ v0_ : Value, e = .returned (.tuple #[v0_, .bool r2]) ∧ Kd.R (Kd.int .i64) 3 w' w.heap.size (fun _ => True) v0_ r1 ∧ Below w.heap.size w w' := by
  have HR0 := Aside0.mk hr0
  have HC0 := Aside0.mk hc0
  clear hr0 hc0
  have HB := Aside0.mk (Below.refl w.heap.size w)
  have H : ((some (([] : List Int) : List Int)).bind fun y341 => ((spec_SquareIn.f k l0).bind fun t344 => (if t344 = true then (spec_SquareTurned.l0 k l0 y341 0) else (some (y341, false))))) = some (r1, r2) := h
  clear h
  obtain ⟨y341, hy341⟩ : ∃ y_ : List Int, y_ = (([] : List Int)) := ⟨_, rfl⟩
  replace H : ((spec_SquareIn.f k l0).bind fun t344 => (if t344 = true then (spec_SquareTurned.l0 k l0 y341 0) else (some (y341, false)))) = some (r1, r2) := by first | (rw [hy341]; with_reducible exact H) | (have H2_ := (Option.bind_some _ _).symm.trans H; rw [hy341]; with_reducible exact H2_) | (have H2_ := (Option.bind_some _ _).symm.trans H; with_reducible exact H2_) | with_reducible exact H | (rw [hy341]; exact H) | exact H
  have Ny341 := Aside0.mk hy341
  clear hy341
  replace H := Option.bind_eq_some_iff.mp H
  obtain ⟨t344, A20, H⟩ := H
  replace H : (if t344 = true then (spec_SquareTurned.l0 k l0 y341 0) else (some (y341, false))) = some (r1, r2) := H
  have A2 := Aside0.mk A20
  clear A20
  by_cases c3 : t344 = true
  · subst c3
    have H1 : (spec_SquareTurned.l0 k l0 y341 0) = some (r1, r2) := by rw [if_pos rfl] at H; exact H
    clear H
    have H := H1
    clear H1
    have H' := Aside0.mk H
    clear H
    go_enter Try.func30, Try.ntmps30
    go_wp2_with (first | ((with_reducible refine gate_dst (N := 6) rfl ?_); refine Kd.R_lit (Kd.int .i64) _ 3 ?hg (N := 6) ?hd (xs := ([] : List Int)) (inner := []) (ok := fun _ => True) (okp := fun _ => True) ?hr ?hp (fun _ hk => hk) trivial (Below.refl _ _) (Nat.le_refl _) (by simp) ?_; (case hd => rfl); (case hg => rfl); (case hr => first | (go_simp; done) | (go_simp; rfl)); (case hp => exact (Reps.none _ _)); intro v342 w4 ho5 hb hg_ hnew_; clear hg_ hnew_; (first | rw [← Ny341.out] at ho5 | (simp only [Int.reduceToNat] at ho5; rw [← Ny341.out] at ho5)); have n0_ := Aside0.mk (Kd.R_lower ho5 (below_size (by repeat (first | (with_reducible first | exact HB.out | apply below_alloc | apply pw_below_drewN | apply below_drew1) | exact HB.out)))); have n1_ := Aside0.mk (below_step (by repeat (first | (with_reducible first | exact HB.out | apply below_alloc | apply pw_below_drewN | apply below_drew1) | exact HB.out)) hb); clear HB; have HO343 := n0_; have HB := n1_; clear n0_ n1_; clear hb ho5) | ((with_reducible refine gate_callee (f := 34) rfl ?_); refine goesL_ (some 8) rfl rfl Try.func34 (by kernel_rfl) rfl #[.slice A0 l0.length c0] rfl (by (try simp only [List.map_toArray, List.map_cons, List.map_nil]); first | done | rfl | (simp only [List.length_drop, List.length_take]; rfl)) ?_; (with_reducible refine (spec_SquareIn.calls k _ _ l0 true _ ?side1 ?side2 A2.out).mono ?_); (case side1 => repeat (first | exact (Kd.C_below HR0.out HB.out) | (with_reducible refine Kd.C_alloc ?_ _) | (with_reducible refine Kd.C_drewN ?_ _) | (with_reducible refine Kd.C_drew ?_))); (case side2 => exact HC0.out); rintro e w6 ⟨rfl, hb⟩; refine ⟨_, rfl, ?_⟩; have n0_ := Aside0.mk (Kd.R_below (by (with_reducible repeat (first | apply Kd.R_alloc | apply Kd.R_drewN | apply Kd.R_drew)); exact HO343.out) hb); have n1_ := Aside0.mk (below_step (by repeat (first | (with_reducible first | exact HB.out | apply below_alloc | apply pw_below_drewN | apply below_drew1) | exact HB.out)) hb); clear HO343; clear HB; have HO343 := n0_; have HB := n1_; clear n0_ n1_; (try clear hb); (try clear hb2); (try clear hk); (try clear hi)))
    go_loopg [4, 5] k (fun kq v4 v5 w' => ∃ (x4_1 : List Int) (x5_1 : Int), v5 = .int .i64 x5_1 ∧ Aside0 (spec_SquareTurned.l0 kq l0 x4_1 x5_1 = some (r1, r2)) ∧ Aside0 (kq ≤ k) ∧ Aside0 (Kd.R (Kd.int .i64) 3 w' w.heap.size (fun _ => True) v4 x4_1) ∧ Aside0 (Below w.heap.size w w'))
    case atStart => exact ⟨(y341), (0), (by first | rfl | (simp; done) | (simp [*]; done)), H', ⟨Nat.le_refl _⟩, ⟨by (with_reducible repeat (first | apply Kd.R_alloc | apply Kd.R_drewN | apply Kd.R_drew)); exact HO343.out⟩, ⟨by repeat (first | (with_reducible first | exact HB.out | apply below_alloc | apply pw_below_drewN | apply below_drew1) | exact HB.out)⟩⟩
    case round =>
      clear H'
      try clear p2
      try clear c3
      obtain ⟨x4_1, x5_1, rfl, HA, HK1, HO_4, HB⟩ := hrel
      cases gk with
      | zero => exact absurd HA.out (by simp [spec_SquareTurned.l0])
      | succ k1 =>
        have H := HA.out
        clear HA
        simp only [spec_SquareTurned.l0] at H
        by_cases c7 : x5_1 < 81
        · rw [if_pos c7] at H
          have c7b0 : decide (x5_1 < 81) = true := decide_eq_true c7
          clear c7
          obtain ⟨ji8, hji8⟩ : ∃ j_ : Int, (wrap64 ((wrap64 ((Int.tmod x5_1 9) * 9)) + (wrap64 (Int.tdiv x5_1 9)))) = j_ := ⟨_, rfl⟩
          replace H : (if 0 ≤ (ji8) then (if (ji8) < (l0.length : Int) then (if x4_1.length < 17592186044416 then (spec_SquareTurned.l0 k1 l0 (x4_1 ++ [rd l0 (ji8)]) (wrap64 (x5_1 + 1))) else (none)) else (none)) else (none)) = some (r1, r2) := by first | (rw [hji8] at H; exact H) | (simp only [hji8] at H ⊢; exact H)
          have hji8w : (IntKind.i64.wrap ((wrap64 ((Int.tmod x5_1 9) * 9)) + (wrap64 (Int.tdiv x5_1 9)))) = ji8 := (i64_w _).trans hji8
          by_cases c9 : 0 ≤ (ji8)
          · rw [if_pos c9] at H
            have c9b0 : decide (0 ≤ (ji8)) = true := decide_eq_true c9
            clear c9
            by_cases c10 : (ji8) < (l0.length : Int)
            · rw [if_pos c10] at H
              have c10b0 : decide ((ji8) < (l0.length : Int)) = true := decide_eq_true c10
              clear c10
              by_cases c11 : x4_1.length < 17592186044416
              · rw [if_pos c11] at H
                have LMc11 := Aside0.mk c11
                clear c11
                obtain ⟨y346, hy346⟩ : ∃ y_ : List Int, y_ = (x4_1 ++ [rd l0 (ji8)]) := ⟨_, rfl⟩
                replace H : (spec_SquareTurned.l0 k1 l0 y346 (wrap64 (x5_1 + 1))) = some (r1, r2) := by first | (rw [hy346]; with_reducible exact H) | (have H2_ := (Option.bind_some _ _).symm.trans H; rw [hy346]; with_reducible exact H2_) | (have H2_ := (Option.bind_some _ _).symm.trans H; with_reducible exact H2_) | with_reducible exact H | (rw [hy346]; exact H) | exact H
                have Ny346 := Aside0.mk hy346
                clear hy346
                have H' := Aside0.mk H
                clear H
                have p345 : 0 ≤ ((ji8) : Int) := of_decide_eq_true (by first | (with_reducible assumption) | assumption)
                have q345 : (ji8) < (l0.length : Int) := of_decide_eq_true (by first | (with_reducible assumption) | assumption)
                obtain ⟨ad345, e345, hx345_0⟩ := Kd.at_int HR0.out (ji8) p345 q345
                cases e345
                replace hx345_0 := (HB.out.cell (World.block_lt_of_cell? w _ hx345_0)).trans hx345_0
                replace p345 := eq_true p345
                replace q345 := eq_true q345
                go_wp2_with (first | ((with_reducible refine gate_builtin (b := .append) (xs := #[.tmp 15, .tmp 25]) rfl ?_); at_builtin; refine Kd.R_append (Kd.int .i64) (w0 := w) w.heap.size rfl (.tmp 15) (.tmp 25) 27 3 (.int .i64 0) 8 rfl Try.underlying27 info3 rfl (by decide) (by omega) u4 x4_1 (rd l0 (ji8)) [.int .i64 (rd l0 (ji8))] (fun _ => True) (fun _ => False) rfl rfl ?aP (fun _ hk => hk.elim) ?aF ?aO ?aB ?aS ?aL ?_; (case aP => exact rfl); (case aB => exact (by repeat (first | (with_reducible first | exact HB.out | apply below_alloc | apply pw_below_drewN | apply below_drew1) | exact HB.out))); (case aF => exact (fun _ _ => trivial)); (case aO => exact (by (with_reducible repeat (first | apply Kd.R_alloc | apply Kd.R_drewN | apply Kd.R_drew)); exact HO_4.out)); (case aS => exact (below_size (by repeat (first | (with_reducible first | exact HB.out | apply below_alloc | apply pw_below_drewN | apply below_drew1) | exact HB.out)))); (case aL => have := LMc11.out; omega); intro v347 w12 ho hb hg hat; rw [← Ny346.out] at ho; have n0_ := Aside0.mk (hb); have n1_ := Aside0.mk (ho); clear HB; clear HO_4; have HB := n0_; have HO348 := n1_; clear n0_ n1_; clear ho hb hg hat))
                go_roundg k1
                case measure => have := HK1.out; omega
                case rel => exact ⟨(y346), (wrap64 (x5_1 + 1)), (by first | rfl | (simp; done) | (simp [*]; done)), H', ⟨by have := HK1.out; omega⟩, ⟨by (with_reducible repeat (first | apply Kd.R_alloc | apply Kd.R_drewN | apply Kd.R_drew)); exact HO348.out⟩, ⟨by repeat (first | (with_reducible first | exact HB.out | apply below_alloc | apply pw_below_drewN | apply below_drew1) | exact HB.out)⟩⟩
              · rw [if_neg c11] at H
                exact absurd H (by simp)
            · rw [if_neg c10] at H
              exact absurd H (by simp)
          · rw [if_neg c9] at H
            exact absurd H (by simp)
        · rw [if_neg c7] at H
          have c7b0 : decide (x5_1 < 81) = false := decide_eq_false c7
          clear c7
          simp only [Option.some.injEq, Prod.mk.injEq] at H
          obtain ⟨rfl, rfl⟩ := H
          go_wp2
          go_ret2
          exact ⟨_, by first | rfl | (simp [errW_none, errW_some] <;> rfl) | (simp [*, errW_none, errW_some] <;> rfl), by (with_reducible repeat (first | apply Kd.R_alloc | apply Kd.R_drewN | apply Kd.R_drew)); exact HO_4.out, by repeat (first | (with_reducible first | exact HB.out | apply below_alloc | apply pw_below_drewN | apply below_drew1) | exact HB.out)⟩
  · replace c3 := Bool.eq_false_iff.mpr c3
    subst c3
    have H1 : (some (y341, false)) = some (r1, r2) := by rw [if_neg (show ¬ (false = true) by decide)] at H; exact H
    clear H
    have H := H1
    clear H1
    simp only [Option.some.injEq, Prod.mk.injEq] at H
    obtain ⟨rfl, rfl⟩ := H
    go_enter Try.func30, Try.ntmps30
    go_wp2_with (first | ((with_reducible refine gate_dst (N := 6) rfl ?_); refine Kd.R_lit (Kd.int .i64) _ 3 ?hg (N := 6) ?hd (xs := ([] : List Int)) (inner := []) (ok := fun _ => True) (okp := fun _ => True) ?hr ?hp (fun _ hk => hk) trivial (Below.refl _ _) (Nat.le_refl _) (by simp) ?_; (case hd => rfl); (case hg => rfl); (case hr => first | (go_simp; done) | (go_simp; rfl)); (case hp => exact (Reps.none _ _)); intro v342 w13 ho14 hb hg_ hnew_; clear hg_ hnew_; (first | rw [← Ny341.out] at ho14 | (simp only [Int.reduceToNat] at ho14; rw [← Ny341.out] at ho14)); have n0_ := Aside0.mk (Kd.R_lower ho14 (below_size (by repeat (first | (with_reducible first | exact HB.out | apply below_alloc | apply pw_below_drewN | apply below_drew1) | exact HB.out)))); have n1_ := Aside0.mk (below_step (by repeat (first | (with_reducible first | exact HB.out | apply below_alloc | apply pw_below_drewN | apply below_drew1) | exact HB.out)) hb); clear HB; have HO343 := n0_; have HB := n1_; clear n0_ n1_; clear hb ho14) | ((with_reducible refine gate_callee (f := 34) rfl ?_); refine goesL_ (some 8) rfl rfl Try.func34 (by kernel_rfl) rfl #[.slice A0 l0.length c0] rfl (by (try simp only [List.map_toArray, List.map_cons, List.map_nil]); first | done | rfl | (simp only [List.length_drop, List.length_take]; rfl)) ?_; (with_reducible refine (spec_SquareIn.calls k _ _ l0 false _ ?side1 ?side2 A2.out).mono ?_); (case side1 => repeat (first | exact (Kd.C_below HR0.out HB.out) | (with_reducible refine Kd.C_alloc ?_ _) | (with_reducible refine Kd.C_drewN ?_ _) | (with_reducible refine Kd.C_drew ?_))); (case side2 => exact HC0.out); rintro e w15 ⟨rfl, hb⟩; refine ⟨_, rfl, ?_⟩; have n0_ := Aside0.mk (Kd.R_below (by (with_reducible repeat (first | apply Kd.R_alloc | apply Kd.R_drewN | apply Kd.R_drew)); exact HO343.out) hb); have n1_ := Aside0.mk (below_step (by repeat (first | (with_reducible first | exact HB.out | apply below_alloc | apply pw_below_drewN | apply below_drew1) | exact HB.out)) hb); clear HO343; clear HB; have HO343 := n0_; have HB := n1_; clear n0_ n1_; (try clear hb); (try clear hb2); (try clear hk); (try clear hi)))
    go_ret2
    exact ⟨_, by first | rfl | (simp [errW_none, errW_some] <;> rfl) | (simp [*, errW_none, errW_some] <;> rfl), by (with_reducible repeat (first | apply Kd.R_alloc | apply Kd.R_drewN | apply Kd.R_drew)); exact HO343.out, by repeat (first | (with_reducible first | exact HB.out | apply below_alloc | apply pw_below_drewN | apply below_drew1) | exact HB.out)⟩

end Go.Proofs.Ytfoadgbffidgaaa.P

namespace Go.Proofs.Ytfoadgbffidgaaa.P
open Go.RowKit Go.Proofs.YtfoadgbffidgaaaW.PrintWords Go.Proofs.YtfoadgbffidgaaaW.PrintLast Go.Proofs.YtfoadgbffidgaaaW.PrintMore
attribute [local go_sem] max2_int min2_int max_two min_two max_three min_three max_four min_four   -- for this text's walks alone
set_option linter.unusedVariables false
set_option linter.unusedSimpArgs false

/-! ### impl_SquareTurned: function 29 -/
mutual
def impl_SquareTurned.l0 : Nat → List Int → List Int → Int → Option (List Int × Bool)
  | 0, _, _, _ => none
  | k + 1, x0, x4, x11 => if x11 < 9 then (impl_SquareTurned.l1 k x0 x4 x11 x11 0) else (some (x4, true))
def impl_SquareTurned.l1 : Nat → List Int → List Int → Int → Int → Int → Option (List Int × Bool)
  | 0, _, _, _, _, _ => none
  | k + 1, x0, x4, x5, x11, x14 => if x14 < 9 then (if 0 ≤ (wrap64 ((wrap64 (9 * x14)) + x5)) then (if (wrap64 ((wrap64 (9 * x14)) + x5)) < (x0.length : Int) then (if x4.length < 17592186044416 then (impl_SquareTurned.l1 k x0 (x4 ++ [rd x0 (wrap64 ((wrap64 (9 * x14)) + x5))]) x5 x11 (wrap64 (x14 + 1))) else (none)) else (none)) else (none)) else (impl_SquareTurned.l0 k x0 x4 (wrap64 (x11 + 1)))
end
def impl_SquareTurned.f (k : Nat) (l0 : List Int) : Option (List Int × Bool) := (impl_isSquare.f l0).bind fun t318 => (if t318 = true then (impl_SquareTurned.l0 k l0 (([] : List Int)) 0) else (some (([] : List Int), false)))
theorem impl_SquareTurned.mono_l : ∀ k, (∀ y0 y1 y2, LeO (impl_SquareTurned.l0 k y0 y1 y2) (impl_SquareTurned.l0 (k + 1) y0 y1 y2)) ∧ (∀ y0 y1 y2 y3 y4, LeO (impl_SquareTurned.l1 k y0 y1 y2 y3 y4) (impl_SquareTurned.l1 (k + 1) y0 y1 y2 y3 y4))
  | 0 => ⟨fun _ _ _ r h => by simp [impl_SquareTurned.l0] at h, fun _ _ _ _ _ r h => by simp [impl_SquareTurned.l1] at h⟩
  | k + 1 => by
    obtain ⟨ih0, ih1⟩ := impl_SquareTurned.mono_l k
    refine ⟨?_, ?_⟩
    · intro y0 y1 y2
      unfold impl_SquareTurned.l0
      repeat' first
      | (with_reducible exact ih0 _ _ _)
      | (with_reducible exact ih1 _ _ _ _ _)
      | (with_reducible exact LeO.refl _)
      | (with_reducible exact LeO.none _)
      | (with_reducible refine LeO.ite ?_ ?_)
      | (with_reducible refine LeO.bind ?_ (fun _ => ?_))
      | exact ih0 _ _ _
      | exact ih1 _ _ _ _ _
      | exact LeO.none _
      | refine LeO.ite ?_ ?_
      | refine LeO.bind ?_ (fun _ => ?_)
    · intro y0 y1 y2 y3 y4
      unfold impl_SquareTurned.l1
      repeat' first
      | (with_reducible exact ih0 _ _ _)
      | (with_reducible exact ih1 _ _ _ _ _)
      | (with_reducible exact LeO.refl _)
      | (with_reducible exact LeO.none _)
      | (with_reducible refine LeO.ite ?_ ?_)
      | (with_reducible refine LeO.bind ?_ (fun _ => ?_))
      | exact ih0 _ _ _
      | exact ih1 _ _ _ _ _
      | exact LeO.none _
      | refine LeO.ite ?_ ?_
      | refine LeO.bind ?_ (fun _ => ?_)
theorem impl_SquareTurned.mono : ∀ a0 k, LeO (impl_SquareTurned.f k a0) (impl_SquareTurned.f (k + 1) a0) := by
  intro a0 k
  obtain ⟨ih0, ih1⟩ := impl_SquareTurned.mono_l k
  unfold impl_SquareTurned.f
  repeat' first
      | (with_reducible exact ih0 _ _ _)
      | (with_reducible exact ih1 _ _ _ _ _)
      | (with_reducible exact LeO.refl _)
      | (with_reducible exact LeO.none _)
      | (with_reducible refine LeO.ite ?_ ?_)
      | (with_reducible refine LeO.bind ?_ (fun _ => ?_))
      | exact ih0 _ _ _
      | exact ih1 _ _ _ _ _
      | exact LeO.none _
      | refine LeO.ite ?_ ?_
      | refine LeO.bind ?_ (fun _ => ?_)
set_option maxHeartbeats 8000000 in
set_option maxRecDepth 100000 in
theorem impl_SquareTurned.calls (k : Nat) (A0 : Option Addr) (c0 : Nat) (l0 : List Int) (r1 : List Int) (r2 : Bool) (w : World) (hr0 : Kd.C (Kd.int .i64) w A0 l0.length l0) (hc0 : l0.length ≤ c0) (h : impl_SquareTurned.f k l0 = some (r1, r2)) :
    Calls Try.prog 29 #[.slice A0 l0.length c0] w fun e w' => ∃ v0_ : Value, e = .returned (.tuple #[v0_, .bool r2]) ∧ Kd.R (Kd.int .i64) 3 w' w.heap.size (fun _ => True) v0_ r1 ∧ Below w.heap.size w w' := by
  have HR0 := Aside0.mk hr0
  have HC0 := Aside0.mk hc0
  clear hr0 hc0
  have HB := Aside0.mk (Below.refl w.heap.size w)
  have H : ((impl_isSquare.f l0).bind fun t318 => (if t318 = true then (impl_SquareTurned.l0 k l0 (([] : List Int)) 0) else (some (([] : List Int), false)))) = some (r1, r2) := h
  clear h
  replace H := Option.bind_eq_some_iff.mp H
  obtain ⟨t318, A20, H⟩ := H
  replace H : (if t318 = true then (impl_SquareTurned.l0 k l0 (([] : List Int)) 0) else (some (([] : List Int), false))) = some (r1, r2) := H
  have A2 := Aside0.mk A20
  clear A20
  by_cases c3 : t318 = true
  · subst c3
    have H1 : (impl_SquareTurned.l0 k l0 (([] : List Int)) 0) = some (r1, r2) := by rw [if_pos rfl] at H; exact H
    clear H
    have H := H1
    clear H1
    obtain ⟨y319, hy319⟩ : ∃ y_ : List Int, y_ = (([] : List Int)) := ⟨_, rfl⟩
    replace H : (impl_SquareTurned.l0 k l0 y319 0) = some (r1, r2) := by first | (rw [hy319]; with_reducible exact H) | (have H2_ := (Option.bind_some _ _).symm.trans H; rw [hy319]; with_reducible exact H2_) | (have H2_ := (Option.bind_some _ _).symm.trans H; with_reducible exact H2_) | with_reducible exact H | (rw [hy319]; exact H) | exact H
    have Ny319 := Aside0.mk hy319
    clear hy319
    have H' := Aside0.mk H
    clear H
    go_enter Try.func29, Try.ntmps29
    go_wp2_with (first | ((with_reducible refine gate_callee (f := 74) rfl ?_); refine goesL_ (some 8) rfl rfl Try.func74 (by kernel_rfl) rfl #[.slice A0 l0.length c0] rfl (by (try simp only [List.map_toArray, List.map_cons, List.map_nil]); first | done | rfl | (simp only [List.length_drop, List.length_take]; rfl)) ?_; (with_reducible refine (impl_isSquare.calls _ _ l0 true _ ?side1 ?side2 A2.out).mono ?_); (case side1 => repeat (first | exact HR0.out | (with_reducible refine Kd.C_alloc ?_ _) | (with_reducible refine Kd.C_drewN ?_ _) | (with_reducible refine Kd.C_drew ?_))); (case side2 => exact HC0.out); rintro e w4 ⟨rfl, hb⟩; refine ⟨_, rfl, ?_⟩; have n0_ := Aside0.mk (below_step (by repeat (first | (with_reducible first | exact HB.out | apply below_alloc | apply pw_below_drewN | apply below_drew1) | exact HB.out)) hb); clear HB; have HB := n0_; clear n0_; (try clear hb); (try clear hb2); (try clear hk); (try clear hi)) | ((with_reducible refine gate_dst (N := 10) rfl ?_); refine Kd.R_lit (Kd.int .i64) _ 3 ?hg (N := 10) ?hd (xs := ([] : List Int)) (inner := []) (ok := fun _ => True) (okp := fun _ => True) ?hr ?hp (fun _ hk => hk) trivial (Below.refl _ _) (Nat.le_refl _) (by simp) ?_; (case hd => rfl); (case hg => rfl); (case hr => first | (go_simp; done) | (go_simp; rfl)); (case hp => exact (Reps.none _ _)); intro v320 w5 ho6 hb hg_ hnew_; clear hg_ hnew_; (first | rw [← Ny319.out] at ho6 | (simp only [Int.reduceToNat] at ho6; rw [← Ny319.out] at ho6)); have n0_ := Aside0.mk (Kd.R_lower ho6 (below_size (by repeat (first | (with_reducible first | exact HB.out | apply below_alloc | apply pw_below_drewN | apply below_drew1) | exact HB.out)))); have n1_ := Aside0.mk (below_step (by repeat (first | (with_reducible first | exact HB.out | apply below_alloc | apply pw_below_drewN | apply below_drew1) | exact HB.out)) hb); clear HB; have HO321 := n0_; have HB := n1_; clear n0_ n1_; clear hb ho6))
    go_loopg [4, 11] k (fun kq v4 v11 w' => ∃ (x4_1 : List Int) (x11_1 : Int), v11 = .int .i64 x11_1 ∧ Aside0 (impl_SquareTurned.l0 kq l0 x4_1 x11_1 = some (r1, r2)) ∧ Aside0 (kq ≤ k) ∧ Aside0 (Kd.R (Kd.int .i64) 3 w' w.heap.size (fun _ => True) v4 x4_1) ∧ Aside0 (Below w.heap.size w w'))
    case atStart => exact ⟨(y319), (0), (by first | rfl | (simp; done) | (simp [*]; done)), H', ⟨Nat.le_refl _⟩, ⟨by (with_reducible repeat (first | apply Kd.R_alloc | apply Kd.R_drewN | apply Kd.R_drew)); exact HO321.out⟩, ⟨by repeat (first | (with_reducible first | exact HB.out | apply below_alloc | apply pw_below_drewN | apply below_drew1) | exact HB.out)⟩⟩
    case round =>
      clear H'
      try clear c2
      try clear p2
      try clear c3
      obtain ⟨x4_1, x11_1, rfl, HA, HK1, HO_4, HB⟩ := hrel
      cases gk with
      | zero => exact absurd HA.out (by simp [impl_SquareTurned.l0])
      | succ k1 =>
        have H := HA.out
        clear HA
        simp only [impl_SquareTurned.l0] at H
        by_cases c7 : x11_1 < 9
        · rw [if_pos c7] at H
          have c7b0 : decide (x11_1 < 9) = true := decide_eq_true c7
          clear c7
          have H' := Aside0.mk H
          clear H
          go_wp2
          go_loopg [4, 14] k1 (fun kq v4 v14 w' => ∃ (x4_2 : List Int) (x14_2 : Int), v14 = .int .i64 x14_2 ∧ Aside0 (impl_SquareTurned.l1 kq l0 x4_2 x11_1 x11_1 x14_2 = some (r1, r2)) ∧ Aside0 (kq ≤ k1) ∧ Aside0 (Kd.R (Kd.int .i64) 3 w' w.heap.size (fun _ => True) v4 x4_2) ∧ Aside0 (Below w.heap.size w w'))
          case atStart => exact ⟨(x4_1), (0), (by first | rfl | (simp; done) | (simp [*]; done)), H', ⟨Nat.le_refl _⟩, ⟨by (with_reducible repeat (first | apply Kd.R_alloc | apply Kd.R_drewN | apply Kd.R_drew)); exact HO_4.out⟩, ⟨by repeat (first | (with_reducible first | exact HB.out | apply below_alloc | apply pw_below_drewN | apply below_drew1) | exact HB.out)⟩⟩
          case round =>
            clear H'
            try clear c2
            try clear p2
            try clear c3
            try clear c7
            try clear c7b0
            try clear p2
            obtain ⟨x4_2, x14_2, rfl, HA, HK2, HO_4, HB⟩ := hrel
            cases gk with
            | zero => exact absurd HA.out (by simp [impl_SquareTurned.l1])
            | succ k2 =>
              have H := HA.out
              clear HA
              simp only [impl_SquareTurned.l1] at H
              by_cases c8 : x14_2 < 9
              · rw [if_pos c8] at H
                have c8b0 : decide (x14_2 < 9) = true := decide_eq_true c8
                clear c8
                obtain ⟨ji9, hji9⟩ : ∃ j_ : Int, (wrap64 ((wrap64 (9 * x14_2)) + x11_1)) = j_ := ⟨_, rfl⟩
                replace H : (if 0 ≤ (ji9) then (if (ji9) < (l0.length : Int) then (if x4_2.length < 17592186044416 then (impl_SquareTurned.l1 k2 l0 (x4_2 ++ [rd l0 (ji9)]) x11_1 x11_1 (wrap64 (x14_2 + 1))) else (none)) else (none)) else (none)) = some (r1, r2) := by first | (rw [hji9] at H; exact H) | (simp only [hji9] at H ⊢; exact H)
                have hji9w : (IntKind.i64.wrap ((wrap64 (9 * x14_2)) + x11_1)) = ji9 := (i64_w _).trans hji9
                by_cases c10 : 0 ≤ (ji9)
                · rw [if_pos c10] at H
                  have c10b0 : decide (0 ≤ (ji9)) = true := decide_eq_true c10
                  clear c10
                  by_cases c11 : (ji9) < (l0.length : Int)
                  · rw [if_pos c11] at H
                    have c11b0 : decide ((ji9) < (l0.length : Int)) = true := decide_eq_true c11
                    clear c11
                    by_cases c12 : x4_2.length < 17592186044416
                    · rw [if_pos c12] at H
                      have LMc12 := Aside0.mk c12
                      clear c12
                      obtain ⟨y323, hy323⟩ : ∃ y_ : List Int, y_ = (x4_2 ++ [rd l0 (ji9)]) := ⟨_, rfl⟩
                      replace H : (impl_SquareTurned.l1 k2 l0 y323 x11_1 x11_1 (wrap64 (x14_2 + 1))) = some (r1, r2) := by first | (rw [hy323]; with_reducible exact H) | (have H2_ := (Option.bind_some _ _).symm.trans H; rw [hy323]; with_reducible exact H2_) | (have H2_ := (Option.bind_some _ _).symm.trans H; with_reducible exact H2_) | with_reducible exact H | (rw [hy323]; exact H) | exact H
                      have Ny323 := Aside0.mk hy323
                      clear hy323
                      have H' := Aside0.mk H
                      clear H
                      have p322 : 0 ≤ ((ji9) : Int) := of_decide_eq_true (by first | (with_reducible assumption) | assumption)
                      have q322 : (ji9) < (l0.length : Int) := of_decide_eq_true (by first | (with_reducible assumption) | assumption)
                      obtain ⟨ad322, e322, hx322_0⟩ := Kd.at_int HR0.out (ji9) p322 q322
                      cases e322
                      replace hx322_0 := (HB.out.cell (World.block_lt_of_cell? w _ hx322_0)).trans hx322_0
                      replace p322 := eq_true p322
                      replace q322 := eq_true q322
                      go_wp2_with (first | ((with_reducible refine gate_builtin (b := .append) (xs := #[.tmp 17, .tmp 25]) rfl ?_); at_builtin; refine Kd.R_append (Kd.int .i64) (w0 := w) w.heap.size rfl (.tmp 17) (.tmp 25) 27 3 (.int .i64 0) 8 rfl Try.underlying27 info3 rfl (by decide) (by omega) u4 x4_2 (rd l0 (ji9)) [.int .i64 (rd l0 (ji9))] (fun _ => True) (fun _ => False) rfl rfl ?aP (fun _ hk => hk.elim) ?aF ?aO ?aB ?aS ?aL ?_; (case aP => exact rfl); (case aB => exact (by repeat (first | (with_reducible first | exact HB.out | apply below_alloc | apply pw_below_drewN | apply below_drew1) | exact HB.out))); (case aF => exact (fun _ _ => trivial)); (case aO => exact (by (with_reducible repeat (first | apply Kd.R_alloc | apply Kd.R_drewN | apply Kd.R_drew)); exact HO_4.out)); (case aS => exact (below_size (by repeat (first | (with_reducible first | exact HB.out | apply below_alloc | apply pw_below_drewN | apply below_drew1) | exact HB.out)))); (case aL => have := LMc12.out; omega); intro v324 w13 ho hb hg hat; rw [← Ny323.out] at ho; have n0_ := Aside0.mk (hb); have n1_ := Aside0.mk (ho); clear HB; clear HO_4; have HB := n0_; have HO325 := n1_; clear n0_ n1_; clear ho hb hg hat))
                      go_roundg k2
                      case measure => have := HK1.out; have := HK2.out; omega
                      case rel => exact ⟨(y323), (wrap64 (x14_2 + 1)), (by first | rfl | (simp; done) | (simp [*]; done)), H', ⟨by have := HK1.out; have := HK2.out; omega⟩, ⟨by (with_reducible repeat (first | apply Kd.R_alloc | apply Kd.R_drewN | apply Kd.R_drew)); exact HO325.out⟩, ⟨by repeat (first | (with_reducible first | exact HB.out | apply below_alloc | apply pw_below_drewN | apply below_drew1) | exact HB.out)⟩⟩
                    · rw [if_neg c12] at H
                      exact absurd H (by simp)
                  · rw [if_neg c11] at H
                    exact absurd H (by simp)
                · rw [if_neg c10] at H
                  exact absurd H (by simp)
              · rw [if_neg c8] at H
                have c8b0 : decide (x14_2 < 9) = false := decide_eq_false c8
                clear c8
                have H' := Aside0.mk H
                clear H
                go_wp2
                go_roundg k2
                case measure => have := HK1.out; have := HK2.out; omega
                case rel => exact ⟨(x4_2), (wrap64 (x11_1 + 1)), (by first | rfl | (simp; done) | (simp [*]; done)), H', ⟨by have := HK1.out; have := HK2.out; omega⟩, ⟨by (with_reducible repeat (first | apply Kd.R_alloc | apply Kd.R_drewN | apply Kd.R_drew)); exact HO_4.out⟩, ⟨by repeat (first | (with_reducible first | exact HB.out | apply below_alloc | apply pw_below_drewN | apply below_drew1) | exact HB.out)⟩⟩
        · rw [if_neg c7] at H
          have c7b0 : decide (x11_1 < 9) = false := decide_eq_false c7
          clear c7
          simp only [Option.some.injEq, Prod.mk.injEq] at H
          obtain ⟨rfl, rfl⟩ := H
          go_wp2
          go_ret2
          exact ⟨_, by first | rfl | (simp [errW_none, errW_some] <;> rfl) | (simp [*, errW_none, errW_some] <;> rfl), by (with_reducible repeat (first | apply Kd.R_alloc | apply Kd.R_drewN | apply Kd.R_drew)); exact HO_4.out, by repeat (first | (with_reducible first | exact HB.out | apply below_alloc | apply pw_below_drewN | apply below_drew1) | exact HB.out)⟩
  · replace c3 := Bool.eq_false_iff.mpr c3
    subst c3
    have H1 : (some (([] : List Int), false)) = some (r1, r2) := by rw [if_neg (show ¬ (false = true) by decide)] at H; exact H
    clear H
    have H := H1
    clear H1
    simp only [Option.some.injEq, Prod.mk.injEq] at H
    obtain ⟨rfl, rfl⟩ := H
    go_enter Try.func29, Try.ntmps29
    go_wp2_with (first | ((with_reducible refine gate_callee (f := 74) rfl ?_); refine goesL_ (some 8) rfl rfl Try.func74 (by kernel_rfl) rfl #[.slice A0 l0.length c0] rfl (by (try simp only [List.map_toArray, List.map_cons, List.map_nil]); first | done | rfl | (simp only [List.length_drop, List.length_take]; rfl)) ?_; (with_reducible refine (impl_isSquare.calls _ _ l0 false _ ?side1 ?side2 A2.out).mono ?_); (case side1 => repeat (first | exact HR0.out | (with_reducible refine Kd.C_alloc ?_ _) | (with_reducible refine Kd.C_drewN ?_ _) | (with_reducible refine Kd.C_drew ?_))); (case side2 => exact HC0.out); rintro e w14 ⟨rfl, hb⟩; refine ⟨_, rfl, ?_⟩; have n0_ := Aside0.mk (below_step (by repeat (first | (with_reducible first | exact HB.out | apply below_alloc | apply pw_below_drewN | apply below_drew1) | exact HB.out)) hb); clear HB; have HB := n0_; clear n0_; (try clear hb); (try clear hb2); (try clear hk); (try clear hi)))
    go_ret2
    exact ⟨_, by first | rfl | (simp [errW_none, errW_some] <;> rfl) | (simp [*, errW_none, errW_some] <;> rfl), by first | exact Kd.R_nil _ _ _ _ _ | exact Kd.N_nil _ _ _ _ _ | exact Kd.V_nil _ _ _ _ _ | exact Kd.Q_nil _ _ _ _ _ | exact Kd.S_nil _ _ _ _ _, by repeat (first | (with_reducible first | exact HB.out | apply below_alloc | apply pw_below_drewN | apply below_drew1) | exact HB.out)⟩

end Go.Proofs.Ytfoadgbffidgaaa.P

set_option linter.unusedVariables false
set_option linter.unusedSimpArgs false
namespace Go.Proofs.Ytfoadgbffidgaaa.X
open Go.RowKit Go.Proofs.YtfoadgbffidgaaaW.PrintWords Go.Proofs.YtfoadgbffidgaaaW.PrintLast Go.Proofs.Ytfoadgbffidgaaa.P

def turnI (s : List Int) (i : Int) : Int := rd s (i % 9 * 9 + i / 9)
def turnedL (s : List Int) : List Int := mapI 81 (turnI s)
def turnedR (s : List Int) : List Int × Bool := if squareB s = true then (turnedL s, true) else ([], false)
theorem specTurned_l0 (s : List Int) (hl : s.length = 81) (n : Nat) : ∀ (i : Int), 0 ≤ i → i + n = 81 → Ev (fun k => spec_SquareTurned.l0 k s (mapI i.toNat (turnI s)) i) (turnedL s, true) := by
  induction n with
  | zero =>
    intro i h0 h1
    refine Ev.step (fun k => by rw [spec_SquareTurned.l0]) ?_
    refine Ev.neg (by omega) (Ev.done ?_)
    rw [show i.toNat = 81 by omega]; rfl
  | succ n ih =>
    intro i h0 h1
    have hlen : (mapI i.toNat (turnI s)).length = i.toNat := mapI_length _ _
    refine Ev.step (fun k => by rw [spec_SquareTurned.l0]) ?_
    simp (disch := omega) only [w64, tdiv_nn, tmod_nn]
    refine Ev.pos (by omega) (Ev.pos (by omega) (Ev.pos (by omega) (Ev.pos (by omega) ?_)))
    have := ih (i + 1) (by omega) (by omega)
    rw [show (i + 1).toNat = i.toNat + 1 by omega, mapI_succ, Int.toNat_of_nonneg h0] at this
    exact this
theorem specTurned_ev (s : List Int) (hl : s.length ≤ 1048576) : Ev (fun k => spec_SquareTurned.f k s) (turnedR s) := by
  unfold spec_SquareTurned.f turnedR
  refine Ev.fix rfl (Ev.bind (SquareIn_ev s hl) ?_)
  by_cases hs : squareB s = true
  · rw [if_pos hs]
    exact Ev.pos hs (specTurned_l0 s (ninesB_iff.1 (squareB_nines hs)).1 81 0 (by omega) (by omega))
  · rw [if_neg hs]
    exact Ev.neg hs (Ev.done rfl)
theorem implTurned_l1 (s : List Int) (hl : s.length = 81) (x : Int) (x0 : 0 ≤ x) (x1 : x < 9) (hr : Ev (fun k => impl_SquareTurned.l0 k s (mapI (9 * (x + 1)).toNat (turnI s)) (x + 1)) (turnedL s, true)) (n : Nat) :
    ∀ (y : Int), 0 ≤ y → y + n = 9 → Ev (fun k => impl_SquareTurned.l1 k s (mapI (9 * x + y).toNat (turnI s)) x x y) (turnedL s, true) := by
  induction n with
  | zero =>
    intro y h0 h1
    refine Ev.step (fun k => by rw [impl_SquareTurned.l1]) ?_
    simp (disch := omega) only [w64]
    refine Ev.neg (by omega) ?_
    rw [show 9 * x + y = 9 * (x + 1) by omega]
    exact hr
  | succ n ih =>
    intro y h0 h1
    have hlen : (mapI (9 * x + y).toNat (turnI s)).length = (9 * x + y).toNat := mapI_length _ _
    refine Ev.step (fun k => by rw [impl_SquareTurned.l1]) ?_
    simp (disch := omega) only [w64]
    refine Ev.pos (by omega) (Ev.pos (by omega) (Ev.pos (by omega) (Ev.pos (by omega) ?_)))
    have := ih (y + 1) (by omega) (by omega)
    rw [show (9 * x + (y + 1)).toNat = (9 * x + y).toNat + 1 by omega, mapI_succ, Int.toNat_of_nonneg (by omega)] at this
    rw [show turnI s (9 * x + y) = rd s (9 * y + x) by unfold turnI; congr 1; omega] at this
    exact this
theorem implTurned_l0 (s : List Int) (hl : s.length = 81) (n : Nat) : ∀ (x : Int), 0 ≤ x → x + n = 9 → Ev (fun k => impl_SquareTurned.l0 k s (mapI (9 * x).toNat (turnI s)) x) (turnedL s, true) := by
  induction n with
  | zero =>
    intro x h0 h1
    refine Ev.step (fun k => by rw [impl_SquareTurned.l0]) ?_
    refine Ev.neg (by omega) (Ev.done ?_)
    rw [show (9 * x).toNat = 81 by omega]; rfl
  | succ n ih =>
    intro x h0 h1
    refine Ev.step (fun k => by rw [impl_SquareTurned.l0]) ?_
    refine Ev.pos (by omega) ?_
    have := implTurned_l1 s hl x h0 (by omega) (ih (x + 1) (by omega) (by omega)) 9 0 (by omega) (by omega)
    rwa [show 9 * x + 0 = 9 * x by omega] at this
theorem implTurned_ev (s : List Int) : Ev (fun k => impl_SquareTurned.f k s) (turnedR s) := by
  unfold impl_SquareTurned.f turnedR
  refine Ev.fix rfl ?_
  by_cases hs : squareB s = true
  · rw [if_pos hs]
    refine Ev.pos hs (Ev.fix rfl ?_)
    exact implTurned_l0 s (ninesB_iff.1 (squareB_nines hs)).1 9 0 (by omega) (by omega)
  · rw [if_neg hs]
    exact Ev.neg hs (Ev.done rfl)
theorem turnedR_length (s : List Int) : (turnedR s).1.length ≤ 1048576 := by
  unfold turnedR
  by_cases hs : squareB s = true
  · rw [if_pos hs]; show (mapI _ _).length ≤ _; rw [mapI_length]; omega
  · rw [if_neg hs]; exact Nat.zero_le _

end Go.Proofs.Ytfoadgbffidgaaa.X

set_option linter.unusedVariables false
set_option linter.unusedSimpArgs false
namespace Go.Proofs.Ytfoadgbffidgaaa.X
open Go.RowKit Go.Proofs.YtfoadgbffidgaaaW.PrintWords Go.Proofs.YtfoadgbffidgaaaW.PrintLast Go.Proofs.Ytfoadgbffidgaaa.P

def sqI (t : List Int) (m i : Int) : Int := addN (rd t (9 * (i / 9) + m)) (i % 9)
def sqOfL (t : List Int) (m : Int) : List Int := mapI 81 (sqI t m)
def isM (m : Int) : Bool := decide (1 ≤ m) && decide (m ≤ 8)
def sqOfR (t : List Int) (m : Int) : List Int × Bool := if (sysB t && isM m) = true then (sqOfL t m, true) else ([], false)
theorem sysB_nines {t : List Int} (h : sysB t = true) : ninesB t 81 = true := by
  unfold sysB at h; exact (Bool.and_eq_true _ _ ▸ h).1
theorem specSqOf_l1 (t : List Int) (hn : ninesB t 81 = true) (m : Int) (hm : In9 m) (x : Int) (x0 : 0 ≤ x) (x1 : x < 9) (hr : Ev (fun k => spec_SquareOf.l0 k t m (mapI (9 * (x + 1)).toNat (sqI t m)) (x + 1)) (sqOfL t m, true)) (n : Nat) :
    ∀ (y : Int), 0 ≤ y → y + n = 9 → Ev (fun k => spec_SquareOf.l1 k t m (mapI (9 * x + y).toNat (sqI t m)) x y) (sqOfL t m, true) := by
  have hl := (ninesB_iff.1 hn).1
  obtain ⟨m0, m1⟩ := hm
  induction n with
  | zero =>
    intro y h0 h1
    refine Ev.step (fun k => by rw [spec_SquareOf.l1]) ?_
    simp (disch := omega) only [w64]
    refine Ev.neg (by omega) ?_
    rw [show 9 * x + y = 9 * (x + 1) by omega]
    exact hr
  | succ n ih =>
    intro y h0 h1
    have hlen : (mapI (9 * x + y).toNat (sqI t m)).length = (9 * x + y).toNat := mapI_length _ _
    have ha := spec_l1Add_eq (rd t (9 * x + m)) y (nines_rd hn (by omega) (by omega)) ⟨h0, by omega⟩
    refine Ev.step (fun k => by rw [spec_SquareOf.l1]) ?_
    simp (disch := omega) only [w64, ha, Option.bind_some]
    refine Ev.pos (by omega) (Ev.pos (by omega) (Ev.pos (by omega) (Ev.pos (by omega) ?_)))
    have := ih (y + 1) (by omega) (by omega)
    rw [show (9 * x + (y + 1)).toNat = (9 * x + y).toNat + 1 by omega, mapI_succ, Int.toNat_of_nonneg (by omega)] at this
    rw [show sqI t m (9 * x + y) = addN (rd t (9 * x + m)) y by unfold sqI; rw [show (9 * x + y) / 9 = x by omega, show (9 * x + y) % 9 = y by omega]] at this
    exact this
theorem specSqOf_l0 (t : List Int) (hn : ninesB t 81 = true) (m : Int) (hm : In9 m) (n : Nat) : ∀ (x : Int), 0 ≤ x → x + n = 9 → Ev (fun k => spec_SquareOf.l0 k t m (mapI (9 * x).toNat (sqI t m)) x) (sqOfL t m, true) := by
  induction n with
  | zero =>
    intro x h0 h1
    refine Ev.step (fun k => by rw [spec_SquareOf.l0]) ?_
    refine Ev.neg (by omega) (Ev.done ?_)
    rw [show (9 * x).toNat = 81 by omega]; rfl
  | succ n ih =>
    intro x h0 h1
    refine Ev.step (fun k => by rw [spec_SquareOf.l0]) ?_
    refine Ev.pos (by omega) ?_
    have := specSqOf_l1 t hn m hm x h0 (by omega) (ih (x + 1) (by omega) (by omega)) 9 0 (by omega) (by omega)
    rwa [show 9 * x + 0 = 9 * x by omega] at this
theorem specSqOf_ev (t : List Int) (hl : t.length ≤ 1048576) (m : Int) : Ev (fun k => spec_SquareOf.f k t m) (sqOfR t m) := by
  unfold spec_SquareOf.f sqOfR
  refine Ev.fix rfl (Ev.bind (SystemIn_ev t hl) ?_)
  by_cases hs : sysB t = true
  case neg =>
    rw [Bool.eq_false_iff.2 hs]
    refine Ev.neg (by simp) ?_
    refine Ev.step (fun k => by rw [spec_SquareOf.j0]) ?_
    exact Ev.pos rfl (Ev.done rfl)
  refine Ev.pos hs (Ev.fix (l6In_eq m 1 8) ?_)
  rw [hs]
  show Ev (fun n => spec_SquareOf.j0 n t m [] !(isM m)) _
  by_cases hm : isM m = true
  · rw [hm]
    refine Ev.step (fun k => by rw [spec_SquareOf.j0]) ?_
    refine Ev.neg (by simp) ?_
    have h := hm
    unfold isM at h
    simp at h
    exact specSqOf_l0 t (sysB_nines hs) m ⟨by omega, by omega⟩ 9 0 (by omega) (by omega)
  · rw [Bool.eq_false_iff.2 hm]
    refine Ev.step (fun k => by rw [spec_SquareOf.j0]) ?_
    exact Ev.pos rfl (Ev.done rfl)
theorem implSqOf_l1 (t : List Int) (hn : ninesB t 81 = true) (m : Int) (hm : In9 m) (x : Int) (x0 : 0 ≤ x) (x1 : x < 9) (hr : Ev (fun k => impl_SquareOf.l0 k t m (mapI (9 * (x + 1)).toNat (sqI t m)) (x + 1)) (sqOfL t m, true)) (n : Nat) :
    ∀ (y : Int), 0 ≤ y → y + n = 9 → Ev (fun k => impl_SquareOf.l1 k t m (mapI (9 * x + y).toNat (sqI t m)) x x y) (sqOfL t m, true) := by
  have hl := (ninesB_iff.1 hn).1
  obtain ⟨m0, m1⟩ := hm
  induction n with
  | zero =>
    intro y h0 h1
    refine Ev.step (fun k => by rw [impl_SquareOf.l1]) ?_
    simp (disch := omega) only [w64]
    refine Ev.neg (by omega) ?_
    rw [show 9 * x + y = 9 * (x + 1) by omega]
    exact hr
  | succ n ih =>
    intro y h0 h1
    have hlen : (mapI (9 * x + y).toNat (sqI t m)).length = (9 * x + y).toNat := mapI_length _ _
    have ha := impl_add_eq (rd t (9 * x + m)) y (nines_rd hn (by omega) (by omega)) ⟨h0, by omega⟩
    refine Ev.step (fun k => by rw [impl_SquareOf.l1]) ?_
    simp (disch := omega) only [w64, ha, Option.bind_some]
    refine Ev.pos (by omega) (Ev.pos (by omega) (Ev.pos (by omega) (Ev.pos (by omega) ?_)))
    have := ih (y + 1) (by omega) (by omega)
    rw [show (9 * x + (y + 1)).toNat = (9 * x + y).toNat + 1 by omega, mapI_succ, Int.toNat_of_nonneg (by omega)] at this
    rw [show sqI t m (9 * x + y) = addN (rd t (9 * x + m)) y by unfold sqI; rw [show (9 * x + y) / 9 = x by omega, show (9 * x + y) % 9 = y by omega]] at this
    exact this
theorem implSqOf_l0 (t : List Int) (hn : ninesB t 81 = true) (m : Int) (hm : In9 m) (n : Nat) : ∀ (x : Int), 0 ≤ x → x + n = 9 → Ev (fun k => impl_SquareOf.l0 k t m (mapI (9 * x).toNat (sqI t m)) x) (sqOfL t m, true) := by
  induction n with
  | zero =>
    intro x h0 h1
    refine Ev.step (fun k => by rw [impl_SquareOf.l0]) ?_
    refine Ev.neg (by omega) (Ev.done ?_)
    rw [show (9 * x).toNat = 81 by omega]; rfl
  | succ n ih =>
    intro x h0 h1
    refine Ev.step (fun k => by rw [impl_SquareOf.l0]) ?_
    refine Ev.pos (by omega) ?_
    have := implSqOf_l1 t hn m hm x h0 (by omega) (ih (x + 1) (by omega) (by omega)) 9 0 (by omega) (by omega)
    rwa [show 9 * x + 0 = 9 * x by omega] at this
theorem implSqOf_ev (t : List Int) (m : Int) : Ev (fun k => impl_SquareOf.f k t m) (sqOfR t m) := by
  unfold impl_SquareOf.f sqOfR
  refine Ev.fix rfl ?_
  by_cases hs : sysB t = true
  case neg =>
    rw [Bool.eq_false_iff.2 hs]
    refine Ev.neg (by simp) ?_
    refine Ev.step (fun k => by rw [impl_SquareOf.j0]) ?_
    exact Ev.pos rfl (Ev.done rfl)
  refine Ev.pos hs (Ev.fix (impl_isNine_eq m) ?_)
  rw [hs]
  by_cases hn : isN m = true
  case neg =>
    have : isM m = false := by
      cases e : isM m with
      | false => rfl
      | true => exact absurd (isN_iff.2 (by unfold isM at e; simp at e; omega)) hn
    rw [this]
    refine Ev.neg hn ?_
    refine Ev.step (fun k => by rw [impl_SquareOf.j0]) ?_
    exact Ev.pos rfl (Ev.done rfl)
  refine Ev.pos hn ?_
  by_cases h0 : m = 0
  · have : isM m = false := by subst h0; rfl
    rw [this, beq_iff_eq.2 h0]
    refine Ev.step (fun k => by rw [impl_SquareOf.j0]) ?_
    exact Ev.pos rfl (Ev.done rfl)
  · have hm := isN_iff.1 hn
    have : isM m = true := by unfold isM; simp; omega
    rw [this, beq_eq_false_iff_ne.2 h0]
    refine Ev.step (fun k => by rw [impl_SquareOf.j0]) ?_
    refine Ev.neg (by simp) ?_
    exact implSqOf_l0 t (sysB_nines hs) m ⟨by omega, by omega⟩ 9 0 (by omega) (by omega)
theorem sqOfR_length (t : List Int) (m : Int) : (sqOfR t m).1.length ≤ 1048576 := by
  unfold sqOfR
  by_cases hs : (sysB t && isM m) = true
  · rw [if_pos hs]; show (mapI _ _).length ≤ _; rw [mapI_length]; omega
  · rw [if_neg hs]; exact Nat.zero_le _

end Go.Proofs.Ytfoadgbffidgaaa.X

set_option linter.unusedVariables false
set_option linter.unusedSimpArgs false
namespace Go.Proofs.Ytfoadgbffidgaaa.X
open Go.RowKit Go.Proofs.YtfoadgbffidgaaaW.PrintWords

theorem turn_at (s : List Int) {x y : Int} (x0 : 0 ≤ x) (x1 : x < 9) (y0 : 0 ≤ y) (y1 : y < 9) : rd (turnedL s) (9 * x + y) = rd s (9 * y + x) := by
  unfold turnedL
  rw [rd_mapI (by omega) (by omega)]
  unfold turnI
  rw [show (9 * x + y) % 9 * 9 + (9 * x + y) / 9 = 9 * y + x by omega]
theorem nines_of {l : List Int} (hl : l.length = 81) (h : ∀ x y : Int, 0 ≤ x → x < 9 → 0 ≤ y → y < 9 → 0 ≤ rd l (9 * x + y) ∧ rd l (9 * x + y) < 9) : ninesB l 81 = true := by
  refine ninesB_iff.2 ⟨hl, fun v hv => ?_⟩
  obtain ⟨i, hi, rfl⟩ := List.mem_iff_getElem.1 hv
  have := h ((i : Int) / 9) ((i : Int) % 9) (by omega) (by omega) (by omega) (by omega)
  rw [show 9 * ((i : Int) / 9) + (i : Int) % 9 = (i : Int) by omega, rd_cast l i hi] at this
  exact this
theorem square_iff {s : List Int} : squareB s = true ↔ ninesB s 81 = true ∧ ∀ k : Int, 0 ≤ k → k < 9 → squareRow s k = true ∧ squareCol s k = true := by
  constructor
  · intro h
    refine ⟨squareB_nines h, fun k k0 k1 => ?_⟩
    unfold squareB at h
    have := allI_int (Bool.and_eq_true _ _ ▸ h).2 k k0 k1
    exact ⟨(Bool.and_eq_true _ _ ▸ this).1, (Bool.and_eq_true _ _ ▸ this).2⟩
  · rintro ⟨hn, h⟩
    exact squareB_all hn h
theorem turned_len (s : List Int) : (turnedL s).length = 81 := mapI_length _ _
theorem turned_square {s : List Int} (h : squareB s = true) : squareB (turnedL s) = true := by
  obtain ⟨hn, h⟩ := square_iff.1 h
  refine square_iff.2 ⟨nines_of (turned_len s) fun x y x0 x1 y0 y1 => ?_, fun k k0 k1 => ⟨?_, ?_⟩⟩
  · rw [turn_at s x0 x1 y0 y1]; exact nines_rd hn (by omega) (by omega)
  · refine onceB_iff.2 fun i j hij hj => ?_
    rw [turn_at s k0 k1 (by omega) (by omega), turn_at s k0 k1 (by omega) (by omega)]
    exact onceB_iff.1 (h k k0 k1).2 i j hij hj
  · refine onceB_iff.2 fun i j hij hj => ?_
    rw [turn_at s (by omega) (by omega) k0 k1, turn_at s (by omega) (by omega) k0 k1]
    exact onceB_iff.1 (h k k0 k1).1 i j hij hj
theorem turned_turned {s : List Int} (hl : s.length = 81) : turnedL (turnedL s) = s := by
  refine ext_rd (by rw [turned_len, hl]) fun i hi => ?_
  rw [turned_len] at hi
  rw [show (i : Int) = 9 * ((i : Int) / 9) + (i : Int) % 9 by omega, turn_at _ (by omega) (by omega) (by omega) (by omega), turn_at _ (by omega) (by omega) (by omega) (by omega)]
theorem square_len {s : List Int} (h : squareB s = true) : s.length = 81 := (ninesB_iff.1 (squareB_nines h)).1

/-! ### squares apart -/
theorem apart_self {s : List Int} : apartB s s = false := by
  cases e : apartB s s with
  | false => rfl
  | true =>
    exfalso
    unfold apartB at e
    simp only [Bool.and_eq_true] at e
    obtain ⟨hs, _, ho⟩ := e
    obtain ⟨hn, h⟩ := square_iff.1 hs
    obtain ⟨x, x0, x1, hx⟩ := once_onto (p := fun x => rd s (9 * 1 + x)) (fun x x0 x1 => nines_rd hn (by omega) (by omega)) (h 1 (by omega) (by omega)).1 (rd s 0) (nines_rd hn (by omega) (by omega)).1 (nines_rd hn (by omega) (by omega)).2
    refine onceN_iff.1 ho 0 (9 * 1 + x) (by omega) (by omega) (by omega) ?_
    unfold pairI
    have hx : rd s (9 * 1 + x) = rd s 0 := hx
    rw [hx]
theorem pair_inj {a b c d : Int} (b0 : 0 ≤ b) (b1 : b < 9) (d0 : 0 ≤ d) (d1 : d < 9) (h : 9 * a + b = 9 * c + d) : a = c ∧ b = d := by omega
theorem apart_iff {a b : List Int} : apartB a b = true ↔ squareB a = true ∧ squareB b = true ∧ ∀ i j : Int, 0 ≤ i → i < j → j < 81 → ¬ (rd a i = rd a j ∧ rd b i = rd b j) := by
  unfold apartB
  simp only [Bool.and_eq_true]
  constructor
  · rintro ⟨ha, hb, ho⟩
    refine ⟨ha, hb, fun i j i0 ij j1 e => onceN_iff.1 ho i j i0 ij j1 ?_⟩
    unfold pairI
    rw [e.1, e.2]
  · rintro ⟨ha, hb, h⟩
    refine ⟨ha, hb, onceN_iff.2 fun i j i0 ij j1 e => ?_⟩
    have hi := nines_rd (squareB_nines hb) i0 (by omega : i < 81)
    have hj := nines_rd (squareB_nines hb) (by omega : 0 ≤ j) j1
    exact h i j i0 ij j1 (pair_inj hi.1 hi.2 hj.1 hj.2 e)
theorem apart_comm {a b : List Int} (h : apartB a b = true) : apartB b a = true := by
  obtain ⟨ha, hb, h⟩ := apart_iff.1 h
  exact apart_iff.2 ⟨hb, ha, fun i j i0 ij j1 e => h i j i0 ij j1 ⟨e.2, e.1⟩⟩
theorem apart_ne {a b : List Int} (h : apartB a b = true) {i j : Int} (i0 : 0 ≤ i) (i1 : i < 81) (j0 : 0 ≤ j) (j1 : j < 81) (hne : i ≠ j) : ¬ (rd a i = rd a j ∧ rd b i = rd b j) := by
  obtain ⟨_, _, h⟩ := apart_iff.1 h
  rcases Int.lt_or_gt_of_ne hne with hl | hg
  · exact h i j i0 hl j1
  · exact fun e => h j i j0 hg i1 ⟨e.1.symm, e.2.symm⟩
theorem apart_turned {a b : List Int} (h : apartB a b = true) : apartB (turnedL a) (turnedL b) = true := by
  obtain ⟨ha, hb, _⟩ := apart_iff.1 h
  refine apart_iff.2 ⟨turned_square ha, turned_square hb, fun i j i0 ij j1 e => ?_⟩
  refine apart_ne h (i := 9 * (i % 9) + i / 9) (j := 9 * (j % 9) + j / 9) (by omega) (by omega) (by omega) (by omega) (by omega) ?_
  have ei : i = 9 * (i / 9) + i % 9 := by omega
  have ej : j = 9 * (j / 9) + j % 9 := by omega
  rw [ei, ej, turn_at _ (by omega) (by omega) (by omega) (by omega), turn_at _ (by omega) (by omega) (by omega) (by omega), turn_at _ (by omega) (by omega) (by omega) (by omega), turn_at _ (by omega) (by omega) (by omega) (by omega)] at e
  exact e

/-! ### squares of systems -/
theorem sqOf_at (t : List Int) (m : Int) {x y : Int} (x0 : 0 ≤ x) (x1 : x < 9) (y0 : 0 ≤ y) (y1 : y < 9) : rd (sqOfL t m) (9 * x + y) = addN (rd t (9 * x + m)) y := by
  unfold sqOfL
  rw [rd_mapI (by omega) (by omega)]
  unfold sqI
  rw [show (9 * x + y) / 9 = x by omega, show (9 * x + y) % 9 = y by omega]
theorem col_inj {t : List Int} (h : sysB t = true) {m x y : Int} (m0 : 1 ≤ m) (m1 : m < 9) (x0 : 0 ≤ x) (x1 : x < 9) (y0 : 0 ≤ y) (y1 : y < 9) (e : rd t (9 * x + m) = rd t (9 * y + m)) : x = y := by
  refine diff_inj h (c := m) (d := 0) (by omega) m1 (by omega) (by omega) (by omega) x0 x1 y0 y1 ?_
  unfold diffI
  rw [e, show 9 * x + 0 = 9 * x by omega, show 9 * y + 0 = 9 * y by omega, (sys_units h x0 x1).2.1, (sys_units h y0 y1).2.1]
theorem addN_cancel_r {a b c : Int} (ha0 : 0 ≤ a) (ha1 : a < 9) (hb0 : 0 ≤ b) (hb1 : b < 9) (hc0 : 0 ≤ c) (hc1 : c < 9) (h : addN b a = addN c a) : b = c := by
  rw [addN_comm b, addN_comm c] at h
  exact addN_cancel ha0 ha1 hb0 hb1 hc0 hc1 h
theorem sqOf_square {t : List Int} (h : sysB t = true) {m : Int} (m0 : 1 ≤ m) (m1 : m ≤ 8) : squareB (sqOfL t m) = true := by
  refine square_iff.2 ⟨nines_of (mapI_length _ _) fun x y x0 x1 y0 y1 => ?_, fun k k0 k1 => ⟨?_, ?_⟩⟩
  · rw [sqOf_at t m x0 x1 y0 y1]; exact addN_range _ _
  · refine onceB_iff.2 fun i j hij hj e => ?_
    rw [sqOf_at t m k0 k1 (by omega) (by omega), sqOf_at t m k0 k1 (by omega) (by omega)] at e
    have hr := sys_range h k0 k1 (by omega : 0 ≤ m) (by omega)
    have := addN_cancel hr.1 hr.2 (by omega) (by omega) (by omega) (by omega) e
    omega
  · refine onceB_iff.2 fun i j hij hj e => ?_
    rw [sqOf_at t m (by omega) (by omega) k0 k1, sqOf_at t m (by omega) (by omega) k0 k1] at e
    have hi := sys_range h (x := (i : Int)) (by omega) (by omega) (by omega : 0 ≤ m) (by omega)
    have hj := sys_range h (x := (j : Int)) (by omega) (by omega) (by omega : 0 ≤ m) (by omega)
    have := col_inj h m0 (by omega) (by omega) (by omega) (by omega) (by omega) (addN_cancel_r k0 k1 hi.1 hi.2 hj.1 hj.2 e)
    omega
theorem two_diff {a b c d y z : Int} (ha : 0 ≤ a ∧ a < 9) (hb : 0 ≤ b ∧ b < 9) (hc : 0 ≤ c ∧ c < 9) (hd : 0 ≤ d ∧ d < 9) (hy : 0 ≤ y ∧ y < 9) (hz : 0 ≤ z ∧ z < 9) (e1 : addN a y = addN c z) (e2 : addN b y = addN d z) : addN a (minusN b) = addN c (minusN d) := by
  have k : ∀ u v w : Int, 0 ≤ u ∧ u < 9 → 0 ≤ v ∧ v < 9 → 0 ≤ w ∧ w < 9 → addN u (minusN v) = addN (addN u w) (minusN (addN v w)) := fun u v w hu hv hw =>
    nine3 (P := fun u v w => addN u (minusN v) = addN (addN u w) (minusN (addN v w))) (by decide +kernel) u v w hu.1 hu.2 hv.1 hv.2 hw.1 hw.2
  rw [k a b y ha hb hy, k c d z hc hd hz, e1, e2]
theorem sqOf_apart {t : List Int} (h : sysB t = true) {m k : Int} (m0 : 1 ≤ m) (m1 : m ≤ 8) (k0 : 1 ≤ k) (k1 : k ≤ 8) (hne : k ≠ m) : apartB (sqOfL t m) (sqOfL t k) = true := by
  refine apart_iff.2 ⟨sqOf_square h m0 m1, sqOf_square h k0 k1, fun i j i0 ij j1 e => ?_⟩
  have ei : i = 9 * (i / 9) + i % 9 := by omega
  have ej : j = 9 * (j / 9) + j % 9 := by omega
  rw [ei, ej, sqOf_at _ _ (by omega) (by omega) (by omega) (by omega), sqOf_at _ _ (by omega) (by omega) (by omega) (by omega), sqOf_at _ _ (by omega) (by omega) (by omega) (by omega), sqOf_at _ _ (by omega) (by omega) (by omega) (by omega)] at e
  have r1 := sys_range h (x := i / 9) (by omega) (by omega) (by omega : 0 ≤ m) (by omega)
  have r2 := sys_range h (x := j / 9) (by omega) (by omega) (by omega : 0 ≤ m) (by omega)
  have r3 := sys_range h (x := i / 9) (by omega) (by omega) (by omega : 0 ≤ k) (by omega)
  have r4 := sys_range h (x := j / 9) (by omega) (by omega) (by omega : 0 ≤ k) (by omega)
  have hd := two_diff r1 r3 r2 r4 (by omega) (by omega) e.1 e.2
  have hx : i / 9 = j / 9 := diff_inj h (by omega) (by omega) (by omega) (by omega) (Ne.symm hne) (by omega) (by omega) (by omega) (by omega) hd
  rw [hx] at e
  have hy := addN_cancel r2.1 r2.2 (by omega) (by omega) (by omega) (by omega) e.1
  omega

end Go.Proofs.Ytfoadgbffidgaaa.X

set_option linter.unusedVariables false
set_option linter.unusedSimpArgs false
namespace Go.Proofs.Ytfoadgbffidgaaa.X
open Go.RowKit Go.Proofs.YtfoadgbffidgaaaW.PrintWords Go.Proofs.YtfoadgbffidgaaaW.PrintLast Go.Proofs.Ytfoadgbffidgaaa.P

/-- What a reader reads. -/
def RdS (s : List Int) : Prop := s.length ≤ 2000 ∧ ∀ x ∈ s, 0 ≤ x ∧ x ≤ 255
theorem u8_range {x : Int} (h : (Lit.int .u8 x).wf = true) : 0 ≤ x ∧ x ≤ 255 := by
  simp [Lit.wf, IntKind.min, IntKind.max, IntKind.signed, IntKind.bits] at h
  omega
theorem open_ev (l : List Int) (h : ∀ x ∈ l, (Lit.int .u8 x).wf = true) : ∃ s, RdS s ∧ spec_l6Open.f l = some (s, 0) := by
  unfold spec_l6Open.f
  by_cases hl : (l.length : Int) > 2000
  · rw [if_pos hl, if_pos (by omega)]
    exact ⟨_, ⟨by rw [List.length_take]; omega, fun x hx => u8_range (h x (List.mem_of_mem_take hx))⟩, rfl⟩
  · rw [if_neg hl]
    exact ⟨_, ⟨by omega, fun x hx => u8_range (h x hx)⟩, rfl⟩
theorem xor_nn {a b : Int} (h0 : 0 ≤ a) (h1 : a < 9223372036854775808) (h2 : 0 ≤ b) (h3 : b < 9223372036854775808) : 0 ≤ Go.bits .xor .i64 a b := by
  obtain ⟨x, rfl⟩ := Int.eq_ofNat_of_zero_le h0
  obtain ⟨y, rfl⟩ := Int.eq_ofNat_of_zero_le h2
  have hx : x ^^^ y < 2 ^ 63 := Nat.xor_lt_two_pow (by omega) (by omega)
  have e1 : (BitVec.ofInt 64 (x : Int)).toNat = x := by
    rw [BitVec.ofInt_natCast, BitVec.toNat_ofNat]; exact Nat.mod_eq_of_lt (by omega)
  have e2 : (BitVec.ofInt 64 (y : Int)).toNat = y := by
    rw [BitVec.ofInt_natCast, BitVec.toNat_ofNat]; exact Nat.mod_eq_of_lt (by omega)
  have e : Go.bits .xor .i64 (x : Int) (y : Int) = IntKind.i64.wrap ((BitVec.ofInt 64 (x : Int) ^^^ BitVec.ofInt 64 (y : Int)).toNat : Int) := rfl
  rw [e, BitVec.toNat_xor, e1, e2]
  generalize x ^^^ y = z at hx
  simp [IntKind.wrap, IntKind.bits, IntKind.signed]
  omega
theorem tmod_range {a n : Int} (h : 0 ≤ a) (hn : 1 ≤ n) : 0 ≤ Int.tmod a n ∧ Int.tmod a n < n := by
  rw [tmod_nn h]
  exact ⟨Int.emod_nonneg _ (by omega), Int.emod_lt_of_pos _ (by omega)⟩
theorem rd_byte {s : List Int} (hs : RdS s) {i : Int} (h0 : 0 ≤ i) (h1 : i < s.length) : 0 ≤ rd s i ∧ rd s i ≤ 255 := hs.2 _ (rd_mem h1 h0)
theorem pick_j0 (s : List Int) (hs : RdS s) (p : Int) (h0 : 0 ≤ p) (h1 : p ≤ 1099511627776) (n : Int) (n0 : 1 ≤ n) (n1 : n ≤ 1000000) :
    ∃ v, (0 ≤ v ∧ v < n) ∧ Ev (fun k => spec_l6Rd_pick.j0 k n ((s.length : Int) == 0) s (p + 1)) (v, p + 1) := by
  have hl := hs.1
  by_cases e : s.length = 0
  · refine ⟨0, by omega, ?_⟩
    refine Ev.step (fun k => by rw [spec_l6Rd_pick.j0]) ?_
    refine Ev.pos (by rw [e]; rfl) (Ev.done rfl)
  have ez : wrap64 (p + 1 - 1) = p := by rw [w64 (by omega) (by omega)]; omega
  have er : ∀ i : Int, 0 ≤ i → i < s.length → wrap64 (rd s i) = rd s i := fun i i0 i1 => by
    have := rd_byte hs i0 i1; exact w64 (by omega) (by omega)
  by_cases hp : p < s.length
  · obtain ⟨b0, b1⟩ := rd_byte hs h0 hp
    refine ⟨Int.tmod (rd s p) n, tmod_range b0 n0, ?_⟩
    refine Ev.step (fun k => by rw [spec_l6Rd_pick.j0]) ?_
    rw [ez]
    refine Ev.neg (by simp; intro hh; apply e; simp [hh]) (Ev.pos hp (Ev.pos h0 (Ev.neg (by omega) ?_)))
    rw [er p h0 hp]
    exact Ev.done rfl
  · have hL : (1 : Int) ≤ s.length := by omega
    have ha : 0 ≤ p % (s.length : Int) ∧ p % (s.length : Int) < s.length := ⟨Int.emod_nonneg _ (by omega), Int.emod_lt_of_pos _ (by omega)⟩
    have hb : 0 ≤ (p * 7 + 3) % (s.length : Int) ∧ (p * 7 + 3) % (s.length : Int) < s.length := ⟨Int.emod_nonneg _ (by omega), Int.emod_lt_of_pos _ (by omega)⟩
    have hd : 0 ≤ p / (s.length : Int) ∧ p / (s.length : Int) ≤ p := ⟨Int.ediv_nonneg h0 (by omega), Int.ediv_le_self _ h0⟩
    obtain ⟨a0, a1⟩ := rd_byte hs ha.1 ha.2
    obtain ⟨b0, b1⟩ := rd_byte hs hb.1 hb.2
    have ea := er _ ha.1 ha.2
    have eb := er _ hb.1 hb.2
    have e7 : wrap64 (wrap64 (p * 7) + 3) = p * 7 + 3 := by rw [w64 (x := p * 7) (by omega) (by omega), w64 (by omega) (by omega)]
    have em : Int.tmod p (s.length : Int) = p % (s.length : Int) := tmod_nn h0
    have en : Int.tmod (p * 7 + 3) (s.length : Int) = (p * 7 + 3) % (s.length : Int) := tmod_nn (by omega)
    have ed : Int.tdiv p (s.length : Int) = p / (s.length : Int) := tdiv_nn h0
    generalize hA : rd s (p % (s.length : Int)) = A at *
    generalize hB : rd s ((p * 7 + 3) % (s.length : Int)) = B at *
    generalize hD : p / (s.length : Int) = D at *
    have eX : wrap64 (wrap64 (wrap64 (wrap64 (A * 131) + wrap64 (B * 1117)) + wrap64 (p * 29)) + wrap64 (wrap64 D * 53)) = A * 131 + B * 1117 + p * 29 + D * 53 := by
      rw [w64 (x := A * 131) (by omega) (by omega), w64 (x := B * 1117) (by omega) (by omega), w64 (x := A * 131 + B * 1117) (by omega) (by omega), w64 (x := p * 29) (by omega) (by omega), w64 (x := D) (by omega) (by omega), w64 (x := D * 53) (by omega) (by omega), w64 (x := A * 131 + B * 1117 + p * 29) (by omega) (by omega), w64 (by omega) (by omega)]
    have hX0 : 0 ≤ A * 131 + B * 1117 + p * 29 + D * 53 := by omega
    have hX1 : A * 131 + B * 1117 + p * 29 + D * 53 ≤ 9223372036854775807 := by omega
    generalize A * 131 + B * 1117 + p * 29 + D * 53 = X at *
    have eY : wrap64 (Int.tdiv X 64) = X / 64 := by rw [tdiv_nn hX0]; exact w64 (by omega) (by omega)
    refine ⟨Int.tmod (Go.bits .xor .i64 X (X / 64)) n, tmod_range (xor_nn hX0 (by omega) (by omega) (by omega)) n0, ?_⟩
    refine Ev.step (fun k => by rw [spec_l6Rd_pick.j0]) ?_
    rw [ez]
    refine Ev.neg (by simp; intro hh; apply e; simp [hh]) (Ev.neg hp (Ev.neg (by omega) ?_))
    rw [e7, em, en, ed, hA, hB, ea, eb, eX, eY]
    exact Ev.pos ha.1 (Ev.pos ha.2 (Ev.pos hb.1 (Ev.pos hb.2 (Ev.neg (by omega) (Ev.done rfl)))))
/-- A number from 0 to n - 1, and the reader is one further. -/
theorem pick_ev {s : List Int} (hs : RdS s) {p : Int} (h0 : 0 ≤ p) (h1 : p ≤ 1099511627776) {n : Int} (n0 : 1 ≤ n) (n1 : n ≤ 1000000) :
    ∃ v, (0 ≤ v ∧ v < n) ∧ Ev (fun k => spec_l6Rd_pick.f k s p n) (v, p + 1) := by
  obtain ⟨v, hv, he⟩ := pick_j0 s hs p h0 h1 n n0 n1
  refine ⟨v, hv, ?_⟩
  unfold spec_l6Rd_pick.f
  rw [w64 (by omega) (by omega)]
  exact Ev.neg (by omega) he

theorem nine_ev {s : List Int} (hs : RdS s) {p : Int} (h0 : 0 ≤ p) (h1 : p ≤ 1099511000000) : ∃ v q, (-1 ≤ v ∧ v ≤ 9) ∧ (p ≤ q ∧ q ≤ p + 2) ∧ Ev (fun k => spec_l91Nine.f k s p) (v, q) := by
  obtain ⟨a, ha, ea⟩ := pick_ev hs h0 (by omega) (n := 20) (by omega) (by omega)
  obtain ⟨b, hb, eb⟩ := pick_ev hs (p := p + 1) (by omega) (by omega) (n := 2) (by omega) (by omega)
  obtain ⟨c, hc, ec⟩ := pick_ev hs (p := p + 1) (by omega) (by omega) (n := 9) (by omega) (by omega)
  by_cases e : a = 0
  · refine ⟨rd [-1, 9] b, p + 1 + 1, ?_, by omega, ?_⟩
    · have : b = 0 ∨ b = 1 := by omega
      rcases this with rfl | rfl <;> decide
    · unfold spec_l91Nine.f
      refine Ev.bind ea (Ev.pos e (Ev.fix rfl (Ev.bind eb ?_)))
      exact Ev.pos hb.1 (Ev.pos hb.2 (Ev.done rfl))
  · refine ⟨c, p + 1 + 1, by omega, by omega, ?_⟩
    unfold spec_l91Nine.f
    exact Ev.bind ea (Ev.neg e (Ev.bind ec (Ev.done rfl)))

/-! ### The five tables -/
def kindL (c : Int) : List Int := (spec_l2Of.f 300 c).getD []
theorem five {P : Int → Prop} (h : ∀ i : Fin 5, P (i.val : Int)) (a : Int) (h0 : 0 ≤ a) (h1 : a < 5) : P a := by
  have := h ⟨a.toNat, by omega⟩
  simpa [Int.toNat_of_nonneg h0] using this
theorem kindL_some : ∀ i : Fin 5, spec_l2Of.f 300 (i.val : Int) = some (kindL (i.val : Int)) := by decide +kernel
theorem kindL_nines : ∀ i : Fin 5, ninesB (kindL (i.val : Int)) 81 = true := by decide +kernel
theorem kind_ev (c : Int) (h0 : 0 ≤ c) (h1 : c < 5) : Ev (fun k => spec_l2Of.f k c) (kindL c) :=
  Ev.of (fun k => spec_l2Of.mono c k) (five (P := fun c => spec_l2Of.f 300 c = some (kindL c)) kindL_some c h0 h1)
theorem kind_nines (c : Int) (h0 : 0 ≤ c) (h1 : c < 5) : ninesB (kindL c) 81 = true := five (P := fun c => ninesB (kindL c) 81 = true) kindL_nines c h0 h1
/-- What is drawn for a system: a kind's table, that with one entry set, or too short. -/
def DrawnT (t : List Int) : Prop := ∃ c : Int, 0 ≤ c ∧ c < 5 ∧ (t = kindL c ∨ (∃ i v : Int, 0 ≤ i ∧ i < 81 ∧ 0 ≤ v ∧ v < 9 ∧ t = (kindL c).set i.toNat v) ∨ t = (kindL c).take 80)
theorem DrawnT.len {t : List Int} (h : DrawnT t) : t.length ≤ 81 := by
  obtain ⟨c, c0, c1, h⟩ := h
  have hl := (ninesB_iff.1 (kind_nines c c0 c1)).1
  rcases h with rfl | ⟨i, v, _, _, _, _, rfl⟩ | rfl
  · omega
  · rw [List.length_set]; omega
  · rw [List.length_take]; omega
theorem system_ev {s : List Int} (hs : RdS s) {p : Int} (h0 : 0 ≤ p) (h1 : p ≤ 1099511000000) : ∃ t q, DrawnT t ∧ (p ≤ q ∧ q ≤ p + 5) ∧ Ev (fun k => spec_l91System.f k s p) (t, q) := by
  obtain ⟨c, hc, ec⟩ := pick_ev hs h0 (by omega) (n := 5) (by omega) (by omega)
  obtain ⟨a, ha, ea⟩ := pick_ev hs (p := p + 1) (by omega) (by omega) (n := 30) (by omega) (by omega)
  obtain ⟨i, hi, ei⟩ := pick_ev hs (p := p + 1 + 1) (by omega) (by omega) (n := 9) (by omega) (by omega)
  obtain ⟨j, hj, ej⟩ := pick_ev hs (p := p + 1 + 1 + 1) (by omega) (by omega) (n := 9) (by omega) (by omega)
  obtain ⟨v, hv, ev⟩ := pick_ev hs (p := p + 1 + 1 + 1 + 1) (by omega) (by omega) (n := 9) (by omega) (by omega)
  have hl := (ninesB_iff.1 (kind_nines c hc.1 hc.2)).1
  have ew : wrap64 (wrap64 (9 * i) + j) = 9 * i + j := by rw [w64 (x := 9 * i) (by omega) (by omega), w64 (by omega) (by omega)]
  by_cases e : a = 0
  · refine ⟨(kindL c).set (9 * i + j).toNat v, p + 1 + 1 + 1 + 1 + 1, ⟨c, hc.1, hc.2, .inr (.inl ⟨9 * i + j, v, by omega, by omega, hv.1, hv.2, rfl⟩)⟩, by omega, ?_⟩
    unfold spec_l91System.f
    refine Ev.bind ec (Ev.bind (kind_ev c hc.1 hc.2) (Ev.bind ea (Ev.pos e (Ev.bind ei (Ev.bind ej (Ev.bind ev ?_))))))
    dsimp only
    rw [ew]
    exact Ev.pos (by omega) (Ev.pos (by omega) (Ev.done rfl))
  by_cases e1 : a = 1
  · refine ⟨(kindL c).take 80, p + 1 + 1, ⟨c, hc.1, hc.2, .inr (.inr rfl)⟩, by omega, ?_⟩
    unfold spec_l91System.f
    refine Ev.bind ec (Ev.bind (kind_ev c hc.1 hc.2) (Ev.bind ea (Ev.neg e (Ev.pos e1 (Ev.pos ?_ (Ev.done rfl))))))
    omega
  · refine ⟨kindL c, p + 1 + 1, ⟨c, hc.1, hc.2, .inl rfl⟩, by omega, ?_⟩
    unfold spec_l91System.f
    exact Ev.bind ec (Ev.bind (kind_ev c hc.1 hc.2) (Ev.bind ea (Ev.neg e (Ev.neg e1 (Ev.done rfl)))))

end Go.Proofs.Ytfoadgbffidgaaa.X

namespace Go.Proofs.Ytfoadgbffidgaaa.P
open Go.RowKit Go.Proofs.YtfoadgbffidgaaaW.PrintWords Go.Proofs.YtfoadgbffidgaaaW.PrintLast Go.Proofs.YtfoadgbffidgaaaW.PrintMore
attribute [local go_sem] max2_int min2_int max_two min_two max_three min_three max_four min_four   -- for this text's walks alone
set_option linter.unusedVariables false
set_option linter.unusedSimpArgs false

/-! ### spec_l91Square: function 72 -/
def spec_l91Square.j0 : Nat → List Int → Bool → List Int → Int → Option (List Int × Int)
  | 0, _, _, _, _ => none
  | k + 1, x3, x19, x1000, x1001 => if x19 = true then ((spec_l6Rd_pick.f k x1000 x1001 81).bind fun bt303 => ((spec_l6Rd_pick.f k x1000 bt303.2 9).bind fun bt305 => (if 0 ≤ bt303.1 then (if bt303.1 < (x3.length : Int) then (some ((x3.set (bt303.1 : Int).toNat bt305.1), bt305.2)) else (none)) else (none)))) else (some (x3, x1001))
def spec_l91Square.f (k : Nat) (s0_0 : List Int) (s0_1 : Int) : Option (List Int × Int) := (spec_l91System.f k s0_0 s0_1).bind fun bt291 => ((spec_l6Rd_pick.f k s0_0 bt291.2 8).bind fun bt295 => ((spec_SquareOf.f k bt291.1 (wrap64 (1 + bt295.1))).bind fun bt297 => (if bt297.2 = true then ((spec_l6Rd_pick.f k s0_0 bt295.2 20).bind fun bt301 => (spec_l91Square.j0 k bt297.1 (bt301.1 == 0) s0_0 bt301.2)) else (spec_l91Square.j0 k bt297.1 false s0_0 bt295.2))))
theorem spec_l91Square.mono_l : ∀ k, (∀ y0 y1 y2 y3, LeO (spec_l91Square.j0 k y0 y1 y2 y3) (spec_l91Square.j0 (k + 1) y0 y1 y2 y3))
  | 0 => fun _ _ _ _ r h => by simp [spec_l91Square.j0] at h
  | k + 1 => by
    have ih0 := spec_l91Square.mono_l k
    · intro y0 y1 y2 y3
      unfold spec_l91Square.j0
      repeat' first
      | (with_reducible exact ih0 _ _ _ _)
      | (with_reducible exact spec_SquareOf.mono _ _ _)
      | (with_reducible exact spec_l6Rd_pick.mono _ _ _ _)
      | (with_reducible exact spec_l91System.mono _ _ _)
      | (with_reducible exact LeO.refl _)
      | (with_reducible exact LeO.none _)
      | (with_reducible refine LeO.ite ?_ ?_)
      | (with_reducible refine LeO.bind ?_ (fun _ => ?_))
      | exact ih0 _ _ _ _
      | exact spec_SquareOf.mono _ _ _
      | exact spec_l6Rd_pick.mono _ _ _ _
      | exact spec_l91System.mono _ _ _
      | exact LeO.none _
      | refine LeO.ite ?_ ?_
      | refine LeO.bind ?_ (fun _ => ?_)
theorem spec_l91Square.mono : ∀ a0 a1 k, LeO (spec_l91Square.f k a0 a1) (spec_l91Square.f (k + 1) a0 a1) := by
  intro a0 a1 k
  have ih0 := spec_l91Square.mono_l k
  unfold spec_l91Square.f
  repeat' first
      | (with_reducible exact ih0 _ _ _ _)
      | (with_reducible exact spec_SquareOf.mono _ _ _)
      | (with_reducible exact spec_l6Rd_pick.mono _ _ _ _)
      | (with_reducible exact spec_l91System.mono _ _ _)
      | (with_reducible exact LeO.refl _)
      | (with_reducible exact LeO.none _)
      | (with_reducible refine LeO.ite ?_ ?_)
      | (with_reducible refine LeO.bind ?_ (fun _ => ?_))
      | exact ih0 _ _ _ _
      | exact spec_SquareOf.mono _ _ _
      | exact spec_l6Rd_pick.mono _ _ _ _
      | exact spec_l91System.mono _ _ _
      | exact LeO.none _
      | refine LeO.ite ?_ ?_
      | refine LeO.bind ?_ (fun _ => ?_)
set_option maxHeartbeats 8000000 in
set_option maxRecDepth 100000 in
theorem spec_l91Square.calls (k : Nat) (g : Nat) (s0_0 : List Int) (s0_1 : Int) (r1 : List Int) (r2 : Int) (w0 w : World) (hI : IsS73 w0 w g s0_0 s0_1) (hB : Below w0.heap.size w0 w) (h : spec_l91Square.f k s0_0 s0_1 = some (r1, r2)) :
    Calls Try.prog 72 #[.pointer (some ⟨g, 0, none⟩)] w fun e w' => ∃ v0_ : Value, e = .returned (v0_) ∧ Kd.R (Kd.int .i64) 3 w' w.heap.size (fun _ => True) v0_ r1 ∧ IsS73 w0 w' g s0_0 r2 ∧ Below w0.heap.size w0 w' ∧ KeepBut w w' g none := by
  have HI0 := Aside0.mk hI
  have HK := Aside0.mk (KeepBut.refl w g none)
  have HL := Aside0.mk hB.size
  clear hI
  have HW0 := Aside0.mk hB.size
  have HB := Aside0.mk hB
  clear hB
  have H : ((spec_l91System.f k s0_0 s0_1).bind fun bt291 => ((spec_l6Rd_pick.f k s0_0 bt291.2 8).bind fun bt295 => ((spec_SquareOf.f k bt291.1 (wrap64 (1 + bt295.1))).bind fun bt297 => (if bt297.2 = true then ((spec_l6Rd_pick.f k s0_0 bt295.2 20).bind fun bt301 => (spec_l91Square.j0 k bt297.1 (bt301.1 == 0) s0_0 bt301.2)) else (spec_l91Square.j0 k bt297.1 false s0_0 bt295.2))))) = some (r1, r2) := h
  clear h
  replace H := Option.bind_eq_some_iff.mp H
  obtain ⟨⟨t291, t294⟩, A20, H⟩ := H
  replace H : ((spec_l6Rd_pick.f k s0_0 t294 8).bind fun bt295 => ((spec_SquareOf.f k t291 (wrap64 (1 + bt295.1))).bind fun bt297 => (if bt297.2 = true then ((spec_l6Rd_pick.f k s0_0 bt295.2 20).bind fun bt301 => (spec_l91Square.j0 k bt297.1 (bt301.1 == 0) s0_0 bt301.2)) else (spec_l91Square.j0 k bt297.1 false s0_0 bt295.2)))) = some (r1, r2) := H
  have A2 := Aside0.mk A20
  clear A20
  replace H := Option.bind_eq_some_iff.mp H
  obtain ⟨⟨t295, t296⟩, A30, H⟩ := H
  replace H : ((spec_SquareOf.f k t291 (wrap64 (1 + t295))).bind fun bt297 => (if bt297.2 = true then ((spec_l6Rd_pick.f k s0_0 t296 20).bind fun bt301 => (spec_l91Square.j0 k bt297.1 (bt301.1 == 0) s0_0 bt301.2)) else (spec_l91Square.j0 k bt297.1 false s0_0 t296))) = some (r1, r2) := H
  have A3 := Aside0.mk A30
  clear A30
  replace H := Option.bind_eq_some_iff.mp H
  obtain ⟨⟨t297, t298⟩, A40, H⟩ := H
  replace H : (if t298 = true then ((spec_l6Rd_pick.f k s0_0 t296 20).bind fun bt301 => (spec_l91Square.j0 k t297 (bt301.1 == 0) s0_0 bt301.2)) else (spec_l91Square.j0 k t297 false s0_0 t296)) = some (r1, r2) := H
  have A4 := Aside0.mk A40
  clear A40
  have HC5 := Aside0.mk H
  clear H
  go_enter Try.func72, Try.ntmps72
  go_upto_region 2 with (first | ((with_reducible refine gate_callee (f := 78) rfl ?_); refine goesL_ (some 7) rfl rfl Try.func78 (by kernel_rfl) rfl #[.pointer (some ⟨g, 0, none⟩)] rfl (by (try simp only [List.map_toArray, List.map_cons, List.map_nil]); first | done | rfl | (simp only [List.length_drop, List.length_take]; rfl)) ?_; (with_reducible refine (spec_l91System.calls k g s0_0 s0_1 t291 t294 w0 _ ?side1 ?side2 A2.out).mono ?_); (case side1 => repeat (first | (with_reducible first | exact HI0.out | apply IsS73.alloc | apply IsS73.drewN | apply IsS73.drew | apply IsS73.set_1) | exact HI0.out)); (case side2 => repeat (first | (with_reducible first | exact HB.out | apply below_alloc | apply pw_below_drewN | apply below_drew1 | refine below_set ?_ (IsS73.ge HI0.out)) | exact HB.out)); rintro e w6 ⟨v292, rfl, ho0, hi, hb, hk⟩; refine ⟨_, rfl, ?_⟩; have n0_ := Aside0.mk (Kd.R_lower ho0 (keep_size (w := w) (g := g) (row := none) (by repeat (first | (with_reducible first | exact HK.out | apply KeepBut.set_ | apply keep_drewN | apply keep_drew | apply keep_alloc) | exact HK.out)))); have n1_ := Aside0.mk (KeepBut.trans (by repeat (first | (with_reducible first | exact HK.out | apply KeepBut.set_ | apply keep_drewN | apply keep_drew | apply keep_alloc) | exact HK.out)) hk (.inl rfl)); have n2_ := Aside0.mk (hb); have n3_ := Aside0.mk (hi); clear HK; clear HB; clear HI0; have HO293 := n0_; have HK := n1_; have HB := n2_; have HI0 := n3_; clear n0_ n1_ n2_ n3_; (try clear hb); (try clear hb2); (try clear hk); (try clear hi); (try clear ho0)) | ((with_reducible refine gate_callee (f := 79) rfl ?_); refine goesL_ (some 9) rfl rfl Try.func79 (by kernel_rfl) rfl #[.pointer (some ⟨g, 0, none⟩), .int .i64 8] rfl (by (try simp only [List.map_toArray, List.map_cons, List.map_nil]); first | done | rfl | (simp only [List.length_drop, List.length_take]; rfl)) ?_; (with_reducible refine (spec_l6Rd_pick.calls k g s0_0 t294 8 t295 t296 w0 _ ?side1 ?side2 A3.out).mono ?_); (case side1 => repeat (first | (with_reducible first | exact HI0.out | apply IsS73.alloc | apply IsS73.drewN | apply IsS73.drew | apply IsS73.set_1) | exact HI0.out)); (case side2 => repeat (first | (with_reducible first | exact HB.out | apply below_alloc | apply pw_below_drewN | apply below_drew1 | refine below_set ?_ (IsS73.ge HI0.out)) | exact HB.out)); rintro e w7 ⟨rfl, hi, hb, hk⟩; refine ⟨_, rfl, ?_⟩; have n0_ := Aside0.mk (Kd.R_mono (Kd.R_keep (IsS73.apart (show IsS73 w0 _ g s0_0 t294 from by repeat (first | (with_reducible first | exact HI0.out | apply IsS73.alloc | apply IsS73.drewN | apply IsS73.drew | apply IsS73.set_1) | exact HI0.out)) (by (with_reducible repeat (first | apply Kd.R_alloc | apply Kd.R_drewN | apply Kd.R_drew)); exact HO293.out) (by decide)) hk (fun _ h => h.2)) (fun _ h => h.1)); have n1_ := Aside0.mk (KeepBut.trans (by repeat (first | (with_reducible first | exact HK.out | apply KeepBut.set_ | apply keep_drewN | apply keep_drew | apply keep_alloc) | exact HK.out)) hk (.inl rfl)); have n2_ := Aside0.mk (hb); have n3_ := Aside0.mk (hi); clear HO293; clear HK; clear HB; clear HI0; have HO293 := n0_; have HK := n1_; have HB := n2_; have HI0 := n3_; clear n0_ n1_ n2_ n3_; (try clear hb); (try clear hb2); (try clear hk); (try clear hi); obtain ⟨Ao8, co8, eo8⟩ := Kd.R_slice HO293.out; subst eo8) | ((with_reducible refine gate_callee (f := 44) rfl ?_); refine goesL_ (some 11) rfl rfl Try.func44 (by kernel_rfl) rfl #[.slice Ao8 t291.length co8, .int .i64 (wrap64 (1 + t295))] rfl (by (try simp only [List.map_toArray, List.map_cons, List.map_nil]); first | done | rfl | (simp only [List.length_drop, List.length_take]; rfl)) ?_; (with_reducible refine (spec_SquareOf.calls k _ _ t291 (wrap64 (1 + t295)) t297 t298 _ ?side1 ?side2 A4.out).mono ?_); (case side1 => repeat (first | exact (Kd.R_reads' HO293.out).2.2 | (with_reducible refine Kd.C_alloc ?_ _) | (with_reducible refine Kd.C_drewN ?_ _) | (with_reducible refine Kd.C_drew ?_))); (case side2 => exact (Kd.R_reads' HO293.out).2.1); rintro e w9 ⟨v299, rfl, ho0, hb⟩; refine ⟨_, rfl, ?_⟩; have n0_ := Aside0.mk (Kd.R_elder' (by (with_reducible repeat (first | apply Kd.R_alloc | apply Kd.R_drewN | apply Kd.R_drew)); exact HO293.out) (Kd.R_base ho0) hb); have n1_ := Aside0.mk (Kd.R_lower (Kd.R_new' ho0 (Kd.R_lt (by (with_reducible repeat (first | apply Kd.R_alloc | apply Kd.R_drewN | apply Kd.R_drew)); exact HO293.out))) (keep_size (w := w) (g := g) (row := none) (by repeat (first | (with_reducible first | exact HK.out | apply KeepBut.set_ | apply keep_drewN | apply keep_drew | apply keep_alloc) | exact HK.out)))); have n2_ := Aside0.mk (IsS73.below (by repeat (first | (with_reducible first | exact HI0.out | apply IsS73.alloc | apply IsS73.drewN | apply IsS73.drew | apply IsS73.set_1) | exact HI0.out)) hb); have n3_ := Aside0.mk (KeepBut.trans (by repeat (first | (with_reducible first | exact HK.out | apply KeepBut.set_ | apply keep_drewN | apply keep_drew | apply keep_alloc) | exact HK.out)) (KeepBut.of_below hb g none) (.inl rfl)); have n4_ := Aside0.mk (below_step (by repeat (first | (with_reducible first | exact HB.out | apply below_alloc | apply pw_below_drewN | apply below_drew1 | refine below_set ?_ (IsS73.ge HI0.out)) | exact HB.out)) hb); clear HO293; clear HI0; clear HK; clear HB; have HO293 := n0_; have HO300 := n1_; have HI0 := n2_; have HK := n3_; have HB := n4_; clear n0_ n1_ n2_ n3_ n4_; (try clear hb); (try clear hb2); (try clear hk); (try clear hi); (try clear ho0)))
  (try simp only [Act.put, List.setIfInBounds_toArray, List.set_cons_zero, List.set_cons_succ])
  go_cut [19] (fun v19 wc => ∃ (kq : Nat) (x19_4 : Bool) (x1001_4 : Int), v19 = .bool x19_4 ∧ Aside0 (spec_l91Square.j0 kq t297 x19_4 s0_0 x1001_4 = some (r1, r2)) ∧ Aside0 (kq ≤ k) ∧ Aside0 (Kd.R (Kd.int .i64) 3 wc w.heap.size (fun _ => True) v299 t297) ∧ Aside0 (IsS73 w0 wc g s0_0 x1001_4) ∧ Aside0 (KeepBut w wc g none) ∧ Aside0 (Below w0.heap.size w0 wc))
  case first =>
    have H := HC5.out
    clear HC5
    by_cases c10 : t298 = true
    · subst c10
      have H1 : ((spec_l6Rd_pick.f k s0_0 t296 20).bind fun bt301 => (spec_l91Square.j0 k t297 (bt301.1 == 0) s0_0 bt301.2)) = some (r1, r2) := by rw [if_pos rfl] at H; exact H
      clear H
      have H := H1
      clear H1
      replace H := Option.bind_eq_some_iff.mp H
      obtain ⟨⟨t301, t302⟩, A110, H⟩ := H
      replace H : (spec_l91Square.j0 k t297 (t301 == 0) s0_0 t302) = some (r1, r2) := H
      have A11 := Aside0.mk A110
      clear A110
      have H' := Aside0.mk H
      clear H
      go_wp2_with (first | (go_at_call 79; (with_reducible refine (spec_l6Rd_pick.calls k g s0_0 t296 20 t301 t302 w0 _ ?side1 ?side2 A11.out).mono ?_); (case side1 => repeat (first | (with_reducible first | exact HI0.out | apply IsS73.alloc | apply IsS73.drewN | apply IsS73.drew | apply IsS73.set_1) | exact HI0.out)); (case side2 => repeat (first | (with_reducible first | exact HB.out | apply below_alloc | apply pw_below_drewN | apply below_drew1 | refine below_set ?_ (IsS73.ge HI0.out)) | exact HB.out)); rintro e w12 ⟨rfl, hi, hb, hk⟩; have n0_ := Aside0.mk (Kd.R_mono (Kd.R_keep (IsS73.apart (show IsS73 w0 _ g s0_0 t296 from by repeat (first | (with_reducible first | exact HI0.out | apply IsS73.alloc | apply IsS73.drewN | apply IsS73.drew | apply IsS73.set_1) | exact HI0.out)) (by (with_reducible repeat (first | apply Kd.R_alloc | apply Kd.R_drewN | apply Kd.R_drew)); exact HO293.out) (by decide)) hk (fun _ h => h.2)) (fun _ h => h.1)); have n1_ := Aside0.mk (Kd.R_mono (Kd.R_keep (IsS73.apart (show IsS73 w0 _ g s0_0 t296 from by repeat (first | (with_reducible first | exact HI0.out | apply IsS73.alloc | apply IsS73.drewN | apply IsS73.drew | apply IsS73.set_1) | exact HI0.out)) (by (with_reducible repeat (first | apply Kd.R_alloc | apply Kd.R_drewN | apply Kd.R_drew)); exact HO300.out) (by decide)) hk (fun _ h => h.2)) (fun _ h => h.1)); have n2_ := Aside0.mk (KeepBut.trans (by repeat (first | (with_reducible first | exact HK.out | apply KeepBut.set_ | apply keep_drewN | apply keep_drew | apply keep_alloc) | exact HK.out)) hk (.inl rfl)); have n3_ := Aside0.mk (hb); have n4_ := Aside0.mk (hi); clear HO293; clear HO300; clear HK; clear HB; clear HI0; have HO293 := n0_; have HO300 := n1_; have HK := n2_; have HB := n3_; have HI0 := n4_; clear n0_ n1_ n2_ n3_ n4_; (try clear hb); (try clear hb2); (try clear hk); (try clear hi)))
      go_meet
      case rel => exact ⟨_, ((t301 == 0)), (t302), (by first | rfl | (simp; done) | (simp [*]; done)), H', ⟨by first | omega | exact Nat.le_refl _⟩, ⟨by (with_reducible repeat (first | apply Kd.R_alloc | apply Kd.R_drewN | apply Kd.R_drew)); exact Kd.R_mono HO300.out (fun _ hk => trivial)⟩, ⟨by repeat (first | (with_reducible first | exact HI0.out | apply IsS73.alloc | apply IsS73.drewN | apply IsS73.drew | apply IsS73.set_1) | exact HI0.out)⟩, ⟨by repeat (first | (with_reducible first | exact HK.out | apply KeepBut.set_ | apply keep_drewN | apply keep_drew | apply keep_alloc) | exact HK.out)⟩, ⟨by repeat (first | (with_reducible first | exact HB.out | apply below_alloc | apply pw_below_drewN | apply below_drew1 | refine below_set ?_ (IsS73.ge HI0.out)) | exact HB.out)⟩⟩
    · replace c10 := Bool.eq_false_iff.mpr c10
      subst c10
      have H1 : (spec_l91Square.j0 k t297 false s0_0 t296) = some (r1, r2) := by rw [if_neg (show ¬ (false = true) by decide)] at H; exact H
      clear H
      have H := H1
      clear H1
      have H' := Aside0.mk H
      clear H
      go_wp2
      go_meet
      case rel => exact ⟨_, (false), (t296), (by first | rfl | (simp; done) | (simp [*]; done)), H', ⟨by first | omega | exact Nat.le_refl _⟩, ⟨by (with_reducible repeat (first | apply Kd.R_alloc | apply Kd.R_drewN | apply Kd.R_drew)); exact Kd.R_mono HO300.out (fun _ hk => trivial)⟩, ⟨by repeat (first | (with_reducible first | exact HI0.out | apply IsS73.alloc | apply IsS73.drewN | apply IsS73.drew | apply IsS73.set_1) | exact HI0.out)⟩, ⟨by repeat (first | (with_reducible first | exact HK.out | apply KeepBut.set_ | apply keep_drewN | apply keep_drew | apply keep_alloc) | exact HK.out)⟩, ⟨by repeat (first | (with_reducible first | exact HB.out | apply below_alloc | apply pw_below_drewN | apply below_drew1 | refine below_set ?_ (IsS73.ge HI0.out)) | exact HB.out)⟩⟩
  case rest =>
    clear HC5
    try clear c1
    try clear p2
    try clear c4
    try clear p6
    try clear c7
    try clear c10
    obtain ⟨kq, x19_4, x1001_4, rfl, HA, HJ4, HO_3, HI0, HK, HB⟩ := hcut
    cases kq with
    | zero => exact absurd HA.out (by simp [spec_l91Square.j0])
    | succ kj4 =>
      have H := HA.out
      clear HA
      simp only [spec_l91Square.j0] at H
      by_cases c13 : x19_4 = true
      · subst c13
        have H1 : ((spec_l6Rd_pick.f kj4 s0_0 x1001_4 81).bind fun bt303 => ((spec_l6Rd_pick.f kj4 s0_0 bt303.2 9).bind fun bt305 => (if 0 ≤ bt303.1 then (if bt303.1 < (t297.length : Int) then (some ((t297.set (bt303.1 : Int).toNat bt305.1), bt305.2)) else (none)) else (none)))) = some (r1, r2) := by rw [if_pos rfl] at H; exact H
        clear H
        have H := H1
        clear H1
        replace H := Option.bind_eq_some_iff.mp H
        obtain ⟨⟨t303, t304⟩, A140, H⟩ := H
        replace H : ((spec_l6Rd_pick.f kj4 s0_0 t304 9).bind fun bt305 => (if 0 ≤ t303 then (if t303 < (t297.length : Int) then (some ((t297.set (t303 : Int).toNat bt305.1), bt305.2)) else (none)) else (none))) = some (r1, r2) := H
        have A14 := Aside0.mk A140
        clear A140
        replace H := Option.bind_eq_some_iff.mp H
        obtain ⟨⟨t305, t306⟩, A150, H⟩ := H
        replace H : (if 0 ≤ t303 then (if t303 < (t297.length : Int) then (some ((t297.set (t303 : Int).toNat t305), t306)) else (none)) else (none)) = some (r1, r2) := H
        have A15 := Aside0.mk A150
        clear A150
        by_cases c16 : 0 ≤ t303
        · rw [if_pos c16] at H
          have c16b0 : decide (0 ≤ t303) = true := decide_eq_true c16
          clear c16
          by_cases c17 : t303 < (t297.length : Int)
          · rw [if_pos c17] at H
            have c17b0 : decide (t303 < (t297.length : Int)) = true := decide_eq_true c17
            clear c17
            obtain ⟨y307, hy307⟩ : ∃ y_ : List Int, y_ = (t297.set (t303 : Int).toNat t305) := ⟨_, rfl⟩
            replace H : (some (y307, t306)) = some (r1, r2) := by first | (rw [hy307]; with_reducible exact H) | (have H2_ := (Option.bind_some _ _).symm.trans H; rw [hy307]; with_reducible exact H2_) | (have H2_ := (Option.bind_some _ _).symm.trans H; with_reducible exact H2_) | with_reducible exact H | (rw [hy307]; exact H) | exact H
            have Ny307 := Aside0.mk hy307
            clear hy307
            simp only [Option.some.injEq, Prod.mk.injEq] at H
            obtain ⟨rfl, rfl⟩ := H
            go_wp2_with (first | ((with_reducible refine gate_callee (f := 79) rfl ?_); refine goesL_ (some 22) rfl rfl Try.func79 (by kernel_rfl) rfl #[.pointer (some ⟨g, 0, none⟩), .int .i64 81] rfl (by (try simp only [List.map_toArray, List.map_cons, List.map_nil]); first | done | rfl | (simp only [List.length_drop, List.length_take]; rfl)) ?_; (with_reducible refine (spec_l6Rd_pick.calls kj4 g s0_0 x1001_4 81 t303 t304 w0 _ ?side1 ?side2 A14.out).mono ?_); (case side1 => repeat (first | (with_reducible first | exact HI0.out | apply IsS73.alloc | apply IsS73.drewN | apply IsS73.drew | apply IsS73.set_1) | exact HI0.out)); (case side2 => repeat (first | (with_reducible first | exact HB.out | apply below_alloc | apply pw_below_drewN | apply below_drew1 | refine below_set ?_ (IsS73.ge HI0.out)) | exact HB.out)); rintro e w19 ⟨rfl, hi, hb, hk⟩; refine ⟨_, rfl, ?_⟩; have n0_ := Aside0.mk (Kd.R_mono (Kd.R_keep (IsS73.apart (show IsS73 w0 _ g s0_0 x1001_4 from by repeat (first | (with_reducible first | exact HI0.out | apply IsS73.alloc | apply IsS73.drewN | apply IsS73.drew | apply IsS73.set_1) | exact HI0.out)) (by (with_reducible repeat (first | apply Kd.R_alloc | apply Kd.R_drewN | apply Kd.R_drew)); exact HO_3.out) (by decide)) hk (fun _ h => h.2)) (fun _ h => h.1)); have n1_ := Aside0.mk (KeepBut.trans (by repeat (first | (with_reducible first | exact HK.out | apply KeepBut.set_ | apply keep_drewN | apply keep_drew | apply keep_alloc) | exact HK.out)) hk (.inl rfl)); have n2_ := Aside0.mk (hb); have n3_ := Aside0.mk (hi); clear HO_3; clear HK; clear HB; clear HI0; have HO_3 := n0_; have HK := n1_; have HB := n2_; have HI0 := n3_; clear n0_ n1_ n2_ n3_; (try clear hb); (try clear hb2); (try clear hk); (try clear hi)) | ((with_reducible refine gate_callee (f := 79) rfl ?_); refine goesL_ (some 24) rfl rfl Try.func79 (by kernel_rfl) rfl #[.pointer (some ⟨g, 0, none⟩), .int .i64 9] rfl (by (try simp only [List.map_toArray, List.map_cons, List.map_nil]); first | done | rfl | (simp only [List.length_drop, List.length_take]; rfl)) ?_; (with_reducible refine (spec_l6Rd_pick.calls kj4 g s0_0 t304 9 t305 t306 w0 _ ?side1 ?side2 A15.out).mono ?_); (case side1 => repeat (first | (with_reducible first | exact HI0.out | apply IsS73.alloc | apply IsS73.drewN | apply IsS73.drew | apply IsS73.set_1) | exact HI0.out)); (case side2 => repeat (first | (with_reducible first | exact HB.out | apply below_alloc | apply pw_below_drewN | apply below_drew1 | refine below_set ?_ (IsS73.ge HI0.out)) | exact HB.out)); rintro e w20 ⟨rfl, hi, hb, hk⟩; refine ⟨_, rfl, ?_⟩; have n0_ := Aside0.mk (Kd.R_mono (Kd.R_keep (IsS73.apart (show IsS73 w0 _ g s0_0 t304 from by repeat (first | (with_reducible first | exact HI0.out | apply IsS73.alloc | apply IsS73.drewN | apply IsS73.drew | apply IsS73.set_1) | exact HI0.out)) (by (with_reducible repeat (first | apply Kd.R_alloc | apply Kd.R_drewN | apply Kd.R_drew)); exact HO_3.out) (by decide)) hk (fun _ h => h.2)) (fun _ h => h.1)); have n1_ := Aside0.mk (KeepBut.trans (by repeat (first | (with_reducible first | exact HK.out | apply KeepBut.set_ | apply keep_drewN | apply keep_drew | apply keep_alloc) | exact HK.out)) hk (.inl rfl)); have n2_ := Aside0.mk (hb); have n3_ := Aside0.mk (hi); clear HO_3; clear HK; clear HB; clear HI0; have HO_3 := n0_; have HK := n1_; have HB := n2_; have HI0 := n3_; clear n0_ n1_ n2_ n3_; (try clear hb); (try clear hb2); (try clear hk); (try clear hi); have p18 : 0 ≤ (t303 : Int) := of_decide_eq_true (by first | (with_reducible assumption) | assumption); have q18 : (t303 : Int) < ((t297.length : Int) : Int) := of_decide_eq_true (by first | (with_reducible assumption) | assumption); obtain ⟨go18, co18, eo18, gb18, gl18, cl18, HG18⟩ := Kd.R_form HO_3.out (by omega); (first | cases eo18 | (injection eo18 with ea_ en_ ec_; (first | subst ea_ | (injection ea_ with ea_; subst ea_)); subst ec_; clear en_)); have GB18 := Aside0.mk gb18; have GG18 := Aside0.mk HG18; clear gb18 gl18 HG18; obtain ⟨hx18_0, hf18_0⟩ := Kd.R_celln 0 HO_3.out (t303 : Int) p18 q18; replace p18 := eq_true p18; replace q18 := eq_true q18; obtain ⟨hy21_, hz21_⟩ := Kd.R_celln 0 HO_3.out (t303 : Int) (of_decide_eq_true (by first | (with_reducible assumption) | assumption)) (of_decide_eq_true (by first | (with_reducible assumption) | assumption)); have HP21 := Kd.R_putg HO_3.out (t303 : Int) t305) | ((with_reducible refine gate_store (t := 3) (p := 25) rfl ?_); refine store_event (t := 3) (p := 25) (v := ?vo_w22) (w1 := (w20.setCell ⟨go18, (t303 : Int).toNat, none⟩ (.int .i64 t305))) ?hg ?ho ?hn ?hr ?_; (case ho => rfl); (case hg => rfl); (case hn => rfl); (case hr => first | (go_simp; done) | (go_simp; rfl)); intro w22 hw; have hg : w20.grownBy w22 (some go18) := (by rw [hw]; exact HP21.2); have hp_ : Kd.R (Kd.int .i64) 3 w22 w.heap.size (fun _ => True) (.slice (some ⟨go18, 0, none⟩) t297.length co18) y307 := (by rw [hw, Ny307.out]; exact HP21.1); clear HP21; have n0_ := Aside0.mk (hp_); have n1_ := Aside0.mk (IsS73.grown (by repeat (first | (with_reducible first | exact HI0.out | apply IsS73.alloc | apply IsS73.drewN | apply IsS73.drew | apply IsS73.set_1) | exact HI0.out)) hg (IsS73.own_ne HI0.out HO_3.out (by decide))); have n2_ := Aside0.mk ((by rw [hw]; exact below_set (HB.out) (Nat.le_trans HL.out GB18.out) : Below w0.heap.size w0 w22)); have n3_ := Aside0.mk (KeepBut.trans (by repeat (first | (with_reducible first | exact HK.out | apply KeepBut.set_ | apply keep_drewN | apply keep_drew | apply keep_alloc) | exact HK.out)) (KeepBut.of_grown hg g) (Kd.R_base2 HO_3.out)); clear HO_3; clear HI0; clear HB; clear HK; have HO_3 := n0_; have HI0 := n1_; have HB := n2_; have HK := n3_; clear n0_ n1_ n2_ n3_; clear hg hw hp_))
            go_ret
            exact ⟨_, by first | rfl | (simp [errW_none, errW_some] <;> rfl) | (simp [*, errW_none, errW_some] <;> rfl), by (with_reducible repeat (first | apply Kd.R_alloc | apply Kd.R_drewN | apply Kd.R_drew)); exact HO_3.out, by repeat (first | (with_reducible first | exact HI0.out | apply IsS73.alloc | apply IsS73.drewN | apply IsS73.drew | apply IsS73.set_1) | exact HI0.out), by repeat (first | (with_reducible first | exact HB.out | apply below_alloc | apply pw_below_drewN | apply below_drew1 | refine below_set ?_ (IsS73.ge HI0.out)) | exact HB.out), by repeat (first | (with_reducible first | exact HK.out | apply KeepBut.set_ | apply keep_drewN | apply keep_drew | apply keep_alloc) | exact HK.out)⟩
          · rw [if_neg c17] at H
            exact absurd H (by simp)
        · rw [if_neg c16] at H
          exact absurd H (by simp)
      · replace c13 := Bool.eq_false_iff.mpr c13
        subst c13
        have H1 : (some (t297, x1001_4)) = some (r1, r2) := by rw [if_neg (show ¬ (false = true) by decide)] at H; exact H
        clear H
        have H := H1
        clear H1
        simp only [Option.some.injEq, Prod.mk.injEq] at H
        obtain ⟨rfl, rfl⟩ := H
        go_wp2
        go_ret
        exact ⟨_, by first | rfl | (simp [errW_none, errW_some] <;> rfl) | (simp [*, errW_none, errW_some] <;> rfl), by (with_reducible repeat (first | apply Kd.R_alloc | apply Kd.R_drewN | apply Kd.R_drew)); exact HO_3.out, by repeat (first | (with_reducible first | exact HI0.out | apply IsS73.alloc | apply IsS73.drewN | apply IsS73.drew | apply IsS73.set_1) | exact HI0.out), by repeat (first | (with_reducible first | exact HB.out | apply below_alloc | apply pw_below_drewN | apply below_drew1 | refine below_set ?_ (IsS73.ge HI0.out)) | exact HB.out), by repeat (first | (with_reducible first | exact HK.out | apply KeepBut.set_ | apply keep_drewN | apply keep_drew | apply keep_alloc) | exact HK.out)⟩

end Go.Proofs.Ytfoadgbffidgaaa.P

set_option linter.unusedVariables false
set_option linter.unusedSimpArgs false
namespace Go.Proofs.Ytfoadgbffidgaaa.X
open Go.RowKit Go.Proofs.YtfoadgbffidgaaaW.PrintWords Go.Proofs.YtfoadgbffidgaaaW.PrintLast Go.Proofs.Ytfoadgbffidgaaa.P

theorem sameInts_loop (a b : List Int) (hl : a.length ≤ 1048576) (hab : a.length = b.length) (d : Nat) : ∀ (i : Int), 0 ≤ i → i + d = a.length → (∀ j : Nat, (j : Int) < i → rd a (j : Int) = rd b (j : Int)) → Ev (fun k => laws_sameInts.l0 k a b i) (decide (a = b)) := by
  induction d with
  | zero =>
    intro i h0 h1 h
    refine Ev.step (fun k => by rw [laws_sameInts.l0]) ?_
    refine Ev.neg (by omega) (Ev.done ?_)
    rw [decide_eq_true (ext_rd hab fun j hj => h j (by omega))]
  | succ d ih =>
    intro i h0 h1 h
    refine Ev.step (fun k => by rw [laws_sameInts.l0]) ?_
    simp (disch := omega) only [w64]
    refine Ev.pos (by omega) (Ev.pos (by omega) (Ev.pos (by omega) ?_))
    by_cases e : rd a i = rd b i
    · refine Ev.pos e (ih (i + 1) (by omega) (by omega) fun j hj => ?_)
      by_cases ej : (j : Int) = i
      · rw [ej]; exact e
      · exact h j (by omega)
    · refine Ev.neg e (Ev.done ?_)
      rw [decide_eq_false (fun hab => e (by rw [hab]))]
theorem sameInts_ev (a b : List Int) (hl : a.length ≤ 1048576) : Ev (fun k => laws_sameInts.f k a b) (decide (a = b)) := by
  unfold laws_sameInts.f
  by_cases h : a.length = b.length
  · exact Ev.pos (by omega) (sameInts_loop a b hl h a.length 0 (by omega) (by omega) fun j hj => by omega)
  · refine Ev.neg (by omega) (Ev.done ?_)
    rw [decide_eq_false (fun hab => h (by rw [hab]))]
theorem sqOfR_len81 (t : List Int) (m : Int) : (sqOfR t m).1.length ≤ 81 := by
  unfold sqOfR
  by_cases hs : (sysB t && isM m) = true
  · rw [if_pos hs]; show (mapI _ _).length ≤ _; rw [mapI_length]; omega
  · rw [if_neg hs]; exact Nat.zero_le _
theorem square_ev {s : List Int} (hs : RdS s) {p : Int} (h0 : 0 ≤ p) (h1 : p ≤ 1099510000000) : ∃ l q, l.length ≤ 81 ∧ (p ≤ q ∧ q ≤ p + 9) ∧ Ev (fun k => spec_l91Square.f k s p) (l, q) := by
  obtain ⟨t, q, ht, hq, et⟩ := system_ev hs h0 (by omega)
  obtain ⟨m, hm, em⟩ := pick_ev hs (p := q) (by omega) (by omega) (n := 8) (by omega) (by omega)
  obtain ⟨a, ha, ea⟩ := pick_ev hs (p := q + 1) (by omega) (by omega) (n := 20) (by omega) (by omega)
  obtain ⟨i, hi, ei⟩ := pick_ev hs (p := q + 1 + 1) (by omega) (by omega) (n := 81) (by omega) (by omega)
  obtain ⟨v, hv, ev⟩ := pick_ev hs (p := q + 1 + 1 + 1) (by omega) (by omega) (n := 9) (by omega) (by omega)
  have htl := ht.len
  have esq := specSqOf_ev t (by omega) (1 + m)
  have hrl := sqOfR_len81 t (1 + m)
  have hr2 : (sqOfR t (1 + m)).2 = true → (sqOfR t (1 + m)).1.length = 81 := by
    unfold sqOfR
    split
    · intro _; exact mapI_length _ _
    · intro h; exact absurd h (by decide)
  generalize sqOfR t (1 + m) = r at *
  have ew : wrap64 (1 + m) = 1 + m := w64 (by omega) (by omega)
  by_cases er : r.2 = true
  · by_cases e : a = 0
    · refine ⟨r.1.set i.toNat v, q + 1 + 1 + 1 + 1, by rw [List.length_set]; exact hrl, by omega, ?_⟩
      unfold spec_l91Square.f
      refine Ev.bind et (Ev.bind em ?_)
      dsimp only
      rw [ew]
      refine Ev.bind esq (Ev.pos er (Ev.bind ea (Ev.step (fun k => by rw [spec_l91Square.j0]) (Ev.pos (by rw [e]; rfl) (Ev.bind ei (Ev.bind ev ?_))))))
      exact Ev.pos (by omega) (Ev.pos (by have := hr2 er; omega) (Ev.done rfl))
    · refine ⟨r.1, q + 1 + 1, hrl, by omega, ?_⟩
      unfold spec_l91Square.f
      refine Ev.bind et (Ev.bind em ?_)
      dsimp only
      rw [ew]
      exact Ev.bind esq (Ev.pos er (Ev.bind ea (Ev.step (fun k => by rw [spec_l91Square.j0]) (Ev.neg (by simp; exact e) (Ev.done rfl)))))
  · refine ⟨r.1, q + 1, hrl, by omega, ?_⟩
    unfold spec_l91Square.f
    refine Ev.bind et (Ev.bind em ?_)
    dsimp only
    rw [ew]
    exact Ev.bind esq (Ev.neg er (Ev.step (fun k => by rw [spec_l91Square.j0]) (Ev.neg (by decide) (Ev.done rfl))))

end Go.Proofs.Ytfoadgbffidgaaa.X

set_option linter.unusedVariables false
set_option linter.unusedSimpArgs false
namespace Go.Proofs.Ytfoadgbffidgaaa.Pure
open Go.RowKit Go.Proofs.Ytfoadgbffidgaaa.P Go.Proofs.YtfoadgbffidgaaaW.PrintWords Go.Proofs.YtfoadgbffidgaaaW.PrintLast Go.Proofs.Ytfoadgbffidgaaa.X

theorem lawSqOf_loop (t : List Int) (h : sysB t = true) (m : Int) (m0 : 1 ≤ m) (m1 : m ≤ 8) (n : Nat) : ∀ i : Int, 1 ≤ i → i + n = 9 → Ev (fun k => laws_FnSquareOf.l0 k t m (sqOfL t m) i) true := by
  induction n with
  | zero =>
    intro i h0 h1
    refine Ev.step (fun k => by rw [laws_FnSquareOf.l0]) (Ev.neg (by omega) ?_)
    refine Ev.fix (show impl_SquareIn.f (sqOfL t m) = some (squareB (sqOfL t m)) from rfl) (Ev.done ?_)
    rw [sqOf_square h m0 m1]
  | succ n ih =>
    intro i h0 h1
    refine Ev.step (fun k => by rw [laws_FnSquareOf.l0]) (Ev.pos (by omega) ?_)
    rw [w64 (x := i + 1) (by omega) (by omega)]
    have er : sqOfR t i = (sqOfL t i, true) := if_pos (by unfold isM; rw [h, decide_eq_true (by omega : 1 ≤ i), decide_eq_true (by omega : i ≤ 8)]; rfl)
    refine Ev.bind (implSqOf_ev t i) ?_
    rw [er]
    refine Ev.pos rfl (Ev.fix (show impl_SquareApart.f (sqOfL t m) (sqOfL t i) = some (apartB (sqOfL t m) (sqOfL t i)) from rfl) (Ev.neg ?_ (ih (i + 1) (by omega) (by omega))))
    by_cases e : i = m
    · subst e; rw [apart_self]; simp
    · rw [sqOf_apart h m0 m1 h0 (by omega) e]; simp [e]
theorem FnSquareOf : laws_FnSquareOf.Pure := by
  intro l0 _ _ hu
  refine Ev.rounds ?_
  unfold laws_FnSquareOf.f
  by_cases hb : (l0.length : Int) > 1048576
  · exact Ev.pos hb (Ev.done rfl)
  refine Ev.neg hb ?_
  obtain ⟨s, hs, eo⟩ := open_ev l0 hu
  obtain ⟨t, q, ht, hq, et⟩ := system_ev hs (p := 0) (by omega) (by omega)
  obtain ⟨m, q2, hm, hq2, em⟩ := nine_ev hs (p := q) (by omega) (by omega)
  have htl := ht.len
  refine Ev.bind (a := (t, m)) ?_ ?_
  · unfold spec_DrawSquareOf.f spec_DrawMoveStretch.f
    exact Ev.bind (Ev.fix eo (Ev.bind et (Ev.bind em (Ev.done rfl)))) (Ev.done rfl)
  refine Ev.bind (implSqOf_ev t m) (Ev.bind (specSqOf_ev t (by omega) m) ?_)
  refine Ev.neg (by simp) (Ev.bind (sameInts_ev _ _ (sqOfR_length t m)) (Ev.pos (by simp) ?_))
  refine Ev.step (fun k => by rw [laws_FnSquareOf.j0]) ?_
  by_cases e : (sysB t && isM m) = true
  · have er : sqOfR t m = (sqOfL t m, true) := if_pos e
    rw [er]
    have hsys := (Bool.and_eq_true _ _ ▸ e).1
    have hm := (Bool.and_eq_true _ _ ▸ e).2
    unfold isM at hm
    simp at hm
    exact Ev.neg (by simp) (lawSqOf_loop t hsys m hm.1 hm.2 8 1 (by omega) (by omega))
  · have er : sqOfR t m = ([], false) := if_neg e
    rw [er]
    refine Ev.pos (by decide) (Ev.pos (by decide) (Ev.bind (sameInts_ev _ _ (by simp)) (Ev.done (by simp))))

end Go.Proofs.Ytfoadgbffidgaaa.Pure

namespace Go.Proofs.Ytfoadgbffidgaaa.fnSquareOf
open Go.ChangeShapes Go.WideShapes Go.ChangeAt Go.RowKit
open Go.ChangeMaps (open_string shut_string)
set_option linter.unusedVariables false
theorem own : ownKnob Try.prog.godebug = none := by kernel_rfl
theorem laidOut : laidOutB Try.prog = true := by kernel_rfl
def IsRow (k : IntKind) (w : World) (a : Option Addr) (len cap : Nat) (zs : List Int) : Prop :=
  (a = none ∧ len = 0 ∧ cap = 0 ∧ zs = []) ∨
  ∃ x, a = some x ∧ len ≤ cap ∧ cap ≤ maxLen ∧ zs.length = cap ∧ (∀ i, i < zs.length → w.cell? (x.add i) = some (.int k (zs.getD i 0))) ∧ ∀ n ∈ zs, (Lit.int k n).wf = true
set_option maxRecDepth 100000 in
theorem lifted (os : Os) (started : os.Started) (H : Type) (enc : TypeId × Value → H) :
    ReturnsInHanded {} Try.checked os 11 .any (Rows.fnSquareOfSpec.pre6 enc Try.prog Try.f11 Rows.fnSquareOfRow.domain false) (Rows.fnSquareOfSpec.post enc Try.prog Try.f11 false true false false) := by
  refine returnsInHanded_of_change_sized (C := Try.checked) own started (by kernel_rfl) Try.func11
    (ChangeSpec.witness6 (enc := enc) (C := Try.checked) false ⟨#[], #[.slice none 0 0], []⟩ 8 (by kernel_rfl) (by kernel_rfl) (by kernel_rfl) (by kernel_rfl)) ?_
  intro W base args ds gs before hval0 hW hcnd hsz0 _
  have hsz : (DataW.weightsEach Try.prog (Try.f11.params.toList ++ Rows.fnSquareOfSpec.plain.varTypes Try.prog) (ds ++ gs)).all (· ≤ reachBytes) = true := hsz0
  have hval : ∀ (j : Nat) t v, Try.f11.params[j]? = some t → args[j]? = some v → Value.okWide Try.prog W .any base t v := hval0
  have hW' := hW
  obtain ⟨p, q, hA0, hV, rfl, hfz, hnd⟩ := hW
  have hA : DataW.TrodAll enc Try.prog W 0 (fun _ => true) true Try.f11.params.toList args.toList ds p := hA0
  rw [Try.params11] at hA hval hsz
  obtain ⟨v0, vs0, d0, ds0, p0, q0, hargs, rfl, rfl, h0, r0⟩ := trodAll_cons hA
  obtain ⟨rfl, rfl, rfl⟩ := trodAll_nil r0
  obtain rfl : args = #[v0] := by cases args; simp_all
  obtain ⟨rfl, rfl⟩ := trodVars_none hV
  obtain ⟨a0, len0, cap0, rfl⟩ := okWide_slice Try.underlying37 (hval 0 37 v0 rfl rfl)
  have k0 := h0
  have lt0 : ∀ x ∈ p0, x.block < W.heap.size := by obtain ⟨m, hm⟩ := k0; exact DataW.trod_lt m _ _ _ hm
  obtain ⟨z0, w0⟩ : ∃ zs, IsRow .u8 W a0 len0 cap0 zs := by
    obtain ⟨fuel, hf⟩ := h0
    rcases open_ints Try.underlying37 Try.underlying5 (by kernel_rfl) hf with ⟨hcs, _⟩ | ⟨x, l, c, zs, hcs, _, hl, hm, hz, _, hcell, hwz⟩
    · simp [Value.cells] at hcs
      obtain ⟨rfl, rfl, rfl⟩ := hcs
      exact ⟨[], .inl ⟨rfl, rfl, rfl, rfl⟩⟩
    · simp [Value.cells] at hcs
      obtain ⟨rfl, rfl, rfl⟩ := hcs
      exact ⟨zs, .inr ⟨_, rfl, hl, hm, by simpa using hz, hcell, hwz⟩⟩
  have y0 : len0 * 1 ≤ 140737488351232 := Go.Proofs.YtfoadgbffidgaaaW.PrintWords.sized_ints hsz (j := 0) (t := 37) rfl rfl Try.underlying37 Try.underlying5 (by kernel_rfl) (by kernel_rfl) h0
  clear hA0 hval0 hsz0 hsz
  refine (P.laws_FnSquareOf.walk Pure.FnSquareOf a0 len0 cap0 z0 W w0 y0).mono fun e W' ⟨he, bel⟩ => ?_
  subst he
  exact ⟨_, rfl, _, _, _, [], _, [], hW', trodAll_mk1 (shut_bool Try.underlying4 _), (trodAll_cons_mk (Below.trod laidOut (by kernel_rfl) (of_decide_eq_true (by kernel_rfl)) k0 bel lt0) trodAll_mk0), rfl, bel.frame _, fun h => by cases h⟩
theorem over : Rows.fnSquareOfRow.holds Try.pinned (OpenSpec.ofChange Rows.fnSquareOfSpec) :=
  OpenClaim.holds_of_wide 11 Try.f11 rfl rfl rfl rfl rfl rfl rfl ⟨rfl, rfl, rfl, rfl, rfl⟩ rfl rfl rfl rfl rfl (by kernel_rfl) Try.func11 (by kernel_rfl)
    (of_decide_eq_true (by kernel_rfl)) (by unfold Func.isWrapper; first | (rw [if_pos (by decide +kernel)]; kernel_rfl) | (rw [if_neg (by decide +kernel)]; exact ⟨rfl, rfl⟩))
    (fun os started H enc _ => lifted os started H enc)
theorem proved : Rows.FnSquareOfSaid := over
#print axioms proved
end Go.Proofs.Ytfoadgbffidgaaa.fnSquareOf
namespace Go.Proofs.Ytfoadgbffidgaaa
/-- The row, under a short name, for the claim. -/
theorem fnSquareOf_holds : Rows.FnSquareOfSaid := fnSquareOf.proved
end Go.Proofs.Ytfoadgbffidgaaa
