/- The law FnExactSpanOrder of the given program: for every input the call returns true, and each argument reads afterwards as it read before. No conditions. (Part 3 of 3; the last part holds the theorem.) -/
import Derived.Test.YtckipgldmkboiaaMFnExactSpanOrder0
import Derived.Test.YtckipgldmkboiaaMFnExactSpanOrder1
import Derived.Test.YtckipgldmkboiaaRows
import Derived.WalkKit
import Derived.ProofKit
import Derived.OpenShut
import Derived.ShutString
import Derived.ChangeOld
import Derived.Below
import Derived.SizedLaws
import Derived.Test.YtckipgldmkboiaaWSized
namespace Go.Proofs.Ytckipgldmkboiaa.P
open Go.RowKit Go.Proofs.YtckipgldmkboiaaW.PrintWords Go.Proofs.YtckipgldmkboiaaW.PrintLast Go.Proofs.YtckipgldmkboiaaW.PrintMore
attribute [local go_sem] max2_int min2_int max_two min_two max_three min_three max_four min_four   -- for this text's walks alone
set_option linter.unusedVariables false
set_option linter.unusedSimpArgs false

/-! ### spec_SpanOrder: function 29 -/
mutual
def spec_SpanOrder.j0 : Nat → List Int → List Int → Bool → Option (Int × Bool)
  | 0, _, _, _ => none
  | k + 1, x0, x1, x18 => if x18 = true then (some (0, false)) else ((spec_l7Span.f k x0 x1).bind fun t469 => (if 0 < (x1.length : Int) then (if 1 < (x1.length : Int) then ((spec_l3Join.f k x0 (rd x1 0) (rd x1 1)).bind fun t474 => (spec_SpanOrder.l0 k x0 t469 t474 0 0)) else (none)) else (none)))
def spec_SpanOrder.l0 : Nat → List Int → List Int → Int → Int → Int → Option (Int × Bool)
  | 0, _, _, _, _, _ => none
  | k + 1, x0, x6, x7, x8, x9 => if x9 < (x6.length : Int) then (if 0 ≤ x9 then ((spec_l3On.f x0 (rd x6 x9) x7).bind fun t476 => (if t476 = true then (spec_SpanOrder.l0 k x0 x6 x7 (wrap64 (x8 + 1)) (wrap64 (x9 + 1))) else (spec_SpanOrder.l0 k x0 x6 x7 x8 (wrap64 (x9 + 1))))) else (none)) else (some (wrap64 (x8 - 1), true))
end
def spec_SpanOrder.f (k : Nat) (l0 : List Int) (l1 : List Int) : Option (Int × Bool) := if (l1.length : Int) = 4 then ((spec_PlaneApart.f k l0 l1).bind fun t468 => (spec_SpanOrder.j0 k l0 l1 (!t468))) else (spec_SpanOrder.j0 k l0 l1 true)
theorem spec_SpanOrder.mono_l : ∀ k, (∀ y0 y1 y2, LeO (spec_SpanOrder.j0 k y0 y1 y2) (spec_SpanOrder.j0 (k + 1) y0 y1 y2)) ∧ (∀ y0 y1 y2 y3 y4, LeO (spec_SpanOrder.l0 k y0 y1 y2 y3 y4) (spec_SpanOrder.l0 (k + 1) y0 y1 y2 y3 y4))
  | 0 => ⟨fun _ _ _ r h => by simp [spec_SpanOrder.j0] at h, fun _ _ _ _ _ r h => by simp [spec_SpanOrder.l0] at h⟩
  | k + 1 => by
    obtain ⟨ih0, ih1⟩ := spec_SpanOrder.mono_l k
    refine ⟨?_, ?_⟩
    · intro y0 y1 y2
      unfold spec_SpanOrder.j0
      repeat' first
      | (with_reducible exact ih0 _ _ _)
      | (with_reducible exact ih1 _ _ _ _ _)
      | (with_reducible exact spec_PlaneApart.mono _ _ _)
      | (with_reducible exact spec_l3Join.mono _ _ _ _)
      | (with_reducible exact spec_l7Span.mono _ _ _)
      | (with_reducible exact LeO.refl _)
      | (with_reducible exact LeO.none _)
      | (with_reducible refine LeO.ite ?_ ?_)
      | (with_reducible refine LeO.bind ?_ (fun _ => ?_))
      | exact ih0 _ _ _
      | exact ih1 _ _ _ _ _
      | exact spec_PlaneApart.mono _ _ _
      | exact spec_l3Join.mono _ _ _ _
      | exact spec_l7Span.mono _ _ _
      | exact LeO.none _
      | refine LeO.ite ?_ ?_
      | refine LeO.bind ?_ (fun _ => ?_)
    · intro y0 y1 y2 y3 y4
      unfold spec_SpanOrder.l0
      repeat' first
      | (with_reducible exact ih0 _ _ _)
      | (with_reducible exact ih1 _ _ _ _ _)
      | (with_reducible exact spec_PlaneApart.mono _ _ _)
      | (with_reducible exact spec_l3Join.mono _ _ _ _)
      | (with_reducible exact spec_l7Span.mono _ _ _)
      | (with_reducible exact LeO.refl _)
      | (with_reducible exact LeO.none _)
      | (with_reducible refine LeO.ite ?_ ?_)
      | (with_reducible refine LeO.bind ?_ (fun _ => ?_))
      | exact ih0 _ _ _
      | exact ih1 _ _ _ _ _
      | exact spec_PlaneApart.mono _ _ _
      | exact spec_l3Join.mono _ _ _ _
      | exact spec_l7Span.mono _ _ _
      | exact LeO.none _
      | refine LeO.ite ?_ ?_
      | refine LeO.bind ?_ (fun _ => ?_)
theorem spec_SpanOrder.mono : ∀ a0 a1 k, LeO (spec_SpanOrder.f k a0 a1) (spec_SpanOrder.f (k + 1) a0 a1) := by
  intro a0 a1 k
  obtain ⟨ih0, ih1⟩ := spec_SpanOrder.mono_l k
  unfold spec_SpanOrder.f
  repeat' first
      | (with_reducible exact ih0 _ _ _)
      | (with_reducible exact ih1 _ _ _ _ _)
      | (with_reducible exact spec_PlaneApart.mono _ _ _)
      | (with_reducible exact spec_l3Join.mono _ _ _ _)
      | (with_reducible exact spec_l7Span.mono _ _ _)
      | (with_reducible exact LeO.refl _)
      | (with_reducible exact LeO.none _)
      | (with_reducible refine LeO.ite ?_ ?_)
      | (with_reducible refine LeO.bind ?_ (fun _ => ?_))
      | exact ih0 _ _ _
      | exact ih1 _ _ _ _ _
      | exact spec_PlaneApart.mono _ _ _
      | exact spec_l3Join.mono _ _ _ _
      | exact spec_l7Span.mono _ _ _
      | exact LeO.none _
      | refine LeO.ite ?_ ?_
      | refine LeO.bind ?_ (fun _ => ?_)
set_option maxHeartbeats 8000000 in
set_option maxRecDepth 100000 in
theorem spec_SpanOrder.calls (k : Nat) (A0 : Option Addr) (c0 : Nat) (l0 : List Int) (A1 : Option Addr) (c1 : Nat) (l1 : List Int) (r1 : Int) (r2 : Bool) (w : World) (hr0 : Kd.C (Kd.int .i64) w A0 l0.length l0) (hc0 : l0.length ≤ c0) (hr1 : Kd.C (Kd.int .i64) w A1 l1.length l1) (hc1 : l1.length ≤ c1) (h : spec_SpanOrder.f k l0 l1 = some (r1, r2)) :
    Calls Try.prog 29 #[.slice A0 l0.length c0, .slice A1 l1.length c1] w fun e w' => e = .returned (.tuple #[.int .i64 r1, .bool r2]) ∧ Below w.heap.size w w' := by
  have HR0 := Aside0.mk hr0
  have HC0 := Aside0.mk hc0
  clear hr0 hc0
  have HR1 := Aside0.mk hr1
  have HC1 := Aside0.mk hc1
  clear hr1 hc1
  have HB := Aside0.mk (Below.refl w.heap.size w)
  have H : (if (l1.length : Int) = 4 then ((spec_PlaneApart.f k l0 l1).bind fun t468 => (spec_SpanOrder.j0 k l0 l1 (!t468))) else (spec_SpanOrder.j0 k l0 l1 true)) = some (r1, r2) := h
  clear h
  have HC3 := Aside0.mk H
  clear H
  go_enter Try.func29, Try.ntmps29
  go_upto_region 1 with (fail)
  repeat (go_quiet (fail); go_upto_region 1 with (fail))
  go_cut [18] (fun v18 wc => ∃ (kq : Nat) (x18_2 : Bool), v18 = .bool x18_2 ∧ Aside0 (spec_SpanOrder.j0 kq l0 l1 x18_2 = some (r1, r2)) ∧ Aside0 (kq ≤ k) ∧ Aside0 (Below w.heap.size w wc))
  case first =>
    have H := HC3.out
    clear HC3
    by_cases c4 : (l1.length : Int) = 4
    · rw [if_pos c4] at H
      have c4b0 : ((l1.length : Int) == 4) = true := beq_iff_eq.mpr c4
      have c4b1 : ((l1.length : Int) != 4) = false := bne_eq_false_iff_eq.mpr c4
      clear c4
      (first | rw [c4b0] | (simp only [i64_w, i32_w]; rw [c4b0]) | skip)
      replace H := Option.bind_eq_some_iff.mp H
      obtain ⟨t468, A50, H⟩ := H
      replace H : (spec_SpanOrder.j0 k l0 l1 (!t468)) = some (r1, r2) := H
      have A5 := Aside0.mk A50
      clear A50
      have H' := Aside0.mk H
      clear H
      go_wp2_with (first | (go_at_call 64; (with_reducible refine (spec_PlaneApart.calls k _ _ l0 _ _ l1 t468 _ ?side1 ?side2 ?side3 ?side4 A5.out).mono ?_); (case side1 => repeat (first | exact (Kd.C_below HR0.out HB.out) | (with_reducible refine Kd.C_alloc ?_ _) | (with_reducible refine Kd.C_drewN ?_ _) | (with_reducible refine Kd.C_drew ?_))); (case side2 => exact HC0.out); (case side3 => repeat (first | exact (Kd.C_below HR1.out HB.out) | (with_reducible refine Kd.C_alloc ?_ _) | (with_reducible refine Kd.C_drewN ?_ _) | (with_reducible refine Kd.C_drew ?_))); (case side4 => exact HC1.out); rintro e w6 ⟨rfl, hb⟩; have n0_ := Aside0.mk (below_step (by repeat (first | (with_reducible first | exact HB.out | apply below_alloc | apply pw_below_drewN | apply below_drew1) | exact HB.out)) hb); clear HB; have HB := n0_; clear n0_; (try clear hb); (try clear hb2); (try clear hk); (try clear hi)))
      repeat (go_quiet (first | (go_at_call 64; (with_reducible refine (spec_PlaneApart.calls k _ _ l0 _ _ l1 t468 _ ?side1 ?side2 ?side3 ?side4 A5.out).mono ?_); (case side1 => repeat (first | exact (Kd.C_below HR0.out HB.out) | (with_reducible refine Kd.C_alloc ?_ _) | (with_reducible refine Kd.C_drewN ?_ _) | (with_reducible refine Kd.C_drew ?_))); (case side2 => exact HC0.out); (case side3 => repeat (first | exact (Kd.C_below HR1.out HB.out) | (with_reducible refine Kd.C_alloc ?_ _) | (with_reducible refine Kd.C_drewN ?_ _) | (with_reducible refine Kd.C_drew ?_))); (case side4 => exact HC1.out); rintro e w6 ⟨rfl, hb⟩; have n0_ := Aside0.mk (below_step (by repeat (first | (with_reducible first | exact HB.out | apply below_alloc | apply pw_below_drewN | apply below_drew1) | exact HB.out)) hb); clear HB; have HB := n0_; clear n0_; (try clear hb); (try clear hb2); (try clear hk); (try clear hi))); try go_wp2_with (first | (go_at_call 64; (with_reducible refine (spec_PlaneApart.calls k _ _ l0 _ _ l1 t468 _ ?side1 ?side2 ?side3 ?side4 A5.out).mono ?_); (case side1 => repeat (first | exact (Kd.C_below HR0.out HB.out) | (with_reducible refine Kd.C_alloc ?_ _) | (with_reducible refine Kd.C_drewN ?_ _) | (with_reducible refine Kd.C_drew ?_))); (case side2 => exact HC0.out); (case side3 => repeat (first | exact (Kd.C_below HR1.out HB.out) | (with_reducible refine Kd.C_alloc ?_ _) | (with_reducible refine Kd.C_drewN ?_ _) | (with_reducible refine Kd.C_drew ?_))); (case side4 => exact HC1.out); rintro e w6 ⟨rfl, hb⟩; have n0_ := Aside0.mk (below_step (by repeat (first | (with_reducible first | exact HB.out | apply below_alloc | apply pw_below_drewN | apply below_drew1) | exact HB.out)) hb); clear HB; have HB := n0_; clear n0_; (try clear hb); (try clear hb2); (try clear hk); (try clear hi))))
      go_meet
      case rel => exact ⟨_, (!t468), (by first | rfl | (simp; done) | (simp [*]; done)), H', ⟨by first | omega | exact Nat.le_refl _⟩, ⟨by repeat (first | (with_reducible first | exact HB.out | apply below_alloc | apply pw_below_drewN | apply below_drew1) | exact HB.out)⟩⟩
    · rw [if_neg c4] at H
      have c4b0 : ((l1.length : Int) == 4) = false := beq_eq_false_iff_ne.mpr c4
      have c4b1 : ((l1.length : Int) != 4) = true := bne_iff_ne.mpr c4
      (first | rw [c4b0] | (simp only [i64_w, i32_w]; rw [c4b0]) | skip)
      have H' := Aside0.mk H
      clear H
      go_wp2
      repeat (go_quiet (fail); try go_wp2)
      go_meet
      case rel => exact ⟨_, (true), (by first | rfl | (simp; done) | (simp [*]; done)), H', ⟨by first | omega | exact Nat.le_refl _⟩, ⟨by repeat (first | (with_reducible first | exact HB.out | apply below_alloc | apply pw_below_drewN | apply below_drew1) | exact HB.out)⟩⟩
  case rest =>
    clear HC3
    try clear c1
    try clear c2
    try clear p2
    try clear c4
    try clear c4b0
    try clear c4b1
    obtain ⟨kq, x18_2, rfl, HA, HJ2, HB⟩ := hcut
    cases kq with
    | zero => exact absurd HA.out (by simp [spec_SpanOrder.j0])
    | succ kj2 =>
      have H := HA.out
      clear HA
      simp only [spec_SpanOrder.j0] at H
      by_cases c7 : x18_2 = true
      · subst c7
        have H1 : (some (0, false)) = some (r1, r2) := by rw [if_pos rfl] at H; exact H
        clear H
        have H := H1
        clear H1
        simp only [Option.some.injEq, Prod.mk.injEq] at H
        obtain ⟨rfl, rfl⟩ := H
        go_wp2
        repeat (go_quiet (fail); try go_wp2)
        go_ret2
        exact ⟨by first | rfl | (simp [errW_none, errW_some] <;> rfl) | (simp [*, errW_none, errW_some] <;> rfl), by repeat (first | (with_reducible first | exact HB.out | apply below_alloc | apply pw_below_drewN | apply below_drew1) | exact HB.out)⟩
      · replace c7 := Bool.eq_false_iff.mpr c7
        subst c7
        have H1 : ((spec_l7Span.f kj2 l0 l1).bind fun t469 => (if 0 < (l1.length : Int) then (if 1 < (l1.length : Int) then ((spec_l3Join.f kj2 l0 (rd l1 0) (rd l1 1)).bind fun t474 => (spec_SpanOrder.l0 kj2 l0 t469 t474 0 0)) else (none)) else (none))) = some (r1, r2) := by rw [if_neg (show ¬ (false = true) by decide)] at H; exact H
        clear H
        have H := H1
        clear H1
        replace H := Option.bind_eq_some_iff.mp H
        obtain ⟨t469, A80, H⟩ := H
        replace H : (if 0 < (l1.length : Int) then (if 1 < (l1.length : Int) then ((spec_l3Join.f kj2 l0 (rd l1 0) (rd l1 1)).bind fun t474 => (spec_SpanOrder.l0 kj2 l0 t469 t474 0 0)) else (none)) else (none)) = some (r1, r2) := H
        have A8 := Aside0.mk A80
        clear A80
        by_cases c9 : 0 < (l1.length : Int)
        · rw [if_pos c9] at H
          have c9b0 : decide (0 < (l1.length : Int)) = true := decide_eq_true c9
          have c9b1 : decide (0 < l1.length) = true := decide_eq_true (by omega)
          clear c9
          by_cases c10 : 1 < (l1.length : Int)
          · rw [if_pos c10] at H
            have c10b0 : decide (1 < (l1.length : Int)) = true := decide_eq_true c10
            have c10b1 : decide (1 < l1.length) = true := decide_eq_true (by omega)
            clear c10
            replace H := Option.bind_eq_some_iff.mp H
            obtain ⟨t474, A110, H⟩ := H
            replace H : (spec_SpanOrder.l0 kj2 l0 t469 t474 0 0) = some (r1, r2) := H
            have A11 := Aside0.mk A110
            clear A110
            have H' := Aside0.mk H
            clear H
            go_wp2_with (first | (go_at_call 65; (with_reducible refine (spec_l7Span.calls kj2 _ _ l0 _ _ l1 t469 _ ?side1 ?side2 ?side3 ?side4 A8.out).mono ?_); (case side1 => repeat (first | exact (Kd.C_below HR0.out HB.out) | (with_reducible refine Kd.C_alloc ?_ _) | (with_reducible refine Kd.C_drewN ?_ _) | (with_reducible refine Kd.C_drew ?_))); (case side2 => exact HC0.out); (case side3 => repeat (first | exact (Kd.C_below HR1.out HB.out) | (with_reducible refine Kd.C_alloc ?_ _) | (with_reducible refine Kd.C_drewN ?_ _) | (with_reducible refine Kd.C_drew ?_))); (case side4 => exact HC1.out); rintro e w12 ⟨v470, rfl, ho0, hb⟩; have n0_ := Aside0.mk (Kd.R_lower ho0 (below_size (by repeat (first | (with_reducible first | exact HB.out | apply below_alloc | apply pw_below_drewN | apply below_drew1) | exact HB.out)))); have n1_ := Aside0.mk (below_step (by repeat (first | (with_reducible first | exact HB.out | apply below_alloc | apply pw_below_drewN | apply below_drew1) | exact HB.out)) hb); clear HB; have HO471 := n0_; have HB := n1_; clear n0_ n1_; (try clear hb); (try clear hb2); (try clear hk); (try clear hi); (try clear ho0); have p472 : 0 ≤ (0 : Int) := (by omega); have q472 : 0 < (l1.length : Int) := of_decide_eq_true (by first | (with_reducible assumption) | assumption); obtain ⟨ad472, e472, hx472_0⟩ := Kd.at_int HR1.out 0 p472 q472; cases e472; have qi472 : (0 < l1.length) = True := eq_true (by omega); (try rw [show ((0 : Int)).toNat = 0 from rfl] at hx472_0); (try rw [Addr.add_zero'] at hx472_0); replace hx472_0 := (HB.out.cell (World.block_lt_of_cell? w _ hx472_0)).trans hx472_0; replace p472 := eq_true p472; replace q472 := eq_true q472; have p473 : 0 ≤ (1 : Int) := (by omega); have q473 : 1 < (l1.length : Int) := of_decide_eq_true (by first | (with_reducible assumption) | assumption); obtain ⟨ad473, e473, hx473_0⟩ := Kd.at_int HR1.out 1 p473 q473; obtain rfl : ad472 = ad473 := (by injection e473); (try simp only [show (1 : Int).toNat = 1 from rfl, Nat.reduceMul, Nat.reduceEqDiff, Go.Addr.add, ↓reduceIte] at hx473_0); have qi473 : (1 < l1.length) = True := eq_true (by omega); (try rw [show ((1 : Int)).toNat = 1 from rfl] at hx473_0); replace hx473_0 := (HB.out.cell (World.block_lt_of_cell? w _ hx473_0)).trans hx473_0; replace p473 := eq_true p473; replace q473 := eq_true q473) | (go_at_call 69; (with_reducible refine (spec_l3Join.calls kj2 _ _ l0 (rd l1 0) (rd l1 1) t474 _ ?side1 ?side2 A11.out).mono ?_); (case side1 => repeat (first | exact (Kd.C_below HR0.out HB.out) | (with_reducible refine Kd.C_alloc ?_ _) | (with_reducible refine Kd.C_drewN ?_ _) | (with_reducible refine Kd.C_drew ?_))); (case side2 => exact HC0.out); rintro e w' ⟨rfl, ⟨nd, rfl⟩⟩; (try first | exact ⟨rfl, _, World.drewN_drewN _ _ _⟩ | exact ⟨rfl, _, Eq.trans (World.drewN_drewN _ _ _) (congrArg (World.drewN _) (Nat.add_assoc _ _ _))⟩)))
            repeat (go_quiet (first | (go_at_call 65; (with_reducible refine (spec_l7Span.calls kj2 _ _ l0 _ _ l1 t469 _ ?side1 ?side2 ?side3 ?side4 A8.out).mono ?_); (case side1 => repeat (first | exact (Kd.C_below HR0.out HB.out) | (with_reducible refine Kd.C_alloc ?_ _) | (with_reducible refine Kd.C_drewN ?_ _) | (with_reducible refine Kd.C_drew ?_))); (case side2 => exact HC0.out); (case side3 => repeat (first | exact (Kd.C_below HR1.out HB.out) | (with_reducible refine Kd.C_alloc ?_ _) | (with_reducible refine Kd.C_drewN ?_ _) | (with_reducible refine Kd.C_drew ?_))); (case side4 => exact HC1.out); rintro e w12 ⟨v470, rfl, ho0, hb⟩; have n0_ := Aside0.mk (Kd.R_lower ho0 (below_size (by repeat (first | (with_reducible first | exact HB.out | apply below_alloc | apply pw_below_drewN | apply below_drew1) | exact HB.out)))); have n1_ := Aside0.mk (below_step (by repeat (first | (with_reducible first | exact HB.out | apply below_alloc | apply pw_below_drewN | apply below_drew1) | exact HB.out)) hb); clear HB; have HO471 := n0_; have HB := n1_; clear n0_ n1_; (try clear hb); (try clear hb2); (try clear hk); (try clear hi); (try clear ho0); have p472 : 0 ≤ (0 : Int) := (by omega); have q472 : 0 < (l1.length : Int) := of_decide_eq_true (by first | (with_reducible assumption) | assumption); obtain ⟨ad472, e472, hx472_0⟩ := Kd.at_int HR1.out 0 p472 q472; cases e472; have qi472 : (0 < l1.length) = True := eq_true (by omega); (try rw [show ((0 : Int)).toNat = 0 from rfl] at hx472_0); (try rw [Addr.add_zero'] at hx472_0); replace hx472_0 := (HB.out.cell (World.block_lt_of_cell? w _ hx472_0)).trans hx472_0; replace p472 := eq_true p472; replace q472 := eq_true q472; have p473 : 0 ≤ (1 : Int) := (by omega); have q473 : 1 < (l1.length : Int) := of_decide_eq_true (by first | (with_reducible assumption) | assumption); obtain ⟨ad473, e473, hx473_0⟩ := Kd.at_int HR1.out 1 p473 q473; obtain rfl : ad472 = ad473 := (by injection e473); (try simp only [show (1 : Int).toNat = 1 from rfl, Nat.reduceMul, Nat.reduceEqDiff, Go.Addr.add, ↓reduceIte] at hx473_0); have qi473 : (1 < l1.length) = True := eq_true (by omega); (try rw [show ((1 : Int)).toNat = 1 from rfl] at hx473_0); replace hx473_0 := (HB.out.cell (World.block_lt_of_cell? w _ hx473_0)).trans hx473_0; replace p473 := eq_true p473; replace q473 := eq_true q473) | (go_at_call 69; (with_reducible refine (spec_l3Join.calls kj2 _ _ l0 (rd l1 0) (rd l1 1) t474 _ ?side1 ?side2 A11.out).mono ?_); (case side1 => repeat (first | exact (Kd.C_below HR0.out HB.out) | (with_reducible refine Kd.C_alloc ?_ _) | (with_reducible refine Kd.C_drewN ?_ _) | (with_reducible refine Kd.C_drew ?_))); (case side2 => exact HC0.out); rintro e w' ⟨rfl, ⟨nd, rfl⟩⟩; (try first | exact ⟨rfl, _, World.drewN_drewN _ _ _⟩ | exact ⟨rfl, _, Eq.trans (World.drewN_drewN _ _ _) (congrArg (World.drewN _) (Nat.add_assoc _ _ _))⟩))); try go_wp2_with (first | (go_at_call 65; (with_reducible refine (spec_l7Span.calls kj2 _ _ l0 _ _ l1 t469 _ ?side1 ?side2 ?side3 ?side4 A8.out).mono ?_); (case side1 => repeat (first | exact (Kd.C_below HR0.out HB.out) | (with_reducible refine Kd.C_alloc ?_ _) | (with_reducible refine Kd.C_drewN ?_ _) | (with_reducible refine Kd.C_drew ?_))); (case side2 => exact HC0.out); (case side3 => repeat (first | exact (Kd.C_below HR1.out HB.out) | (with_reducible refine Kd.C_alloc ?_ _) | (with_reducible refine Kd.C_drewN ?_ _) | (with_reducible refine Kd.C_drew ?_))); (case side4 => exact HC1.out); rintro e w12 ⟨v470, rfl, ho0, hb⟩; have n0_ := Aside0.mk (Kd.R_lower ho0 (below_size (by repeat (first | (with_reducible first | exact HB.out | apply below_alloc | apply pw_below_drewN | apply below_drew1) | exact HB.out)))); have n1_ := Aside0.mk (below_step (by repeat (first | (with_reducible first | exact HB.out | apply below_alloc | apply pw_below_drewN | apply below_drew1) | exact HB.out)) hb); clear HB; have HO471 := n0_; have HB := n1_; clear n0_ n1_; (try clear hb); (try clear hb2); (try clear hk); (try clear hi); (try clear ho0); have p472 : 0 ≤ (0 : Int) := (by omega); have q472 : 0 < (l1.length : Int) := of_decide_eq_true (by first | (with_reducible assumption) | assumption); obtain ⟨ad472, e472, hx472_0⟩ := Kd.at_int HR1.out 0 p472 q472; cases e472; have qi472 : (0 < l1.length) = True := eq_true (by omega); (try rw [show ((0 : Int)).toNat = 0 from rfl] at hx472_0); (try rw [Addr.add_zero'] at hx472_0); replace hx472_0 := (HB.out.cell (World.block_lt_of_cell? w _ hx472_0)).trans hx472_0; replace p472 := eq_true p472; replace q472 := eq_true q472; have p473 : 0 ≤ (1 : Int) := (by omega); have q473 : 1 < (l1.length : Int) := of_decide_eq_true (by first | (with_reducible assumption) | assumption); obtain ⟨ad473, e473, hx473_0⟩ := Kd.at_int HR1.out 1 p473 q473; obtain rfl : ad472 = ad473 := (by injection e473); (try simp only [show (1 : Int).toNat = 1 from rfl, Nat.reduceMul, Nat.reduceEqDiff, Go.Addr.add, ↓reduceIte] at hx473_0); have qi473 : (1 < l1.length) = True := eq_true (by omega); (try rw [show ((1 : Int)).toNat = 1 from rfl] at hx473_0); replace hx473_0 := (HB.out.cell (World.block_lt_of_cell? w _ hx473_0)).trans hx473_0; replace p473 := eq_true p473; replace q473 := eq_true q473) | (go_at_call 69; (with_reducible refine (spec_l3Join.calls kj2 _ _ l0 (rd l1 0) (rd l1 1) t474 _ ?side1 ?side2 A11.out).mono ?_); (case side1 => repeat (first | exact (Kd.C_below HR0.out HB.out) | (with_reducible refine Kd.C_alloc ?_ _) | (with_reducible refine Kd.C_drewN ?_ _) | (with_reducible refine Kd.C_drew ?_))); (case side2 => exact HC0.out); rintro e w' ⟨rfl, ⟨nd, rfl⟩⟩; (try first | exact ⟨rfl, _, World.drewN_drewN _ _ _⟩ | exact ⟨rfl, _, Eq.trans (World.drewN_drewN _ _ _) (congrArg (World.drewN _) (Nat.add_assoc _ _ _))⟩))))
            go_loopg [8, 9] kj2 (fun kq v8 v9 w' => ∃ (x8_2 : Int) (x9_2 : Int), v8 = .int .i64 x8_2 ∧ v9 = .int .i64 x9_2 ∧ Aside0 (spec_SpanOrder.l0 kq l0 t469 t474 x8_2 x9_2 = some (r1, r2)) ∧ Aside0 (kq ≤ kj2) ∧ Aside0 (Kd.R (Kd.int .i64) 3 w' w.heap.size (fun _ => True) v470 t469) ∧ Aside0 (Below w.heap.size w w'))
            case atStart => exact ⟨(0), (0), (by first | rfl | (simp; done) | (simp [*]; done)), (by first | rfl | (simp; done) | (simp [*]; done)), H', ⟨Nat.le_refl _⟩, ⟨by (with_reducible repeat (first | apply Kd.R_alloc | apply Kd.R_drewN | apply Kd.R_drew)); exact HO471.out⟩, ⟨by repeat (first | (with_reducible first | exact HB.out | apply below_alloc | apply pw_below_drewN | apply below_drew1) | exact HB.out)⟩⟩
            case round =>
              clear H'
              try clear c1
              try clear c2
              try clear p2
              try clear c4
              try clear c4b0
              try clear c4b1
              try clear p4
              try clear q4
              try clear hx4
              try clear qi4
              try clear c7
              try clear c9
              try clear c9b0
              try clear c9b1
              try clear c10
              try clear c10b0
              try clear c10b1
              try clear hx472_0
              try clear hx473_0
              try clear p2
              try clear p472
              try clear p473
              try clear q472
              try clear q473
              obtain ⟨x8_2, x9_2, rfl, rfl, HA, HK2, HO_6, HB⟩ := hrel
              cases gk with
              | zero => exact absurd HA.out (by simp [spec_SpanOrder.l0])
              | succ k2 =>
                have H := HA.out
                clear HA
                simp only [spec_SpanOrder.l0] at H
                by_cases c13 : x9_2 < (t469.length : Int)
                · rw [if_pos c13] at H
                  have c13b0 : decide (x9_2 < (t469.length : Int)) = true := decide_eq_true c13
                  clear c13
                  by_cases c14 : 0 ≤ x9_2
                  · rw [if_pos c14] at H
                    have c14b0 : decide (0 ≤ x9_2) = true := decide_eq_true c14
                    clear c14
                    replace H := Option.bind_eq_some_iff.mp H
                    obtain ⟨t476, A150, H⟩ := H
                    replace H : (if t476 = true then (spec_SpanOrder.l0 k2 l0 t469 t474 (wrap64 (x8_2 + 1)) (wrap64 (x9_2 + 1))) else (spec_SpanOrder.l0 k2 l0 t469 t474 x8_2 (wrap64 (x9_2 + 1)))) = some (r1, r2) := H
                    have A15 := Aside0.mk A150
                    clear A150
                    by_cases c16 : t476 = true
                    · subst c16
                      have H1 : (spec_SpanOrder.l0 k2 l0 t469 t474 (wrap64 (x8_2 + 1)) (wrap64 (x9_2 + 1))) = some (r1, r2) := by rw [if_pos rfl] at H; exact H
                      clear H
                      have H := H1
                      clear H1
                      have H' := Aside0.mk H
                      clear H
                      obtain ⟨Ao17, co17, eo17⟩ := Kd.R_slice HO_6.out
                      subst eo17
                      have p475 : 0 ≤ (x9_2 : Int) := of_decide_eq_true (by first | (with_reducible assumption) | assumption)
                      have q475 : x9_2 < (t469.length : Int) := of_decide_eq_true (by first | (with_reducible assumption) | assumption)
                      obtain ⟨ad475, e475, hx475_0⟩ := Kd.at_int (Kd.R_reads' HO_6.out).2.2 x9_2 p475 q475
                      cases e475
                      replace p475 := eq_true p475
                      replace q475 := eq_true q475
                      go_wp2_with (first | (go_at_call 54; (with_reducible refine (spec_l3On.calls _ _ l0 (rd t469 x9_2) t474 true _ ?side1 ?side2 A15.out).mono ?_); (case side1 => repeat (first | exact (Kd.C_below HR0.out HB.out) | (with_reducible refine Kd.C_alloc ?_ _) | (with_reducible refine Kd.C_drewN ?_ _) | (with_reducible refine Kd.C_drew ?_))); (case side2 => exact HC0.out); rintro e w' ⟨rfl, ⟨nd, rfl⟩⟩; (try first | exact ⟨rfl, _, World.drewN_drewN _ _ _⟩ | exact ⟨rfl, _, Eq.trans (World.drewN_drewN _ _ _) (congrArg (World.drewN _) (Nat.add_assoc _ _ _))⟩)))
                      repeat (go_quiet (first | (go_at_call 54; (with_reducible refine (spec_l3On.calls _ _ l0 (rd t469 x9_2) t474 true _ ?side1 ?side2 A15.out).mono ?_); (case side1 => repeat (first | exact (Kd.C_below HR0.out HB.out) | (with_reducible refine Kd.C_alloc ?_ _) | (with_reducible refine Kd.C_drewN ?_ _) | (with_reducible refine Kd.C_drew ?_))); (case side2 => exact HC0.out); rintro e w' ⟨rfl, ⟨nd, rfl⟩⟩; (try first | exact ⟨rfl, _, World.drewN_drewN _ _ _⟩ | exact ⟨rfl, _, Eq.trans (World.drewN_drewN _ _ _) (congrArg (World.drewN _) (Nat.add_assoc _ _ _))⟩))); try go_wp2_with (first | (go_at_call 54; (with_reducible refine (spec_l3On.calls _ _ l0 (rd t469 x9_2) t474 true _ ?side1 ?side2 A15.out).mono ?_); (case side1 => repeat (first | exact (Kd.C_below HR0.out HB.out) | (with_reducible refine Kd.C_alloc ?_ _) | (with_reducible refine Kd.C_drewN ?_ _) | (with_reducible refine Kd.C_drew ?_))); (case side2 => exact HC0.out); rintro e w' ⟨rfl, ⟨nd, rfl⟩⟩; (try first | exact ⟨rfl, _, World.drewN_drewN _ _ _⟩ | exact ⟨rfl, _, Eq.trans (World.drewN_drewN _ _ _) (congrArg (World.drewN _) (Nat.add_assoc _ _ _))⟩))))
                      go_roundg k2
                      case measure => have := HJ2.out; have := HK2.out; omega
                      case rel => exact ⟨(wrap64 (x8_2 + 1)), (wrap64 (x9_2 + 1)), (by first | rfl | (simp; done) | (simp [*]; done)), (by first | rfl | (simp; done) | (simp [*]; done)), H', ⟨by have := HJ2.out; have := HK2.out; omega⟩, ⟨by (with_reducible repeat (first | apply Kd.R_alloc | apply Kd.R_drewN | apply Kd.R_drew)); exact HO_6.out⟩, ⟨by repeat (first | (with_reducible first | exact HB.out | apply below_alloc | apply pw_below_drewN | apply below_drew1) | exact HB.out)⟩⟩
                    · replace c16 := Bool.eq_false_iff.mpr c16
                      subst c16
                      have H1 : (spec_SpanOrder.l0 k2 l0 t469 t474 x8_2 (wrap64 (x9_2 + 1))) = some (r1, r2) := by rw [if_neg (show ¬ (false = true) by decide)] at H; exact H
                      clear H
                      have H := H1
                      clear H1
                      have H' := Aside0.mk H
                      clear H
                      obtain ⟨Ao18, co18, eo18⟩ := Kd.R_slice HO_6.out
                      subst eo18
                      have p475 : 0 ≤ (x9_2 : Int) := of_decide_eq_true (by first | (with_reducible assumption) | assumption)
                      have q475 : x9_2 < (t469.length : Int) := of_decide_eq_true (by first | (with_reducible assumption) | assumption)
                      obtain ⟨ad475, e475, hx475_0⟩ := Kd.at_int (Kd.R_reads' HO_6.out).2.2 x9_2 p475 q475
                      cases e475
                      replace p475 := eq_true p475
                      replace q475 := eq_true q475
                      go_wp2_with (first | (go_at_call 54; (with_reducible refine (spec_l3On.calls _ _ l0 (rd t469 x9_2) t474 false _ ?side1 ?side2 A15.out).mono ?_); (case side1 => repeat (first | exact (Kd.C_below HR0.out HB.out) | (with_reducible refine Kd.C_alloc ?_ _) | (with_reducible refine Kd.C_drewN ?_ _) | (with_reducible refine Kd.C_drew ?_))); (case side2 => exact HC0.out); rintro e w' ⟨rfl, ⟨nd, rfl⟩⟩; (try first | exact ⟨rfl, _, World.drewN_drewN _ _ _⟩ | exact ⟨rfl, _, Eq.trans (World.drewN_drewN _ _ _) (congrArg (World.drewN _) (Nat.add_assoc _ _ _))⟩)))
                      repeat (go_quiet (first | (go_at_call 54; (with_reducible refine (spec_l3On.calls _ _ l0 (rd t469 x9_2) t474 false _ ?side1 ?side2 A15.out).mono ?_); (case side1 => repeat (first | exact (Kd.C_below HR0.out HB.out) | (with_reducible refine Kd.C_alloc ?_ _) | (with_reducible refine Kd.C_drewN ?_ _) | (with_reducible refine Kd.C_drew ?_))); (case side2 => exact HC0.out); rintro e w' ⟨rfl, ⟨nd, rfl⟩⟩; (try first | exact ⟨rfl, _, World.drewN_drewN _ _ _⟩ | exact ⟨rfl, _, Eq.trans (World.drewN_drewN _ _ _) (congrArg (World.drewN _) (Nat.add_assoc _ _ _))⟩))); try go_wp2_with (first | (go_at_call 54; (with_reducible refine (spec_l3On.calls _ _ l0 (rd t469 x9_2) t474 false _ ?side1 ?side2 A15.out).mono ?_); (case side1 => repeat (first | exact (Kd.C_below HR0.out HB.out) | (with_reducible refine Kd.C_alloc ?_ _) | (with_reducible refine Kd.C_drewN ?_ _) | (with_reducible refine Kd.C_drew ?_))); (case side2 => exact HC0.out); rintro e w' ⟨rfl, ⟨nd, rfl⟩⟩; (try first | exact ⟨rfl, _, World.drewN_drewN _ _ _⟩ | exact ⟨rfl, _, Eq.trans (World.drewN_drewN _ _ _) (congrArg (World.drewN _) (Nat.add_assoc _ _ _))⟩))))
                      go_roundg k2
                      case measure => have := HJ2.out; have := HK2.out; omega
                      case rel => exact ⟨(x8_2), (wrap64 (x9_2 + 1)), (by first | rfl | (simp; done) | (simp [*]; done)), (by first | rfl | (simp; done) | (simp [*]; done)), H', ⟨by have := HJ2.out; have := HK2.out; omega⟩, ⟨by (with_reducible repeat (first | apply Kd.R_alloc | apply Kd.R_drewN | apply Kd.R_drew)); exact HO_6.out⟩, ⟨by repeat (first | (with_reducible first | exact HB.out | apply below_alloc | apply pw_below_drewN | apply below_drew1) | exact HB.out)⟩⟩
                  · rw [if_neg c14] at H
                    exact absurd H (by simp)
                · rw [if_neg c13] at H
                  have c13b0 : decide (x9_2 < (t469.length : Int)) = false := decide_eq_false c13
                  clear c13
                  simp only [Option.some.injEq, Prod.mk.injEq] at H
                  obtain ⟨rfl, rfl⟩ := H
                  obtain ⟨Ao19, co19, eo19⟩ := Kd.R_slice HO_6.out
                  subst eo19
                  go_wp2
                  repeat (go_quiet (fail); try go_wp2)
                  go_ret2
                  exact ⟨by first | rfl | (simp [errW_none, errW_some] <;> rfl) | (simp [*, errW_none, errW_some] <;> rfl), by repeat (first | (with_reducible first | exact HB.out | apply below_alloc | apply pw_below_drewN | apply below_drew1) | exact HB.out)⟩
          · rw [if_neg c10] at H
            exact absurd H (by simp)
        · rw [if_neg c9] at H
          exact absurd H (by simp)

end Go.Proofs.Ytckipgldmkboiaa.P

namespace Go.Proofs.Ytckipgldmkboiaa.P
open Go.RowKit Go.Proofs.YtckipgldmkboiaaW.PrintWords Go.Proofs.YtckipgldmkboiaaW.PrintLast Go.Proofs.YtckipgldmkboiaaW.PrintMore
attribute [local go_sem] max2_int min2_int max_two min_two max_three min_three max_four min_four   -- for this text's walks alone
set_option linter.unusedVariables false
set_option linter.unusedSimpArgs false

/-! ### laws_FnExactSpanOrder: function 8 -/
def laws_FnExactSpanOrder.j0 : Nat → List Int → List Int → List Int → List Int → Bool → Option (Bool)
  | 0, _, _, _, _, _ => none
  | k + 1, x0, x1, x7, x8, x42 => if x42 = true then (some false) else ((laws_toIntS.f k x0).bind fun t503 => ((laws_eqIntS.f k x7 t503).bind fun t506 => (if t506 = true then ((laws_toIntS.f k x1).bind fun t507 => ((laws_eqIntS.f k x8 t507).bind fun t510 => (if t510 = true then (some true) else (some false)))) else (some false))))
def laws_FnExactSpanOrder.f (k : Nat) (l0 : List Int) (l1 : List Int) : Option (Bool) := if (l0.length : Int) > 1048576 then (some true) else (if (l1.length : Int) > 1048576 then (some true) else ((laws_toIntS.f k l0).bind fun t487 => ((laws_toIntS.f k l1).bind fun t490 => ((spec_SpanOrder.f k t487 t490).bind fun bt493 => ((laws_toIntS.f k l0).bind fun t495 => ((laws_toIntS.f k l1).bind fun t498 => ((impl_SpanOrder.f k t495 t498).bind fun bt501 => (if bt501.1 = bt493.1 then (laws_FnExactSpanOrder.j0 k l0 l1 t495 t498 (bt501.2 != bt493.2)) else (laws_FnExactSpanOrder.j0 k l0 l1 t495 t498 true)))))))))
theorem laws_FnExactSpanOrder.mono_l : ∀ k, (∀ y0 y1 y2 y3 y4, LeO (laws_FnExactSpanOrder.j0 k y0 y1 y2 y3 y4) (laws_FnExactSpanOrder.j0 (k + 1) y0 y1 y2 y3 y4))
  | 0 => fun _ _ _ _ _ r h => by simp [laws_FnExactSpanOrder.j0] at h
  | k + 1 => by
    have ih0 := laws_FnExactSpanOrder.mono_l k
    · intro y0 y1 y2 y3 y4
      unfold laws_FnExactSpanOrder.j0
      repeat' first
      | (with_reducible exact ih0 _ _ _ _ _)
      | (with_reducible exact impl_SpanOrder.mono _ _ _)
      | (with_reducible exact laws_eqIntS.mono _ _ _)
      | (with_reducible exact laws_toIntS.mono _ _)
      | (with_reducible exact spec_SpanOrder.mono _ _ _)
      | (with_reducible exact LeO.refl _)
      | (with_reducible exact LeO.none _)
      | (with_reducible refine LeO.ite ?_ ?_)
      | (with_reducible refine LeO.bind ?_ (fun _ => ?_))
      | exact ih0 _ _ _ _ _
      | exact impl_SpanOrder.mono _ _ _
      | exact laws_eqIntS.mono _ _ _
      | exact laws_toIntS.mono _ _
      | exact spec_SpanOrder.mono _ _ _
      | exact LeO.none _
      | refine LeO.ite ?_ ?_
      | refine LeO.bind ?_ (fun _ => ?_)
theorem laws_FnExactSpanOrder.mono : ∀ a0 a1 k, LeO (laws_FnExactSpanOrder.f k a0 a1) (laws_FnExactSpanOrder.f (k + 1) a0 a1) := by
  intro a0 a1 k
  have ih0 := laws_FnExactSpanOrder.mono_l k
  unfold laws_FnExactSpanOrder.f
  repeat' first
      | (with_reducible exact ih0 _ _ _ _ _)
      | (with_reducible exact impl_SpanOrder.mono _ _ _)
      | (with_reducible exact laws_eqIntS.mono _ _ _)
      | (with_reducible exact laws_toIntS.mono _ _)
      | (with_reducible exact spec_SpanOrder.mono _ _ _)
      | (with_reducible exact LeO.refl _)
      | (with_reducible exact LeO.none _)
      | (with_reducible refine LeO.ite ?_ ?_)
      | (with_reducible refine LeO.bind ?_ (fun _ => ?_))
      | exact ih0 _ _ _ _ _
      | exact impl_SpanOrder.mono _ _ _
      | exact laws_eqIntS.mono _ _ _
      | exact laws_toIntS.mono _ _
      | exact spec_SpanOrder.mono _ _ _
      | exact LeO.none _
      | refine LeO.ite ?_ ?_
      | refine LeO.bind ?_ (fun _ => ?_)
set_option maxHeartbeats 8000000 in
set_option maxRecDepth 100000 in
theorem laws_FnExactSpanOrder.calls (k : Nat) (A0 : Option Addr) (c0 : Nat) (l0 : List Int) (A1 : Option Addr) (c1 : Nat) (l1 : List Int) (r : Bool) (w : World) (hr0 : Kd.C (Kd.int .i64) w A0 l0.length l0) (hc0 : l0.length ≤ c0) (hr1 : Kd.C (Kd.int .i64) w A1 l1.length l1) (hc1 : l1.length ≤ c1) (h : laws_FnExactSpanOrder.f k l0 l1 = some r) :
    Calls Try.prog 8 #[.slice A0 l0.length c0, .slice A1 l1.length c1] w fun e w' => e = .returned (.bool r) ∧ Below w.heap.size w w' := by
  have HR0 := Aside0.mk hr0
  have HC0 := Aside0.mk hc0
  clear hr0 hc0
  have HR1 := Aside0.mk hr1
  have HC1 := Aside0.mk hc1
  clear hr1 hc1
  have HB := Aside0.mk (Below.refl w.heap.size w)
  have H : (if (l0.length : Int) > 1048576 then (some true) else (if (l1.length : Int) > 1048576 then (some true) else ((laws_toIntS.f k l0).bind fun t487 => ((laws_toIntS.f k l1).bind fun t490 => ((spec_SpanOrder.f k t487 t490).bind fun bt493 => ((laws_toIntS.f k l0).bind fun t495 => ((laws_toIntS.f k l1).bind fun t498 => ((impl_SpanOrder.f k t495 t498).bind fun bt501 => (if bt501.1 = bt493.1 then (laws_FnExactSpanOrder.j0 k l0 l1 t495 t498 (bt501.2 != bt493.2)) else (laws_FnExactSpanOrder.j0 k l0 l1 t495 t498 true)))))))))) = some r := h
  clear h
  by_cases c3 : (l0.length : Int) > 1048576
  · rw [if_pos c3] at H
    have c3b0 : decide (1048576 < (l0.length : Int)) = true := decide_eq_true c3
    have c3b1 : decide (1048576 < l0.length) = true := decide_eq_true (by omega)
    clear c3
    obtain rfl := Option.some.inj H
    go_enter Try.func8, Try.ntmps8
    go_wp2
    go_ret
    exact ⟨by first | rfl | (simp [errW_none, errW_some] <;> rfl) | (simp [*, errW_none, errW_some] <;> rfl), by repeat (first | (with_reducible first | exact HB.out | apply below_alloc | apply pw_below_drewN | apply below_drew1) | exact HB.out)⟩
  · rw [if_neg c3] at H
    have c3b0 : decide (1048576 < (l0.length : Int)) = false := decide_eq_false c3
    have c3b1 : decide (1048576 < l0.length) = false := decide_eq_false (by omega)
    clear c3
    by_cases c4 : (l1.length : Int) > 1048576
    · rw [if_pos c4] at H
      have c4b0 : decide (1048576 < (l1.length : Int)) = true := decide_eq_true c4
      have c4b1 : decide (1048576 < l1.length) = true := decide_eq_true (by omega)
      clear c4
      obtain rfl := Option.some.inj H
      go_enter Try.func8, Try.ntmps8
      go_wp2
      go_ret
      exact ⟨by first | rfl | (simp [errW_none, errW_some] <;> rfl) | (simp [*, errW_none, errW_some] <;> rfl), by repeat (first | (with_reducible first | exact HB.out | apply below_alloc | apply pw_below_drewN | apply below_drew1) | exact HB.out)⟩
    · rw [if_neg c4] at H
      have c4b0 : decide (1048576 < (l1.length : Int)) = false := decide_eq_false c4
      have c4b1 : decide (1048576 < l1.length) = false := decide_eq_false (by omega)
      clear c4
      replace H := Option.bind_eq_some_iff.mp H
      obtain ⟨t487, A50, H⟩ := H
      replace H : ((laws_toIntS.f k l1).bind fun t490 => ((spec_SpanOrder.f k t487 t490).bind fun bt493 => ((laws_toIntS.f k l0).bind fun t495 => ((laws_toIntS.f k l1).bind fun t498 => ((impl_SpanOrder.f k t495 t498).bind fun bt501 => (if bt501.1 = bt493.1 then (laws_FnExactSpanOrder.j0 k l0 l1 t495 t498 (bt501.2 != bt493.2)) else (laws_FnExactSpanOrder.j0 k l0 l1 t495 t498 true))))))) = some r := H
      have A5 := Aside0.mk A50
      clear A50
      replace H := Option.bind_eq_some_iff.mp H
      obtain ⟨t490, A60, H⟩ := H
      replace H : ((spec_SpanOrder.f k t487 t490).bind fun bt493 => ((laws_toIntS.f k l0).bind fun t495 => ((laws_toIntS.f k l1).bind fun t498 => ((impl_SpanOrder.f k t495 t498).bind fun bt501 => (if bt501.1 = bt493.1 then (laws_FnExactSpanOrder.j0 k l0 l1 t495 t498 (bt501.2 != bt493.2)) else (laws_FnExactSpanOrder.j0 k l0 l1 t495 t498 true)))))) = some r := H
      have A6 := Aside0.mk A60
      clear A60
      replace H := Option.bind_eq_some_iff.mp H
      obtain ⟨⟨t493, t494⟩, A70, H⟩ := H
      replace H : ((laws_toIntS.f k l0).bind fun t495 => ((laws_toIntS.f k l1).bind fun t498 => ((impl_SpanOrder.f k t495 t498).bind fun bt501 => (if bt501.1 = t493 then (laws_FnExactSpanOrder.j0 k l0 l1 t495 t498 (bt501.2 != t494)) else (laws_FnExactSpanOrder.j0 k l0 l1 t495 t498 true))))) = some r := H
      have A7 := Aside0.mk A70
      clear A70
      replace H := Option.bind_eq_some_iff.mp H
      obtain ⟨t495, A80, H⟩ := H
      replace H : ((laws_toIntS.f k l1).bind fun t498 => ((impl_SpanOrder.f k t495 t498).bind fun bt501 => (if bt501.1 = t493 then (laws_FnExactSpanOrder.j0 k l0 l1 t495 t498 (bt501.2 != t494)) else (laws_FnExactSpanOrder.j0 k l0 l1 t495 t498 true)))) = some r := H
      have A8 := Aside0.mk A80
      clear A80
      replace H := Option.bind_eq_some_iff.mp H
      obtain ⟨t498, A90, H⟩ := H
      replace H : ((impl_SpanOrder.f k t495 t498).bind fun bt501 => (if bt501.1 = t493 then (laws_FnExactSpanOrder.j0 k l0 l1 t495 t498 (bt501.2 != t494)) else (laws_FnExactSpanOrder.j0 k l0 l1 t495 t498 true))) = some r := H
      have A9 := Aside0.mk A90
      clear A90
      replace H := Option.bind_eq_some_iff.mp H
      obtain ⟨⟨t501, t502⟩, A100, H⟩ := H
      replace H : (if t501 = t493 then (laws_FnExactSpanOrder.j0 k l0 l1 t495 t498 (t502 != t494)) else (laws_FnExactSpanOrder.j0 k l0 l1 t495 t498 true)) = some r := H
      have A10 := Aside0.mk A100
      clear A100
      have HC11 := Aside0.mk H
      clear H
      go_enter Try.func8, Try.ntmps8
      go_upto_region 9 with (first | ((with_reducible refine gate_callee (f := 16) rfl ?_); refine goesL_ (some 19) rfl rfl Try.func16 (by kernel_rfl) rfl #[.slice A0 l0.length c0] rfl (by (try simp only [List.map_toArray, List.map_cons, List.map_nil]); first | done | rfl | (simp only [List.length_drop, List.length_take]; rfl)) ?_; (with_reducible refine (laws_toIntS.calls k _ _ l0 t487 _ ?side1 ?side2 A5.out).mono ?_); (case side1 => repeat (first | exact HR0.out | (with_reducible refine Kd.C_alloc ?_ _) | (with_reducible refine Kd.C_drewN ?_ _) | (with_reducible refine Kd.C_drew ?_))); (case side2 => exact HC0.out); rintro e w12 ⟨v488, rfl, ho0, hb⟩; refine ⟨_, rfl, ?_⟩; have n0_ := Aside0.mk (Kd.R_lower ho0 (below_size (by repeat (first | (with_reducible first | exact HB.out | apply below_alloc | apply pw_below_drewN | apply below_drew1) | exact HB.out)))); have n1_ := Aside0.mk (below_step (by repeat (first | (with_reducible first | exact HB.out | apply below_alloc | apply pw_below_drewN | apply below_drew1) | exact HB.out)) hb); clear HB; have HO489 := n0_; have HB := n1_; clear n0_ n1_; (try clear hb); (try clear hb2); (try clear hk); (try clear hi); (try clear ho0)) | ((with_reducible refine gate_callee (f := 16) rfl ?_); refine goesL_ (some 21) rfl rfl Try.func16 (by kernel_rfl) rfl #[.slice A1 l1.length c1] rfl (by (try simp only [List.map_toArray, List.map_cons, List.map_nil]); first | done | rfl | (simp only [List.length_drop, List.length_take]; rfl)) ?_; (with_reducible refine (laws_toIntS.calls k _ _ l1 t490 _ ?side1 ?side2 A6.out).mono ?_); (case side1 => repeat (first | exact (Kd.C_below HR1.out HB.out) | (with_reducible refine Kd.C_alloc ?_ _) | (with_reducible refine Kd.C_drewN ?_ _) | (with_reducible refine Kd.C_drew ?_))); (case side2 => exact HC1.out); rintro e w13 ⟨v491, rfl, ho0, hb⟩; refine ⟨_, rfl, ?_⟩; have n0_ := Aside0.mk (Kd.R_elder' (by (with_reducible repeat (first | apply Kd.R_alloc | apply Kd.R_drewN | apply Kd.R_drew)); exact HO489.out) (Kd.R_base ho0) hb); have n1_ := Aside0.mk (Kd.R_lower (Kd.R_new' ho0 (Kd.R_lt (by (with_reducible repeat (first | apply Kd.R_alloc | apply Kd.R_drewN | apply Kd.R_drew)); exact HO489.out))) (below_size (by repeat (first | (with_reducible first | exact HB.out | apply below_alloc | apply pw_below_drewN | apply below_drew1) | exact HB.out)))); have n2_ := Aside0.mk (below_step (by repeat (first | (with_reducible first | exact HB.out | apply below_alloc | apply pw_below_drewN | apply below_drew1) | exact HB.out)) hb); clear HO489; clear HB; have HO489 := n0_; have HO492 := n1_; have HB := n2_; clear n0_ n1_ n2_; (try clear hb); (try clear hb2); (try clear hk); (try clear hi); (try clear ho0); obtain ⟨Ao14, co14, eo14⟩ := Kd.R_slice HO489.out; subst eo14; obtain ⟨Ao15, co15, eo15⟩ := Kd.R_slice HO492.out; subst eo15) | ((with_reducible refine gate_callee (f := 29) rfl ?_); refine goesL_ (some 22) rfl rfl Try.func29 (by kernel_rfl) rfl #[.slice Ao14 t487.length co14, .slice Ao15 t490.length co15] rfl (by (try simp only [List.map_toArray, List.map_cons, List.map_nil]); first | done | rfl | (simp only [List.length_drop, List.length_take]; rfl)) ?_; (with_reducible refine (spec_SpanOrder.calls k _ _ t487 _ _ t490 t493 t494 _ ?side1 ?side2 ?side3 ?side4 A7.out).mono ?_); (case side1 => repeat (first | exact (Kd.R_reads' HO489.out).2.2 | (with_reducible refine Kd.C_alloc ?_ _) | (with_reducible refine Kd.C_drewN ?_ _) | (with_reducible refine Kd.C_drew ?_))); (case side2 => exact (Kd.R_reads' HO489.out).2.1); (case side3 => repeat (first | exact (Kd.R_reads' HO492.out).2.2 | (with_reducible refine Kd.C_alloc ?_ _) | (with_reducible refine Kd.C_drewN ?_ _) | (with_reducible refine Kd.C_drew ?_))); (case side4 => exact (Kd.R_reads' HO492.out).2.1); rintro e w16 ⟨rfl, hb⟩; refine ⟨_, rfl, ?_⟩; have n0_ := Aside0.mk (Kd.R_below (by (with_reducible repeat (first | apply Kd.R_alloc | apply Kd.R_drewN | apply Kd.R_drew)); exact HO489.out) hb); have n1_ := Aside0.mk (Kd.R_below (by (with_reducible repeat (first | apply Kd.R_alloc | apply Kd.R_drewN | apply Kd.R_drew)); exact HO492.out) hb); have n2_ := Aside0.mk (below_step (by repeat (first | (with_reducible first | exact HB.out | apply below_alloc | apply pw_below_drewN | apply below_drew1) | exact HB.out)) hb); clear HO489; clear HO492; clear HB; have HO489 := n0_; have HO492 := n1_; have HB := n2_; clear n0_ n1_ n2_; (try clear hb); (try clear hb2); (try clear hk); (try clear hi)) | ((with_reducible refine gate_callee (f := 16) rfl ?_); refine goesL_ (some 26) rfl rfl Try.func16 (by kernel_rfl) rfl #[.slice A0 l0.length c0] rfl (by (try simp only [List.map_toArray, List.map_cons, List.map_nil]); first | done | rfl | (simp only [List.length_drop, List.length_take]; rfl)) ?_; (with_reducible refine (laws_toIntS.calls k _ _ l0 t495 _ ?side1 ?side2 A8.out).mono ?_); (case side1 => repeat (first | exact (Kd.C_below HR0.out HB.out) | (with_reducible refine Kd.C_alloc ?_ _) | (with_reducible refine Kd.C_drewN ?_ _) | (with_reducible refine Kd.C_drew ?_))); (case side2 => exact HC0.out); rintro e w17 ⟨v496, rfl, ho0, hb⟩; refine ⟨_, rfl, ?_⟩; have n0_ := Aside0.mk (Kd.R_elder' (by (with_reducible repeat (first | apply Kd.R_alloc | apply Kd.R_drewN | apply Kd.R_drew)); exact HO489.out) (Kd.R_base ho0) hb); have n1_ := Aside0.mk (Kd.R_elder' (by (with_reducible repeat (first | apply Kd.R_alloc | apply Kd.R_drewN | apply Kd.R_drew)); exact HO492.out) (Kd.R_base ho0) hb); have n2_ := Aside0.mk (Kd.R_lower (Kd.R_new' (Kd.R_new' ho0 (Kd.R_lt (by (with_reducible repeat (first | apply Kd.R_alloc | apply Kd.R_drewN | apply Kd.R_drew)); exact HO489.out))) (Kd.R_lt (by (with_reducible repeat (first | apply Kd.R_alloc | apply Kd.R_drewN | apply Kd.R_drew)); exact HO492.out))) (below_size (by repeat (first | (with_reducible first | exact HB.out | apply below_alloc | apply pw_below_drewN | apply below_drew1) | exact HB.out)))); have n3_ := Aside0.mk (below_step (by repeat (first | (with_reducible first | exact HB.out | apply below_alloc | apply pw_below_drewN | apply below_drew1) | exact HB.out)) hb); clear HO489; clear HO492; clear HB; have HO489 := n0_; have HO492 := n1_; have HO497 := n2_; have HB := n3_; clear n0_ n1_ n2_ n3_; (try clear hb); (try clear hb2); (try clear hk); (try clear hi); (try clear ho0)) | ((with_reducible refine gate_callee (f := 16) rfl ?_); refine goesL_ (some 28) rfl rfl Try.func16 (by kernel_rfl) rfl #[.slice A1 l1.length c1] rfl (by (try simp only [List.map_toArray, List.map_cons, List.map_nil]); first | done | rfl | (simp only [List.length_drop, List.length_take]; rfl)) ?_; (with_reducible refine (laws_toIntS.calls k _ _ l1 t498 _ ?side1 ?side2 A9.out).mono ?_); (case side1 => repeat (first | exact (Kd.C_below HR1.out HB.out) | (with_reducible refine Kd.C_alloc ?_ _) | (with_reducible refine Kd.C_drewN ?_ _) | (with_reducible refine Kd.C_drew ?_))); (case side2 => exact HC1.out); rintro e w18 ⟨v499, rfl, ho0, hb⟩; refine ⟨_, rfl, ?_⟩; have n0_ := Aside0.mk (Kd.R_elder' (by (with_reducible repeat (first | apply Kd.R_alloc | apply Kd.R_drewN | apply Kd.R_drew)); exact HO489.out) (Kd.R_base ho0) hb); have n1_ := Aside0.mk (Kd.R_elder' (by (with_reducible repeat (first | apply Kd.R_alloc | apply Kd.R_drewN | apply Kd.R_drew)); exact HO492.out) (Kd.R_base ho0) hb); have n2_ := Aside0.mk (Kd.R_elder' (by (with_reducible repeat (first | apply Kd.R_alloc | apply Kd.R_drewN | apply Kd.R_drew)); exact HO497.out) (Kd.R_base ho0) hb); have n3_ := Aside0.mk (Kd.R_lower (Kd.R_new' (Kd.R_new' (Kd.R_new' ho0 (Kd.R_lt (by (with_reducible repeat (first | apply Kd.R_alloc | apply Kd.R_drewN | apply Kd.R_drew)); exact HO489.out))) (Kd.R_lt (by (with_reducible repeat (first | apply Kd.R_alloc | apply Kd.R_drewN | apply Kd.R_drew)); exact HO492.out))) (Kd.R_lt (by (with_reducible repeat (first | apply Kd.R_alloc | apply Kd.R_drewN | apply Kd.R_drew)); exact HO497.out))) (below_size (by repeat (first | (with_reducible first | exact HB.out | apply below_alloc | apply pw_below_drewN | apply below_drew1) | exact HB.out)))); have n4_ := Aside0.mk (below_step (by repeat (first | (with_reducible first | exact HB.out | apply below_alloc | apply pw_below_drewN | apply below_drew1) | exact HB.out)) hb); clear HO489; clear HO492; clear HO497; clear HB; have HO489 := n0_; have HO492 := n1_; have HO497 := n2_; have HO500 := n3_; have HB := n4_; clear n0_ n1_ n2_ n3_ n4_; (try clear hb); (try clear hb2); (try clear hk); (try clear hi); (try clear ho0); obtain ⟨Ao19, co19, eo19⟩ := Kd.R_slice HO497.out; subst eo19; obtain ⟨Ao20, co20, eo20⟩ := Kd.R_slice HO500.out; subst eo20) | ((with_reducible refine gate_callee (f := 30) rfl ?_); refine goesL_ (some 32) rfl rfl Try.func30 (by kernel_rfl) rfl #[.slice Ao19 t495.length co19, .slice Ao20 t498.length co20] rfl (by (try simp only [List.map_toArray, List.map_cons, List.map_nil]); first | done | rfl | (simp only [List.length_drop, List.length_take]; rfl)) ?_; (with_reducible refine (impl_SpanOrder.calls k _ _ t495 _ _ t498 t501 t502 _ ?side1 ?side2 ?side3 ?side4 A10.out).mono ?_); (case side1 => repeat (first | exact (Kd.R_reads' HO497.out).2.2 | (with_reducible refine Kd.C_alloc ?_ _) | (with_reducible refine Kd.C_drewN ?_ _) | (with_reducible refine Kd.C_drew ?_))); (case side2 => exact (Kd.R_reads' HO497.out).2.1); (case side3 => repeat (first | exact (Kd.R_reads' HO500.out).2.2 | (with_reducible refine Kd.C_alloc ?_ _) | (with_reducible refine Kd.C_drewN ?_ _) | (with_reducible refine Kd.C_drew ?_))); (case side4 => exact (Kd.R_reads' HO500.out).2.1); rintro e w21 ⟨rfl, hb⟩; refine ⟨_, rfl, ?_⟩; have n0_ := Aside0.mk (Kd.R_below (by (with_reducible repeat (first | apply Kd.R_alloc | apply Kd.R_drewN | apply Kd.R_drew)); exact HO489.out) hb); have n1_ := Aside0.mk (Kd.R_below (by (with_reducible repeat (first | apply Kd.R_alloc | apply Kd.R_drewN | apply Kd.R_drew)); exact HO492.out) hb); have n2_ := Aside0.mk (Kd.R_below (by (with_reducible repeat (first | apply Kd.R_alloc | apply Kd.R_drewN | apply Kd.R_drew)); exact HO497.out) hb); have n3_ := Aside0.mk (Kd.R_below (by (with_reducible repeat (first | apply Kd.R_alloc | apply Kd.R_drewN | apply Kd.R_drew)); exact HO500.out) hb); have n4_ := Aside0.mk (below_step (by repeat (first | (with_reducible first | exact HB.out | apply below_alloc | apply pw_below_drewN | apply below_drew1) | exact HB.out)) hb); clear HO489; clear HO492; clear HO497; clear HO500; clear HB; have HO489 := n0_; have HO492 := n1_; have HO497 := n2_; have HO500 := n3_; have HB := n4_; clear n0_ n1_ n2_ n3_ n4_; (try clear hb); (try clear hb2); (try clear hk); (try clear hi)))
      (try simp only [Act.put, List.setIfInBounds_toArray, List.set_cons_zero, List.set_cons_succ])
      go_cut [42] (fun v42 wc => ∃ (kq : Nat) (x42_10 : Bool), v42 = .bool x42_10 ∧ Aside0 (laws_FnExactSpanOrder.j0 kq l0 l1 t495 t498 x42_10 = some r) ∧ Aside0 (kq ≤ k) ∧ Aside0 (Kd.R (Kd.int .i64) 3 wc w.heap.size (fun k_ => some k_ ≠ ((.slice Ao20 t498.length co20) : Value).ownBlock) (.slice Ao19 t495.length co19) t495) ∧ Aside0 (Kd.R (Kd.int .i64) 3 wc w.heap.size (fun k_ => some k_ ≠ ((.slice Ao19 t495.length co19) : Value).ownBlock) (.slice Ao20 t498.length co20) t498) ∧ Aside0 (Below w.heap.size w wc))
      case first =>
        have H := HC11.out
        clear HC11
        by_cases c22 : t501 = t493
        · rw [if_pos c22] at H
          have c22b0 : (t501 == t493) = true := beq_iff_eq.mpr c22
          have c22b1 : (t501 != t493) = false := bne_eq_false_iff_eq.mpr c22
          clear c22
          (first | rw [c22b0] | (simp only [i64_w, i32_w]; rw [c22b0]) | skip)
          have H' := Aside0.mk H
          clear H
          go_wp2
          go_meet
          case rel => exact ⟨_, ((t502 != t494)), (by first | rfl | (simp; done) | (simp [*]; done)), H', ⟨by first | omega | exact Nat.le_refl _⟩, ⟨by (with_reducible repeat (first | apply Kd.R_alloc | apply Kd.R_drewN | apply Kd.R_drew)); exact Kd.R_mono HO497.out (fun _ hk => hk.2)⟩, ⟨by (with_reducible repeat (first | apply Kd.R_alloc | apply Kd.R_drewN | apply Kd.R_drew)); exact Kd.R_mono HO500.out (fun _ hk => hk.2)⟩, ⟨by repeat (first | (with_reducible first | exact HB.out | apply below_alloc | apply pw_below_drewN | apply below_drew1) | exact HB.out)⟩⟩
        · rw [if_neg c22] at H
          have c22b0 : (t501 == t493) = false := beq_eq_false_iff_ne.mpr c22
          have c22b1 : (t501 != t493) = true := bne_iff_ne.mpr c22
          (first | rw [c22b0] | (simp only [i64_w, i32_w]; rw [c22b0]) | skip)
          have H' := Aside0.mk H
          clear H
          go_wp2
          go_meet
          case rel => exact ⟨_, (true), (by first | rfl | (simp; done) | (simp [*]; done)), H', ⟨by first | omega | exact Nat.le_refl _⟩, ⟨by (with_reducible repeat (first | apply Kd.R_alloc | apply Kd.R_drewN | apply Kd.R_drew)); exact Kd.R_mono HO497.out (fun _ hk => hk.2)⟩, ⟨by (with_reducible repeat (first | apply Kd.R_alloc | apply Kd.R_drewN | apply Kd.R_drew)); exact Kd.R_mono HO500.out (fun _ hk => hk.2)⟩, ⟨by repeat (first | (with_reducible first | exact HB.out | apply below_alloc | apply pw_below_drewN | apply below_drew1) | exact HB.out)⟩⟩
      case rest =>
        clear HC11
        try clear c1
        try clear c2
        try clear p2
        try clear c3
        try clear c3b0
        try clear c3b1
        try clear c4
        try clear c4b0
        try clear c4b1
        try clear c8
        try clear c16
        try clear c22
        try clear c22b0
        try clear c22b1
        obtain ⟨kq, x42_10, rfl, HA, HJ10, HO_7, HO_8, HB⟩ := hcut
        cases kq with
        | zero => exact absurd HA.out (by simp [laws_FnExactSpanOrder.j0])
        | succ kj10 =>
          have H := HA.out
          clear HA
          simp only [laws_FnExactSpanOrder.j0] at H
          by_cases c23 : x42_10 = true
          · subst c23
            have H1 : (some false) = some r := by rw [if_pos rfl] at H; exact H
            clear H
            have H := H1
            clear H1
            obtain rfl := Option.some.inj H
            go_wp2
            go_ret
            exact ⟨by first | rfl | (simp [errW_none, errW_some] <;> rfl) | (simp [*, errW_none, errW_some] <;> rfl), by repeat (first | (with_reducible first | exact HB.out | apply below_alloc | apply pw_below_drewN | apply below_drew1) | exact HB.out)⟩
          · replace c23 := Bool.eq_false_iff.mpr c23
            subst c23
            have H1 : ((laws_toIntS.f kj10 l0).bind fun t503 => ((laws_eqIntS.f kj10 t495 t503).bind fun t506 => (if t506 = true then ((laws_toIntS.f kj10 l1).bind fun t507 => ((laws_eqIntS.f kj10 t498 t507).bind fun t510 => (if t510 = true then (some true) else (some false)))) else (some false)))) = some r := by rw [if_neg (show ¬ (false = true) by decide)] at H; exact H
            clear H
            have H := H1
            clear H1
            replace H := Option.bind_eq_some_iff.mp H
            obtain ⟨t503, A240, H⟩ := H
            replace H : ((laws_eqIntS.f kj10 t495 t503).bind fun t506 => (if t506 = true then ((laws_toIntS.f kj10 l1).bind fun t507 => ((laws_eqIntS.f kj10 t498 t507).bind fun t510 => (if t510 = true then (some true) else (some false)))) else (some false))) = some r := H
            have A24 := Aside0.mk A240
            clear A240
            replace H := Option.bind_eq_some_iff.mp H
            obtain ⟨t506, A250, H⟩ := H
            replace H : (if t506 = true then ((laws_toIntS.f kj10 l1).bind fun t507 => ((laws_eqIntS.f kj10 t498 t507).bind fun t510 => (if t510 = true then (some true) else (some false)))) else (some false)) = some r := H
            have A25 := Aside0.mk A250
            clear A250
            by_cases c26 : t506 = true
            · subst c26
              have H1 : ((laws_toIntS.f kj10 l1).bind fun t507 => ((laws_eqIntS.f kj10 t498 t507).bind fun t510 => (if t510 = true then (some true) else (some false)))) = some r := by rw [if_pos rfl] at H; exact H
              clear H
              have H := H1
              clear H1
              replace H := Option.bind_eq_some_iff.mp H
              obtain ⟨t507, A270, H⟩ := H
              replace H : ((laws_eqIntS.f kj10 t498 t507).bind fun t510 => (if t510 = true then (some true) else (some false))) = some r := H
              have A27 := Aside0.mk A270
              clear A270
              replace H := Option.bind_eq_some_iff.mp H
              obtain ⟨t510, A280, H⟩ := H
              replace H : (if t510 = true then (some true) else (some false)) = some r := H
              have A28 := Aside0.mk A280
              clear A280
              by_cases c29 : t510 = true
              · subst c29
                have H1 : (some true) = some r := by rw [if_pos rfl] at H; exact H
                clear H
                have H := H1
                clear H1
                obtain rfl := Option.some.inj H
                go_wp2_with (first | ((with_reducible refine gate_callee (f := 16) rfl ?_); refine goesL_ (some 45) rfl rfl Try.func16 (by kernel_rfl) rfl #[.slice A0 l0.length c0] rfl (by (try simp only [List.map_toArray, List.map_cons, List.map_nil]); first | done | rfl | (simp only [List.length_drop, List.length_take]; rfl)) ?_; (with_reducible refine (laws_toIntS.calls kj10 _ _ l0 t503 _ ?side1 ?side2 A24.out).mono ?_); (case side1 => repeat (first | exact (Kd.C_below HR0.out HB.out) | (with_reducible refine Kd.C_alloc ?_ _) | (with_reducible refine Kd.C_drewN ?_ _) | (with_reducible refine Kd.C_drew ?_))); (case side2 => exact HC0.out); rintro e w30 ⟨v504, rfl, ho0, hb⟩; refine ⟨_, rfl, ?_⟩; have n0_ := Aside0.mk (Kd.R_elder' (by (with_reducible repeat (first | apply Kd.R_alloc | apply Kd.R_drewN | apply Kd.R_drew)); exact HO_7.out) (Kd.R_base ho0) hb); have n1_ := Aside0.mk (Kd.R_elder' (by (with_reducible repeat (first | apply Kd.R_alloc | apply Kd.R_drewN | apply Kd.R_drew)); exact HO_8.out) (Kd.R_base ho0) hb); have n2_ := Aside0.mk (Kd.R_lower (Kd.R_new' (Kd.R_new' ho0 (Kd.R_lt (by (with_reducible repeat (first | apply Kd.R_alloc | apply Kd.R_drewN | apply Kd.R_drew)); exact HO_7.out))) (Kd.R_lt (by (with_reducible repeat (first | apply Kd.R_alloc | apply Kd.R_drewN | apply Kd.R_drew)); exact HO_8.out))) (below_size (by repeat (first | (with_reducible first | exact HB.out | apply below_alloc | apply pw_below_drewN | apply below_drew1) | exact HB.out)))); have n3_ := Aside0.mk (below_step (by repeat (first | (with_reducible first | exact HB.out | apply below_alloc | apply pw_below_drewN | apply below_drew1) | exact HB.out)) hb); clear HO_7; clear HO_8; clear HB; have HO_7 := n0_; have HO_8 := n1_; have HO505 := n2_; have HB := n3_; clear n0_ n1_ n2_ n3_; (try clear hb); (try clear hb2); (try clear hk); (try clear hi); (try clear ho0); obtain ⟨Ao31, co31, eo31⟩ := Kd.R_slice HO505.out; subst eo31) | ((with_reducible refine gate_callee (f := 18) rfl ?_); refine goesL_ (some 46) rfl rfl Try.func18 (by kernel_rfl) rfl #[.slice Ao19 t495.length co19, .slice Ao31 t503.length co31] rfl (by (try simp only [List.map_toArray, List.map_cons, List.map_nil]); first | done | rfl | (simp only [List.length_drop, List.length_take]; rfl)) ?_; (with_reducible refine (laws_eqIntS.calls kj10 _ _ t495 _ _ t503 true _ ?side1 ?side2 ?side3 ?side4 A25.out).mono ?_); (case side1 => repeat (first | exact (Kd.R_reads' HO_7.out).2.2 | (with_reducible refine Kd.C_alloc ?_ _) | (with_reducible refine Kd.C_drewN ?_ _) | (with_reducible refine Kd.C_drew ?_))); (case side2 => exact (Kd.R_reads' HO_7.out).2.1); (case side3 => repeat (first | exact (Kd.R_reads' HO505.out).2.2 | (with_reducible refine Kd.C_alloc ?_ _) | (with_reducible refine Kd.C_drewN ?_ _) | (with_reducible refine Kd.C_drew ?_))); (case side4 => exact (Kd.R_reads' HO505.out).2.1); rintro e w' ⟨rfl, ⟨nd, rfl⟩⟩; refine ⟨_, rfl, ?_⟩) | ((with_reducible refine gate_callee (f := 16) rfl ?_); refine goesL_ (some 50) rfl rfl Try.func16 (by kernel_rfl) rfl #[.slice A1 l1.length c1] rfl (by (try simp only [List.map_toArray, List.map_cons, List.map_nil]); first | done | rfl | (simp only [List.length_drop, List.length_take]; rfl)) ?_; (with_reducible refine (laws_toIntS.calls kj10 _ _ l1 t507 _ ?side1 ?side2 A27.out).mono ?_); (case side1 => repeat (first | exact (Kd.C_below HR1.out (by repeat (first | (with_reducible first | exact HB.out | apply below_alloc | apply pw_below_drewN | apply below_drew1) | exact HB.out))) | (with_reducible refine Kd.C_alloc ?_ _) | (with_reducible refine Kd.C_drewN ?_ _) | (with_reducible refine Kd.C_drew ?_))); (case side2 => exact HC1.out); rintro e w32 ⟨v508, rfl, ho0, hb⟩; refine ⟨_, rfl, ?_⟩; have n0_ := Aside0.mk (Kd.R_elder' (by (with_reducible repeat (first | apply Kd.R_alloc | apply Kd.R_drewN | apply Kd.R_drew)); exact HO_7.out) (Kd.R_base ho0) hb); have n1_ := Aside0.mk (Kd.R_elder' (by (with_reducible repeat (first | apply Kd.R_alloc | apply Kd.R_drewN | apply Kd.R_drew)); exact HO_8.out) (Kd.R_base ho0) hb); have n2_ := Aside0.mk (Kd.R_elder' (by (with_reducible repeat (first | apply Kd.R_alloc | apply Kd.R_drewN | apply Kd.R_drew)); exact HO505.out) (Kd.R_base ho0) hb); have n3_ := Aside0.mk (Kd.R_lower (Kd.R_new' (Kd.R_new' (Kd.R_new' ho0 (Kd.R_lt (by (with_reducible repeat (first | apply Kd.R_alloc | apply Kd.R_drewN | apply Kd.R_drew)); exact HO_7.out))) (Kd.R_lt (by (with_reducible repeat (first | apply Kd.R_alloc | apply Kd.R_drewN | apply Kd.R_drew)); exact HO_8.out))) (Kd.R_lt (by (with_reducible repeat (first | apply Kd.R_alloc | apply Kd.R_drewN | apply Kd.R_drew)); exact HO505.out))) (below_size (by repeat (first | (with_reducible first | exact HB.out | apply below_alloc | apply pw_below_drewN | apply below_drew1) | exact HB.out)))); have n4_ := Aside0.mk (below_step (by repeat (first | (with_reducible first | exact HB.out | apply below_alloc | apply pw_below_drewN | apply below_drew1) | exact HB.out)) hb); clear HO_7; clear HO_8; clear HO505; clear HB; have HO_7 := n0_; have HO_8 := n1_; have HO505 := n2_; have HO509 := n3_; have HB := n4_; clear n0_ n1_ n2_ n3_ n4_; (try clear hb); (try clear hb2); (try clear hk); (try clear hi); (try clear ho0); obtain ⟨Ao33, co33, eo33⟩ := Kd.R_slice HO509.out; subst eo33) | ((with_reducible refine gate_callee (f := 18) rfl ?_); refine goesL_ (some 51) rfl rfl Try.func18 (by kernel_rfl) rfl #[.slice Ao20 t498.length co20, .slice Ao33 t507.length co33] rfl (by (try simp only [List.map_toArray, List.map_cons, List.map_nil]); first | done | rfl | (simp only [List.length_drop, List.length_take]; rfl)) ?_; (with_reducible refine (laws_eqIntS.calls kj10 _ _ t498 _ _ t507 true _ ?side1 ?side2 ?side3 ?side4 A28.out).mono ?_); (case side1 => repeat (first | exact (Kd.R_reads' HO_8.out).2.2 | (with_reducible refine Kd.C_alloc ?_ _) | (with_reducible refine Kd.C_drewN ?_ _) | (with_reducible refine Kd.C_drew ?_))); (case side2 => exact (Kd.R_reads' HO_8.out).2.1); (case side3 => repeat (first | exact (Kd.R_reads' HO509.out).2.2 | (with_reducible refine Kd.C_alloc ?_ _) | (with_reducible refine Kd.C_drewN ?_ _) | (with_reducible refine Kd.C_drew ?_))); (case side4 => exact (Kd.R_reads' HO509.out).2.1); rintro e w' ⟨rfl, ⟨nd, rfl⟩⟩; refine ⟨_, rfl, ?_⟩))
                go_ret
                exact ⟨by first | rfl | (simp [errW_none, errW_some] <;> rfl) | (simp [*, errW_none, errW_some] <;> rfl), by repeat (first | (with_reducible first | exact HB.out | apply below_alloc | apply pw_below_drewN | apply below_drew1) | exact HB.out)⟩
              · replace c29 := Bool.eq_false_iff.mpr c29
                subst c29
                have H1 : (some false) = some r := by rw [if_neg (show ¬ (false = true) by decide)] at H; exact H
                clear H
                have H := H1
                clear H1
                obtain rfl := Option.some.inj H
                go_wp2_with (first | ((with_reducible refine gate_callee (f := 16) rfl ?_); refine goesL_ (some 45) rfl rfl Try.func16 (by kernel_rfl) rfl #[.slice A0 l0.length c0] rfl (by (try simp only [List.map_toArray, List.map_cons, List.map_nil]); first | done | rfl | (simp only [List.length_drop, List.length_take]; rfl)) ?_; (with_reducible refine (laws_toIntS.calls kj10 _ _ l0 t503 _ ?side1 ?side2 A24.out).mono ?_); (case side1 => repeat (first | exact (Kd.C_below HR0.out HB.out) | (with_reducible refine Kd.C_alloc ?_ _) | (with_reducible refine Kd.C_drewN ?_ _) | (with_reducible refine Kd.C_drew ?_))); (case side2 => exact HC0.out); rintro e w34 ⟨v504, rfl, ho0, hb⟩; refine ⟨_, rfl, ?_⟩; have n0_ := Aside0.mk (Kd.R_elder' (by (with_reducible repeat (first | apply Kd.R_alloc | apply Kd.R_drewN | apply Kd.R_drew)); exact HO_7.out) (Kd.R_base ho0) hb); have n1_ := Aside0.mk (Kd.R_elder' (by (with_reducible repeat (first | apply Kd.R_alloc | apply Kd.R_drewN | apply Kd.R_drew)); exact HO_8.out) (Kd.R_base ho0) hb); have n2_ := Aside0.mk (Kd.R_lower (Kd.R_new' (Kd.R_new' ho0 (Kd.R_lt (by (with_reducible repeat (first | apply Kd.R_alloc | apply Kd.R_drewN | apply Kd.R_drew)); exact HO_7.out))) (Kd.R_lt (by (with_reducible repeat (first | apply Kd.R_alloc | apply Kd.R_drewN | apply Kd.R_drew)); exact HO_8.out))) (below_size (by repeat (first | (with_reducible first | exact HB.out | apply below_alloc | apply pw_below_drewN | apply below_drew1) | exact HB.out)))); have n3_ := Aside0.mk (below_step (by repeat (first | (with_reducible first | exact HB.out | apply below_alloc | apply pw_below_drewN | apply below_drew1) | exact HB.out)) hb); clear HO_7; clear HO_8; clear HB; have HO_7 := n0_; have HO_8 := n1_; have HO505 := n2_; have HB := n3_; clear n0_ n1_ n2_ n3_; (try clear hb); (try clear hb2); (try clear hk); (try clear hi); (try clear ho0); obtain ⟨Ao35, co35, eo35⟩ := Kd.R_slice HO505.out; subst eo35) | ((with_reducible refine gate_callee (f := 18) rfl ?_); refine goesL_ (some 46) rfl rfl Try.func18 (by kernel_rfl) rfl #[.slice Ao19 t495.length co19, .slice Ao35 t503.length co35] rfl (by (try simp only [List.map_toArray, List.map_cons, List.map_nil]); first | done | rfl | (simp only [List.length_drop, List.length_take]; rfl)) ?_; (with_reducible refine (laws_eqIntS.calls kj10 _ _ t495 _ _ t503 true _ ?side1 ?side2 ?side3 ?side4 A25.out).mono ?_); (case side1 => repeat (first | exact (Kd.R_reads' HO_7.out).2.2 | (with_reducible refine Kd.C_alloc ?_ _) | (with_reducible refine Kd.C_drewN ?_ _) | (with_reducible refine Kd.C_drew ?_))); (case side2 => exact (Kd.R_reads' HO_7.out).2.1); (case side3 => repeat (first | exact (Kd.R_reads' HO505.out).2.2 | (with_reducible refine Kd.C_alloc ?_ _) | (with_reducible refine Kd.C_drewN ?_ _) | (with_reducible refine Kd.C_drew ?_))); (case side4 => exact (Kd.R_reads' HO505.out).2.1); rintro e w' ⟨rfl, ⟨nd, rfl⟩⟩; refine ⟨_, rfl, ?_⟩) | ((with_reducible refine gate_callee (f := 16) rfl ?_); refine goesL_ (some 50) rfl rfl Try.func16 (by kernel_rfl) rfl #[.slice A1 l1.length c1] rfl (by (try simp only [List.map_toArray, List.map_cons, List.map_nil]); first | done | rfl | (simp only [List.length_drop, List.length_take]; rfl)) ?_; (with_reducible refine (laws_toIntS.calls kj10 _ _ l1 t507 _ ?side1 ?side2 A27.out).mono ?_); (case side1 => repeat (first | exact (Kd.C_below HR1.out (by repeat (first | (with_reducible first | exact HB.out | apply below_alloc | apply pw_below_drewN | apply below_drew1) | exact HB.out))) | (with_reducible refine Kd.C_alloc ?_ _) | (with_reducible refine Kd.C_drewN ?_ _) | (with_reducible refine Kd.C_drew ?_))); (case side2 => exact HC1.out); rintro e w36 ⟨v508, rfl, ho0, hb⟩; refine ⟨_, rfl, ?_⟩; have n0_ := Aside0.mk (Kd.R_elder' (by (with_reducible repeat (first | apply Kd.R_alloc | apply Kd.R_drewN | apply Kd.R_drew)); exact HO_7.out) (Kd.R_base ho0) hb); have n1_ := Aside0.mk (Kd.R_elder' (by (with_reducible repeat (first | apply Kd.R_alloc | apply Kd.R_drewN | apply Kd.R_drew)); exact HO_8.out) (Kd.R_base ho0) hb); have n2_ := Aside0.mk (Kd.R_elder' (by (with_reducible repeat (first | apply Kd.R_alloc | apply Kd.R_drewN | apply Kd.R_drew)); exact HO505.out) (Kd.R_base ho0) hb); have n3_ := Aside0.mk (Kd.R_lower (Kd.R_new' (Kd.R_new' (Kd.R_new' ho0 (Kd.R_lt (by (with_reducible repeat (first | apply Kd.R_alloc | apply Kd.R_drewN | apply Kd.R_drew)); exact HO_7.out))) (Kd.R_lt (by (with_reducible repeat (first | apply Kd.R_alloc | apply Kd.R_drewN | apply Kd.R_drew)); exact HO_8.out))) (Kd.R_lt (by (with_reducible repeat (first | apply Kd.R_alloc | apply Kd.R_drewN | apply Kd.R_drew)); exact HO505.out))) (below_size (by repeat (first | (with_reducible first | exact HB.out | apply below_alloc | apply pw_below_drewN | apply below_drew1) | exact HB.out)))); have n4_ := Aside0.mk (below_step (by repeat (first | (with_reducible first | exact HB.out | apply below_alloc | apply pw_below_drewN | apply below_drew1) | exact HB.out)) hb); clear HO_7; clear HO_8; clear HO505; clear HB; have HO_7 := n0_; have HO_8 := n1_; have HO505 := n2_; have HO509 := n3_; have HB := n4_; clear n0_ n1_ n2_ n3_ n4_; (try clear hb); (try clear hb2); (try clear hk); (try clear hi); (try clear ho0); obtain ⟨Ao37, co37, eo37⟩ := Kd.R_slice HO509.out; subst eo37) | ((with_reducible refine gate_callee (f := 18) rfl ?_); refine goesL_ (some 51) rfl rfl Try.func18 (by kernel_rfl) rfl #[.slice Ao20 t498.length co20, .slice Ao37 t507.length co37] rfl (by (try simp only [List.map_toArray, List.map_cons, List.map_nil]); first | done | rfl | (simp only [List.length_drop, List.length_take]; rfl)) ?_; (with_reducible refine (laws_eqIntS.calls kj10 _ _ t498 _ _ t507 false _ ?side1 ?side2 ?side3 ?side4 A28.out).mono ?_); (case side1 => repeat (first | exact (Kd.R_reads' HO_8.out).2.2 | (with_reducible refine Kd.C_alloc ?_ _) | (with_reducible refine Kd.C_drewN ?_ _) | (with_reducible refine Kd.C_drew ?_))); (case side2 => exact (Kd.R_reads' HO_8.out).2.1); (case side3 => repeat (first | exact (Kd.R_reads' HO509.out).2.2 | (with_reducible refine Kd.C_alloc ?_ _) | (with_reducible refine Kd.C_drewN ?_ _) | (with_reducible refine Kd.C_drew ?_))); (case side4 => exact (Kd.R_reads' HO509.out).2.1); rintro e w' ⟨rfl, ⟨nd, rfl⟩⟩; refine ⟨_, rfl, ?_⟩))
                go_ret
                exact ⟨by first | rfl | (simp [errW_none, errW_some] <;> rfl) | (simp [*, errW_none, errW_some] <;> rfl), by repeat (first | (with_reducible first | exact HB.out | apply below_alloc | apply pw_below_drewN | apply below_drew1) | exact HB.out)⟩
            · replace c26 := Bool.eq_false_iff.mpr c26
              subst c26
              have H1 : (some false) = some r := by rw [if_neg (show ¬ (false = true) by decide)] at H; exact H
              clear H
              have H := H1
              clear H1
              obtain rfl := Option.some.inj H
              go_wp2_with (first | ((with_reducible refine gate_callee (f := 16) rfl ?_); refine goesL_ (some 45) rfl rfl Try.func16 (by kernel_rfl) rfl #[.slice A0 l0.length c0] rfl (by (try simp only [List.map_toArray, List.map_cons, List.map_nil]); first | done | rfl | (simp only [List.length_drop, List.length_take]; rfl)) ?_; (with_reducible refine (laws_toIntS.calls kj10 _ _ l0 t503 _ ?side1 ?side2 A24.out).mono ?_); (case side1 => repeat (first | exact (Kd.C_below HR0.out HB.out) | (with_reducible refine Kd.C_alloc ?_ _) | (with_reducible refine Kd.C_drewN ?_ _) | (with_reducible refine Kd.C_drew ?_))); (case side2 => exact HC0.out); rintro e w38 ⟨v504, rfl, ho0, hb⟩; refine ⟨_, rfl, ?_⟩; have n0_ := Aside0.mk (Kd.R_elder' (by (with_reducible repeat (first | apply Kd.R_alloc | apply Kd.R_drewN | apply Kd.R_drew)); exact HO_7.out) (Kd.R_base ho0) hb); have n1_ := Aside0.mk (Kd.R_elder' (by (with_reducible repeat (first | apply Kd.R_alloc | apply Kd.R_drewN | apply Kd.R_drew)); exact HO_8.out) (Kd.R_base ho0) hb); have n2_ := Aside0.mk (Kd.R_lower (Kd.R_new' (Kd.R_new' ho0 (Kd.R_lt (by (with_reducible repeat (first | apply Kd.R_alloc | apply Kd.R_drewN | apply Kd.R_drew)); exact HO_7.out))) (Kd.R_lt (by (with_reducible repeat (first | apply Kd.R_alloc | apply Kd.R_drewN | apply Kd.R_drew)); exact HO_8.out))) (below_size (by repeat (first | (with_reducible first | exact HB.out | apply below_alloc | apply pw_below_drewN | apply below_drew1) | exact HB.out)))); have n3_ := Aside0.mk (below_step (by repeat (first | (with_reducible first | exact HB.out | apply below_alloc | apply pw_below_drewN | apply below_drew1) | exact HB.out)) hb); clear HO_7; clear HO_8; clear HB; have HO_7 := n0_; have HO_8 := n1_; have HO505 := n2_; have HB := n3_; clear n0_ n1_ n2_ n3_; (try clear hb); (try clear hb2); (try clear hk); (try clear hi); (try clear ho0); obtain ⟨Ao39, co39, eo39⟩ := Kd.R_slice HO505.out; subst eo39) | ((with_reducible refine gate_callee (f := 18) rfl ?_); refine goesL_ (some 46) rfl rfl Try.func18 (by kernel_rfl) rfl #[.slice Ao19 t495.length co19, .slice Ao39 t503.length co39] rfl (by (try simp only [List.map_toArray, List.map_cons, List.map_nil]); first | done | rfl | (simp only [List.length_drop, List.length_take]; rfl)) ?_; (with_reducible refine (laws_eqIntS.calls kj10 _ _ t495 _ _ t503 false _ ?side1 ?side2 ?side3 ?side4 A25.out).mono ?_); (case side1 => repeat (first | exact (Kd.R_reads' HO_7.out).2.2 | (with_reducible refine Kd.C_alloc ?_ _) | (with_reducible refine Kd.C_drewN ?_ _) | (with_reducible refine Kd.C_drew ?_))); (case side2 => exact (Kd.R_reads' HO_7.out).2.1); (case side3 => repeat (first | exact (Kd.R_reads' HO505.out).2.2 | (with_reducible refine Kd.C_alloc ?_ _) | (with_reducible refine Kd.C_drewN ?_ _) | (with_reducible refine Kd.C_drew ?_))); (case side4 => exact (Kd.R_reads' HO505.out).2.1); rintro e w' ⟨rfl, ⟨nd, rfl⟩⟩; refine ⟨_, rfl, ?_⟩))
              go_ret
              exact ⟨by first | rfl | (simp [errW_none, errW_some] <;> rfl) | (simp [*, errW_none, errW_some] <;> rfl), by repeat (first | (with_reducible first | exact HB.out | apply below_alloc | apply pw_below_drewN | apply below_drew1) | exact HB.out)⟩

/-- THE ONE PURE STATEMENT of laws_FnExactSpanOrder: yours. -/
def laws_FnExactSpanOrder.Pure : Prop := ∀ (l0 : List Int) (l1 : List Int), l0.length ≤ maxLen → l0.length * 8 ≤ 140737488351232 → (∀ x ∈ l0, (Lit.int .i64 x).wf = true) → l1.length ≤ maxLen → l1.length * 8 ≤ 140737488351232 → (∀ x ∈ l1, (Lit.int .i64 x).wf = true) → ∃ k, laws_FnExactSpanOrder.f k l0 l1 = some true
theorem laws_FnExactSpanOrder.walk (P : laws_FnExactSpanOrder.Pure) (a0 : Option Addr) (len0 cap0 : Nat) (z0 : List Int) (a1 : Option Addr) (len1 cap1 : Nat) (z1 : List Int) (w : World) (w0 : (a0 = none ∧ len0 = 0 ∧ cap0 = 0 ∧ z0 = []) ∨ ∃ x, a0 = some x ∧ len0 ≤ cap0 ∧ cap0 ≤ maxLen ∧ z0.length = cap0 ∧ (∀ i, i < z0.length → w.cell? (x.add i) = some (.int .i64 (z0.getD i 0))) ∧ ∀ n ∈ z0, (Lit.int .i64 n).wf = true) (y0 : len0 * 8 ≤ 140737488351232) (w1 : (a1 = none ∧ len1 = 0 ∧ cap1 = 0 ∧ z1 = []) ∨ ∃ x, a1 = some x ∧ len1 ≤ cap1 ∧ cap1 ≤ maxLen ∧ z1.length = cap1 ∧ (∀ i, i < z1.length → w.cell? (x.add i) = some (.int .i64 (z1.getD i 0))) ∧ ∀ n ∈ z1, (Lit.int .i64 n).wf = true) (y1 : len1 * 8 ≤ 140737488351232) :
    Calls Try.prog 8 #[.slice a0 len0 cap0, .slice a1 len1 cap1] w fun e w' => e = .returned (.bool true) ∧ Below w.heap.size w w' := by
  obtain ⟨l0, rfl, hr0, hm0, hw0, hc0⟩ := ReadsInt.ofRowC w0
  obtain ⟨l1, rfl, hr1, hm1, hw1, hc1⟩ := ReadsInt.ofRowC w1
  obtain ⟨k, h⟩ := P l0 l1 hm0 y0 hw0 hm1 y1 hw1
  refine (laws_FnExactSpanOrder.calls k _ _ l0 _ _ l1 true w (Kd.C_of_reads (d := (0 : Int)) (h1 := fun _ => rfl) hr0) hc0 (Kd.C_of_reads (d := (0 : Int)) (h1 := fun _ => rfl) hr1) hc1 h).mono ?_
  rintro e w' ⟨rfl, hd⟩
  exact ⟨rfl, hd⟩

end Go.Proofs.Ytckipgldmkboiaa.P

set_option linter.unusedVariables false
set_option linter.unusedSimpArgs false
namespace Go.Proofs.Ytckipgldmkboiaa.X
open Go.RowKit Go.Proofs.YtckipgldmkboiaaW.PrintWords Go.Proofs.YtckipgldmkboiaaW.PrintLast Go.Proofs.Ytckipgldmkboiaa.P

def quadB (t l : List Int) : Bool := sysB t && (decide (l.length = 4) && apartP t l)
theorem quadB_parts {t l : List Int} (h : quadB t l = true) : sysB t = true ∧ l.length = 4 ∧ apartP t l = true := by
  unfold quadB at h
  simp only [Bool.and_eq_true, decide_eq_true_eq] at h
  exact h
theorem diff_all {l : List Int} (h : diffB l = true) : ∀ x ∈ l, In91 x := by
  intro x hx
  obtain ⟨i, hi, rfl⟩ := List.mem_iff_getElem.1 hx
  rw [← rd_cast l i hi]
  exact diffB_pt h (by omega) (by omega)
theorem quad_pts {t l : List Int} (h : quadB t l = true) : ∀ x ∈ l, In91 x := diff_all (apart_parts (quadB_parts h).2.2).1

end Go.Proofs.Ytckipgldmkboiaa.X

set_option linter.unusedVariables false
set_option linter.unusedSimpArgs false
namespace Go.Proofs.Ytckipgldmkboiaa.X
open Go.RowKit Go.Proofs.YtckipgldmkboiaaW.PrintWords Go.Proofs.YtckipgldmkboiaaW.PrintLast Go.Proofs.Ytckipgldmkboiaa.P

theorem l6In_eq (a b c : Int) : spec_l6In.f a b c = some (decide (b ≤ a) && decide (a ≤ c)) := by
  unfold spec_l6In.f
  by_cases h : a ≥ b
  · rw [if_pos h, decide_eq_true h]; simp
  · rw [if_neg h, decide_eq_false h]; simp
theorem l1In_eq (a : Int) : spec_l1In.f a = some (isN a) := by
  unfold spec_l1In.f isN
  rw [l6In_eq]
  show some _ = _
  rw [show decide (a ≤ 8) = decide (a < 9) from decide_eq_decide.2 (by omega)]
theorem l2Table_loop (l : List Int) (hl : l.length ≤ 1048576) (d : Nat) : ∀ (i : Int), 0 ≤ i → i + d = l.length → (∀ j : Nat, (j : Int) < i → isN (rd l j) = true) → Ev (fun k => spec_l2Table.l0 k l i) (ninesB l 81) := by
  induction d with
  | zero =>
    intro i h0 h1 h
    refine Ev.step (fun k => by rw [spec_l2Table.l0]) ?_
    refine Ev.neg (by omega) (Ev.done ?_)
    have ha : l.all isN = true := by
      rw [List.all_eq_true]
      intro x hx
      obtain ⟨j, hj, rfl⟩ := List.mem_iff_getElem.1 hx
      rw [← rd_cast l j hj]
      exact h j (by omega)
    unfold ninesB
    rw [ha, Bool.and_true]
    congr 1
    rw [Bool.eq_iff_iff]; simp; omega
  | succ d ih =>
    intro i h0 h1 h
    refine Ev.step (fun k => by rw [spec_l2Table.l0]) ?_
    simp (disch := omega) only [w64, l1In_eq, Option.bind_some]
    refine Ev.pos (by omega) (Ev.pos (by omega) ?_)
    by_cases e : isN (rd l i) = true
    · refine Ev.pos e (ih (i + 1) (by omega) (by omega) fun j hj => ?_)
      by_cases ej : (j : Int) = i
      · rw [ej]; exact e
      · exact h j (by omega)
    · refine Ev.neg e (Ev.done ?_)
      have : l.all isN = false := by
        rw [List.all_eq_false]
        exact ⟨rd l i, rd_mem (by omega) h0, e⟩
      unfold ninesB
      rw [this, Bool.and_false]
theorem l2Table_ev (l : List Int) (hl : l.length ≤ 1048576) : Ev (fun k => spec_l2Table.f k l) (ninesB l 81) :=
  l2Table_loop l hl l.length 0 (by omega) (by omega) (fun j h => by omega)
theorem l2Units_loop (t : List Int) (hl : t.length = 81) (d : Nat) : ∀ (i : Int), 0 ≤ i → i + d = 9 → (∀ x : Int, 0 ≤ x → x < i → unitB t x = true) → Ev (fun k => spec_l2Units.l0 k t i) (unitsB t) := by
  induction d with
  | zero =>
    intro i h0 h1 h
    refine Ev.step (fun k => by rw [spec_l2Units.l0]) ?_
    refine Ev.neg (by omega) (Ev.done ?_)
    rw [unitsB_iff.2 fun x x0 x1 => h x x0 (by omega)]
  | succ d ih =>
    intro i h0 h1 h
    have hu : unitB t i = (decide (rd t i = 0) && decide (rd t (9 * i) = 0) && decide (rd t (9 + i) = i) && decide (rd t (9 * i + 1) = i)) := rfl
    refine Ev.step (fun k => by rw [spec_l2Units.l0]) ?_
    have z1 : wrap64 (9 * i) = 9 * i := w64 (by omega) (by omega)
    have z2 : wrap64 (9 + i) = 9 + i := w64 (by omega) (by omega)
    have z3 : wrap64 (9 * i + 1) = 9 * i + 1 := w64 (by omega) (by omega)
    have z4 : wrap64 (i + 1) = i + 1 := w64 (by omega) (by omega)
    simp only [z1, z2, z3, z4]
    refine Ev.pos (by omega) (Ev.pos (by omega) (Ev.pos (by omega) ?_))
    by_cases e1 : rd t i = 0
    case neg => exact Ev.neg e1 (Ev.done (by rw [unitsB_hit h0 (by omega) (by rw [hu, decide_eq_false e1]; rfl)]))
    refine Ev.pos e1 (Ev.pos (by omega) (Ev.pos (by omega) ?_))
    by_cases e2 : rd t (9 * i) = 0
    case neg => exact Ev.neg e2 (Ev.done (by rw [unitsB_hit h0 (by omega) (by rw [hu, decide_eq_false e2, Bool.and_false]; rfl)]))
    refine Ev.pos e2 (Ev.pos (by omega) (Ev.pos (by omega) ?_))
    by_cases e3 : rd t (9 + i) = i
    case neg => exact Ev.neg e3 (Ev.done (by rw [unitsB_hit h0 (by omega) (by rw [hu, decide_eq_false e3, Bool.and_false]; rfl)]))
    refine Ev.pos e3 (Ev.pos (by omega) (Ev.pos (by omega) ?_))
    by_cases e4 : rd t (9 * i + 1) = i
    case neg => exact Ev.neg e4 (Ev.done (by rw [unitsB_hit h0 (by omega) (by rw [hu, decide_eq_false e4, Bool.and_false])]))
    refine Ev.pos e4 (ih (i + 1) (by omega) (by omega) fun x x0 x1 => ?_)
    by_cases e : x = i
    · rw [e, hu, decide_eq_true e1, decide_eq_true e2, decide_eq_true e3, decide_eq_true e4]; rfl
    · exact h x x0 (by omega)
theorem l2Units_ev (t : List Int) (hl : t.length = 81) : Ev (fun k => spec_l2Units.f k t) (unitsB t) :=
  l2Units_loop t hl 9 0 (by omega) (by omega) (fun x h0 h1 => by omega)
theorem SystemIn_l1 (t : List Int) (hn : ninesB t 81 = true) (c : Int) (hc : In9 c) (hr : (∀ d : Int, 0 ≤ d → d < c → gapsB t c d = true) → Ev (fun k => spec_SystemIn.l0 k t (c + 1)) (solvesB t)) (n : Nat) :
    ∀ (d : Int), 0 ≤ d → d + n = c → (∀ x : Int, 0 ≤ x → x < d → gapsB t c x = true) → Ev (fun k => spec_SystemIn.l1 k t c d) (solvesB t) := by
  obtain ⟨c0, c1⟩ := hc
  induction n with
  | zero =>
    intro d h0 h1 h
    refine Ev.step (fun k => by rw [spec_SystemIn.l1]) ?_
    simp (disch := omega) only [w64]
    exact Ev.neg (by omega) (hr fun x x0 x1 => h x x0 (by omega))
  | succ n ih =>
    intro d h0 h1 h
    refine Ev.step (fun k => by rw [spec_SystemIn.l1]) ?_
    have hs : spec_l2Solves.f t c d = some (gapsB t c d) := by unfold spec_l2Solves.f; exact if_pos ⟨hn, ⟨c0, c1⟩, ⟨h0, by omega⟩⟩
    simp (disch := omega) only [w64, hs, Option.bind_some]
    refine Ev.pos (by omega) ?_
    by_cases e : gapsB t c d = true
    · refine Ev.pos e (ih (d + 1) (by omega) (by omega) fun x x0 x1 => ?_)
      by_cases ex : x = d
      · rw [ex]; exact e
      · exact h x x0 (by omega)
    · refine Ev.neg e (Ev.done ?_)
      rw [solvesB_hit h0 (by omega) c1 (Bool.eq_false_iff.2 e)]
theorem SystemIn_l0 (t : List Int) (hn : ninesB t 81 = true) (n : Nat) : ∀ (c : Int), 0 ≤ c → c + n = 9 → (∀ x y : Int, 0 ≤ y → y < x → x < c → gapsB t x y = true) → Ev (fun k => spec_SystemIn.l0 k t c) (solvesB t) := by
  induction n with
  | zero =>
    intro c h0 h1 h
    refine Ev.step (fun k => by rw [spec_SystemIn.l0]) ?_
    refine Ev.neg (by omega) (Ev.done ?_)
    rw [solvesB_all fun x y y0 yx x9 => h x y y0 yx (by omega)]
  | succ n ih =>
    intro c h0 h1 h
    refine Ev.step (fun k => by rw [spec_SystemIn.l0]) ?_
    refine Ev.pos (by omega) ?_
    refine SystemIn_l1 t hn c ⟨h0, by omega⟩ (fun hg => ih (c + 1) (by omega) (by omega) fun x y y0 yx x1 => ?_) c.toNat 0 (by omega) (by omega) (fun x x0 x1 => by omega)
    by_cases e : x = c
    · subst e; exact hg y y0 yx
    · exact h x y y0 yx (by omega)
theorem SystemIn_ev (t : List Int) (hl : t.length ≤ 1048576) : Ev (fun k => spec_SystemIn.f k t) (sysB t) := by
  unfold spec_SystemIn.f
  refine Ev.bind (l2Table_ev t hl) ?_
  by_cases hn : ninesB t 81 = true
  case neg =>
    refine Ev.neg hn (Ev.step (fun k => by rw [spec_SystemIn.j0]) (Ev.pos rfl (Ev.done ?_)))
    unfold sysB; rw [Bool.eq_false_iff.2 hn]; rfl
  refine Ev.pos hn (Ev.bind (l2Units_ev t (ninesB_iff.1 hn).1) ?_)
  by_cases hu : unitsB t = true
  case neg =>
    refine Ev.neg hu (Ev.step (fun k => by rw [spec_SystemIn.j0]) (Ev.pos rfl (Ev.done ?_)))
    rw [sysB_of hn, Bool.eq_false_iff.2 hu]; rfl
  have hs : spec_l2Shares.f t = some (sharesB t) := by unfold spec_l2Shares.f; exact if_pos hn
  refine Ev.pos hu (Ev.fix hs ?_)
  rw [sysB_of hn, hu]
  by_cases h : sharesB t = true
  · rw [h]
    refine Ev.step (fun k => by rw [spec_SystemIn.j0]) ?_
    refine Ev.neg (by simp) ?_
    exact SystemIn_l0 t hn 9 0 (by omega) (by omega) (fun x y h0 h1 h2 => by omega)
  · rw [Bool.eq_false_iff.2 h]
    refine Ev.step (fun k => by rw [spec_SystemIn.j0]) ?_
    exact Ev.pos rfl (Ev.done rfl)

end Go.Proofs.Ytckipgldmkboiaa.X

set_option linter.unusedVariables false
set_option linter.unusedSimpArgs false
namespace Go.Proofs.Ytckipgldmkboiaa.X
open Go.RowKit Go.Proofs.YtckipgldmkboiaaW.PrintWords Go.Proofs.YtckipgldmkboiaaW.PrintLast Go.Proofs.Ytckipgldmkboiaa.P

/-! ### a list of bools -/
def bL (n : Nat) (s : Nat → Bool) : List Bool := (List.range n).map s
theorem bL_length (n : Nat) (s : Nat → Bool) : (bL n s).length = n := by simp [bL]
theorem bL_replicate (n : Nat) : List.replicate n false = bL n (fun _ => false) := by
  unfold bL; rw [List.map_const']; simp
theorem bL_rd {n : Nat} {s : Nat → Bool} (v : Int) (h0 : 0 ≤ v) (h1 : v < n) : rdOf false (bL n s) v = s v.toNat := by
  unfold rdOf bL
  rw [List.getD_eq_getElem?_getD, List.getElem?_map, List.getElem?_range (by omega)]
  rfl
theorem bL_set {n : Nat} {s : Nat → Bool} (v : Int) (b : Bool) : (bL n s).set v.toNat b = bL n (fun x => if x = v.toNat then b else s x) := by
  apply List.ext_getElem?
  intro i
  rw [List.getElem?_set]
  by_cases hi : i < n
  · by_cases hj : v.toNat = i
    · subst hj; simp [bL, hi]
    · simp [bL, hi, hj, Ne.symm hj]
  · by_cases hj : v.toNat = i
    · subst hj; simp [bL, hi]
    · simp [bL, hi, hj]
theorem bL_congr {n : Nat} {s s' : Nat → Bool} (h : ∀ j, j < n → s j = s' j) : bL n s = bL n s' := by
  unfold bL
  exact List.map_congr_left fun j hj => h j (List.mem_range.1 hj)
theorem bL_seen {n : Nat} (p : Int → Int) (i : Int) (h0 : 0 ≤ i) (v : Int) (hv0 : 0 ≤ v) (hv : p i = v) : (bL n (seenO p i)).set v.toNat true = bL n (seenO p (i + 1)) := by
  rw [bL_set]
  refine bL_congr fun j hj => ?_
  rw [seenO_succ p i h0 j, hv]
  by_cases e : j = v.toNat
  · subst e; rw [if_pos rfl, decide_eq_true (by omega), Bool.or_true]
  · rw [if_neg e, decide_eq_false (by omega), Bool.or_false]
theorem seenO_zero (p : Int → Int) (j : Nat) : seenO p 0 j = false := rfl

end Go.Proofs.Ytckipgldmkboiaa.X

namespace Go.Proofs.Ytckipgldmkboiaa.P
open Go.RowKit Go.Proofs.YtckipgldmkboiaaW.PrintWords Go.Proofs.YtckipgldmkboiaaW.PrintLast Go.Proofs.YtckipgldmkboiaaW.PrintMore
attribute [local go_sem] max2_int min2_int max_two min_two max_three min_three max_four min_four   -- for this text's walks alone
set_option linter.unusedVariables false
set_option linter.unusedSimpArgs false

/-! ### spec_l3Points: function 106 -/
def spec_l3Points.l0 : Nat → List Int → Int → List Int → Int → Option (List Int)
  | 0, _, _, _, _ => none
  | k + 1, x0, x1, x5, x6 => if x6 < 91 then ((spec_l3On.f x0 x6 x1).bind fun t119 => (if t119 = true then (if x5.length < 17592186044416 then (spec_l3Points.l0 k x0 x1 (x5 ++ [x6]) (wrap64 (x6 + 1))) else (none)) else (spec_l3Points.l0 k x0 x1 x5 (wrap64 (x6 + 1))))) else (some x5)
def spec_l3Points.f (k : Nat) (l0 : List Int) (a1 : Int) : Option (List Int) := spec_l3Points.l0 k l0 a1 (([] : List Int)) 0
theorem spec_l3Points.mono_l : ∀ k, (∀ y0 y1 y2 y3, LeO (spec_l3Points.l0 k y0 y1 y2 y3) (spec_l3Points.l0 (k + 1) y0 y1 y2 y3))
  | 0 => fun _ _ _ _ r h => by simp [spec_l3Points.l0] at h
  | k + 1 => by
    have ih0 := spec_l3Points.mono_l k
    · intro y0 y1 y2 y3
      unfold spec_l3Points.l0
      repeat' first
      | (with_reducible exact ih0 _ _ _ _)
      | (with_reducible exact LeO.refl _)
      | (with_reducible exact LeO.none _)
      | (with_reducible refine LeO.ite ?_ ?_)
      | (with_reducible refine LeO.bind ?_ (fun _ => ?_))
      | exact ih0 _ _ _ _
      | exact LeO.none _
      | refine LeO.ite ?_ ?_
      | refine LeO.bind ?_ (fun _ => ?_)
theorem spec_l3Points.mono : ∀ a0 a1 k, LeO (spec_l3Points.f k a0 a1) (spec_l3Points.f (k + 1) a0 a1) := by
  intro a0 a1 k
  have ih0 := spec_l3Points.mono_l k
  unfold spec_l3Points.f
  repeat' first
      | (with_reducible exact ih0 _ _ _ _)
      | (with_reducible exact LeO.refl _)
      | (with_reducible exact LeO.none _)
      | (with_reducible refine LeO.ite ?_ ?_)
      | (with_reducible refine LeO.bind ?_ (fun _ => ?_))
      | exact ih0 _ _ _ _
      | exact LeO.none _
      | refine LeO.ite ?_ ?_
      | refine LeO.bind ?_ (fun _ => ?_)
set_option maxHeartbeats 8000000 in
set_option maxRecDepth 100000 in
theorem spec_l3Points.calls (k : Nat) (A0 : Option Addr) (c0 : Nat) (l0 : List Int) (a1 : Int) (r : List Int) (w : World) (hr0 : Kd.C (Kd.int .i64) w A0 l0.length l0) (hc0 : l0.length ≤ c0) (h : spec_l3Points.f k l0 a1 = some r) :
    Calls Try.prog 106 #[.slice A0 l0.length c0, .int .i64 a1] w fun e w' => ∃ v0_ : Value, e = .returned (v0_) ∧ Kd.R (Kd.int .i64) 3 w' w.heap.size (fun _ => True) v0_ r ∧ Below w.heap.size w w' := by
  have HR0 := Aside0.mk hr0
  have HC0 := Aside0.mk hc0
  clear hr0 hc0
  have HB := Aside0.mk (Below.refl w.heap.size w)
  have H : (spec_l3Points.l0 k l0 a1 (([] : List Int)) 0) = some r := h
  clear h
  obtain ⟨y116, hy116⟩ : ∃ y_ : List Int, y_ = (([] : List Int)) := ⟨_, rfl⟩
  replace H : (spec_l3Points.l0 k l0 a1 y116 0) = some r := by first | (rw [hy116]; with_reducible exact H) | (have H2_ := (Option.bind_some _ _).symm.trans H; rw [hy116]; with_reducible exact H2_) | (have H2_ := (Option.bind_some _ _).symm.trans H; with_reducible exact H2_) | with_reducible exact H | (rw [hy116]; exact H) | exact H
  have Ny116 := Aside0.mk hy116
  clear hy116
  have H' := Aside0.mk H
  clear H
  go_enter Try.func106, Try.ntmps106
  go_wp2_with (first | ((with_reducible refine gate_dst (N := 7) rfl ?_); refine Kd.R_lit (Kd.int .i64) _ 3 ?hg (N := 7) ?hd (xs := ([] : List Int)) (inner := []) (ok := fun _ => True) (okp := fun _ => True) ?hr ?hp (fun _ hk => hk) trivial (Below.refl _ _) (Nat.le_refl _) (by simp) ?_; (case hd => rfl); (case hg => rfl); (case hr => first | (go_simp; done) | (go_simp; rfl)); (case hp => exact (Reps.none _ _)); intro v117 w3 ho4 hb hg_ hnew_; clear hg_ hnew_; (first | rw [← Ny116.out] at ho4 | (simp only [Int.reduceToNat] at ho4; rw [← Ny116.out] at ho4)); have n0_ := Aside0.mk (Kd.R_lower ho4 (below_size (by repeat (first | (with_reducible first | exact HB.out | apply below_alloc | apply pw_below_drewN | apply below_drew1) | exact HB.out)))); have n1_ := Aside0.mk (below_step (by repeat (first | (with_reducible first | exact HB.out | apply below_alloc | apply pw_below_drewN | apply below_drew1) | exact HB.out)) hb); clear HB; have HO118 := n0_; have HB := n1_; clear n0_ n1_; clear hb ho4))
  go_loopg [5, 6] k (fun kq v5 v6 w' => ∃ (x5_1 : List Int) (x6_1 : Int), v6 = .int .i64 x6_1 ∧ Aside0 (spec_l3Points.l0 kq l0 a1 x5_1 x6_1 = some r) ∧ Aside0 (kq ≤ k) ∧ Aside0 (Kd.R (Kd.int .i64) 3 w' w.heap.size (fun _ => True) v5 x5_1) ∧ Aside0 (Below w.heap.size w w'))
  case atStart => exact ⟨(y116), (0), (by first | rfl | (simp; done) | (simp [*]; done)), H', ⟨Nat.le_refl _⟩, ⟨by (with_reducible repeat (first | apply Kd.R_alloc | apply Kd.R_drewN | apply Kd.R_drew)); exact HO118.out⟩, ⟨by repeat (first | (with_reducible first | exact HB.out | apply below_alloc | apply pw_below_drewN | apply below_drew1) | exact HB.out)⟩⟩
  case round =>
    clear H'
    try clear c1
    try clear p2
    obtain ⟨x5_1, x6_1, rfl, HA, HK1, HO_5, HB⟩ := hrel
    cases gk with
    | zero => exact absurd HA.out (by simp [spec_l3Points.l0])
    | succ k1 =>
      have H := HA.out
      clear HA
      simp only [spec_l3Points.l0] at H
      by_cases c5 : x6_1 < 91
      · rw [if_pos c5] at H
        have c5b0 : decide (x6_1 < 91) = true := decide_eq_true c5
        clear c5
        replace H := Option.bind_eq_some_iff.mp H
        obtain ⟨t119, A60, H⟩ := H
        replace H : (if t119 = true then (if x5_1.length < 17592186044416 then (spec_l3Points.l0 k1 l0 a1 (x5_1 ++ [x6_1]) (wrap64 (x6_1 + 1))) else (none)) else (spec_l3Points.l0 k1 l0 a1 x5_1 (wrap64 (x6_1 + 1)))) = some r := H
        have A6 := Aside0.mk A60
        clear A60
        by_cases c7 : t119 = true
        · subst c7
          have H1 : (if x5_1.length < 17592186044416 then (spec_l3Points.l0 k1 l0 a1 (x5_1 ++ [x6_1]) (wrap64 (x6_1 + 1))) else (none)) = some r := by rw [if_pos rfl] at H; exact H
          clear H
          have H := H1
          clear H1
          by_cases c8 : x5_1.length < 17592186044416
          · rw [if_pos c8] at H
            have LMc8 := Aside0.mk c8
            clear c8
            obtain ⟨y120, hy120⟩ : ∃ y_ : List Int, y_ = (x5_1 ++ [x6_1]) := ⟨_, rfl⟩
            replace H : (spec_l3Points.l0 k1 l0 a1 y120 (wrap64 (x6_1 + 1))) = some r := by first | (rw [hy120]; with_reducible exact H) | (have H2_ := (Option.bind_some _ _).symm.trans H; rw [hy120]; with_reducible exact H2_) | (have H2_ := (Option.bind_some _ _).symm.trans H; with_reducible exact H2_) | with_reducible exact H | (rw [hy120]; exact H) | exact H
            have Ny120 := Aside0.mk hy120
            clear hy120
            have H' := Aside0.mk H
            clear H
            go_wp2_with (first | ((with_reducible refine gate_callee (f := 54) rfl ?_); refine goesL_ (some 15) rfl rfl Try.func54 (by kernel_rfl) rfl #[.slice A0 l0.length c0, .int .i64 x6_1, .int .i64 a1] rfl (by (try simp only [List.map_toArray, List.map_cons, List.map_nil]); first | done | rfl | (simp only [List.length_drop, List.length_take]; rfl)) ?_; (with_reducible refine (spec_l3On.calls _ _ l0 x6_1 a1 true _ ?side1 ?side2 A6.out).mono ?_); (case side1 => repeat (first | exact (Kd.C_below HR0.out HB.out) | (with_reducible refine Kd.C_alloc ?_ _) | (with_reducible refine Kd.C_drewN ?_ _) | (with_reducible refine Kd.C_drew ?_))); (case side2 => exact HC0.out); rintro e w' ⟨rfl, ⟨nd, rfl⟩⟩; refine ⟨_, rfl, ?_⟩) | ((with_reducible refine gate_builtin (b := .append) (xs := #[.tmp 16, .tmp 18]) rfl ?_); at_builtin; refine Kd.R_append (Kd.int .i64) (w0 := w) w.heap.size rfl (.tmp 16) (.tmp 18) 22 3 (.int .i64 0) 8 rfl Try.underlying22 info3 rfl (by decide) (by omega) u5 x5_1 x6_1 [.int .i64 x6_1] (fun _ => True) (fun _ => False) rfl rfl ?aP (fun _ hk => hk.elim) ?aF ?aO ?aB ?aS ?aL ?_; (case aP => exact rfl); (case aB => exact (by repeat (first | (with_reducible first | exact HB.out | apply below_alloc | apply pw_below_drewN | apply below_drew1) | exact HB.out))); (case aF => exact (fun _ _ => trivial)); (case aO => exact (by (with_reducible repeat (first | apply Kd.R_alloc | apply Kd.R_drewN | apply Kd.R_drew)); exact HO_5.out)); (case aS => exact (below_size (by repeat (first | (with_reducible first | exact HB.out | apply below_alloc | apply pw_below_drewN | apply below_drew1) | exact HB.out)))); (case aL => have := LMc8.out; omega); intro v121 w9 ho hb hg hat; rw [← Ny120.out] at ho; have n0_ := Aside0.mk (hb); have n1_ := Aside0.mk (ho); clear HB; clear HO_5; have HB := n0_; have HO122 := n1_; clear n0_ n1_; clear ho hb hg hat))
            go_roundg k1
            case measure => have := HK1.out; omega
            case rel => exact ⟨(y120), (wrap64 (x6_1 + 1)), (by first | rfl | (simp; done) | (simp [*]; done)), H', ⟨by have := HK1.out; omega⟩, ⟨by (with_reducible repeat (first | apply Kd.R_alloc | apply Kd.R_drewN | apply Kd.R_drew)); exact HO122.out⟩, ⟨by repeat (first | (with_reducible first | exact HB.out | apply below_alloc | apply pw_below_drewN | apply below_drew1) | exact HB.out)⟩⟩
          · rw [if_neg c8] at H
            exact absurd H (by simp)
        · replace c7 := Bool.eq_false_iff.mpr c7
          subst c7
          have H1 : (spec_l3Points.l0 k1 l0 a1 x5_1 (wrap64 (x6_1 + 1))) = some r := by rw [if_neg (show ¬ (false = true) by decide)] at H; exact H
          clear H
          have H := H1
          clear H1
          have H' := Aside0.mk H
          clear H
          go_wp2_with (first | ((with_reducible refine gate_callee (f := 54) rfl ?_); refine goesL_ (some 15) rfl rfl Try.func54 (by kernel_rfl) rfl #[.slice A0 l0.length c0, .int .i64 x6_1, .int .i64 a1] rfl (by (try simp only [List.map_toArray, List.map_cons, List.map_nil]); first | done | rfl | (simp only [List.length_drop, List.length_take]; rfl)) ?_; (with_reducible refine (spec_l3On.calls _ _ l0 x6_1 a1 false _ ?side1 ?side2 A6.out).mono ?_); (case side1 => repeat (first | exact (Kd.C_below HR0.out HB.out) | (with_reducible refine Kd.C_alloc ?_ _) | (with_reducible refine Kd.C_drewN ?_ _) | (with_reducible refine Kd.C_drew ?_))); (case side2 => exact HC0.out); rintro e w' ⟨rfl, ⟨nd, rfl⟩⟩; refine ⟨_, rfl, ?_⟩))
          go_roundg k1
          case measure => have := HK1.out; omega
          case rel => exact ⟨(x5_1), (wrap64 (x6_1 + 1)), (by first | rfl | (simp; done) | (simp [*]; done)), H', ⟨by have := HK1.out; omega⟩, ⟨by (with_reducible repeat (first | apply Kd.R_alloc | apply Kd.R_drewN | apply Kd.R_drew)); exact HO_5.out⟩, ⟨by repeat (first | (with_reducible first | exact HB.out | apply below_alloc | apply pw_below_drewN | apply below_drew1) | exact HB.out)⟩⟩
      · rw [if_neg c5] at H
        have c5b0 : decide (x6_1 < 91) = false := decide_eq_false c5
        clear c5
        obtain rfl := Option.some.inj H
        go_wp2
        go_ret
        exact ⟨_, by first | rfl | (simp [errW_none, errW_some] <;> rfl) | (simp [*, errW_none, errW_some] <;> rfl), by (with_reducible repeat (first | apply Kd.R_alloc | apply Kd.R_drewN | apply Kd.R_drew)); exact HO_5.out, by repeat (first | (with_reducible first | exact HB.out | apply below_alloc | apply pw_below_drewN | apply below_drew1) | exact HB.out)⟩

end Go.Proofs.Ytckipgldmkboiaa.P

namespace Go.Proofs.Ytckipgldmkboiaa.P
open Go.RowKit Go.Proofs.YtckipgldmkboiaaW.PrintWords Go.Proofs.YtckipgldmkboiaaW.PrintLast Go.Proofs.YtckipgldmkboiaaW.PrintMore
attribute [local go_sem] max2_int min2_int max_two min_two max_three min_three max_four min_four   -- for this text's walks alone
set_option linter.unusedVariables false
set_option linter.unusedSimpArgs false

/-! ### spec_l5Perm: function 144 -/
def spec_l5Perm.l0 : Nat → List Int → List Bool → Int → Option (Bool)
  | 0, _, _, _ => none
  | k + 1, x0, x3, x4 => if x4 < (x0.length : Int) then (if 0 ≤ x4 then ((spec_l3In.f (rd x0 x4)).bind fun t139 => (if t139 = true then (if 0 ≤ (rd x0 x4) then (if (rd x0 x4) < (x3.length : Int) then (if rdOf false x3 (rd x0 x4) = true then (some false) else (spec_l5Perm.l0 k x0 (x3.set ((rd x0 x4) : Int).toNat true) (wrap64 (x4 + 1)))) else (none)) else (none)) else (some false))) else (none)) else (some ((x0.length : Int) == 91))
def spec_l5Perm.f (k : Nat) (l0 : List Int) : Option (Bool) := if 91 ≤ 281474976710656 then (spec_l5Perm.l0 k l0 (List.replicate 91 false) 0) else (none)
theorem spec_l5Perm.mono_l : ∀ k, (∀ y0 y1 y2, LeO (spec_l5Perm.l0 k y0 y1 y2) (spec_l5Perm.l0 (k + 1) y0 y1 y2))
  | 0 => fun _ _ _ r h => by simp [spec_l5Perm.l0] at h
  | k + 1 => by
    have ih0 := spec_l5Perm.mono_l k
    · intro y0 y1 y2
      unfold spec_l5Perm.l0
      repeat' first
      | (with_reducible exact ih0 _ _ _)
      | (with_reducible exact LeO.refl _)
      | (with_reducible exact LeO.none _)
      | (with_reducible refine LeO.ite ?_ ?_)
      | (with_reducible refine LeO.bind ?_ (fun _ => ?_))
      | exact ih0 _ _ _
      | exact LeO.none _
      | refine LeO.ite ?_ ?_
      | refine LeO.bind ?_ (fun _ => ?_)
theorem spec_l5Perm.mono : ∀ a0 k, LeO (spec_l5Perm.f k a0) (spec_l5Perm.f (k + 1) a0) := by
  intro a0 k
  have ih0 := spec_l5Perm.mono_l k
  unfold spec_l5Perm.f
  repeat' first
      | (with_reducible exact ih0 _ _ _)
      | (with_reducible exact LeO.refl _)
      | (with_reducible exact LeO.none _)
      | (with_reducible refine LeO.ite ?_ ?_)
      | (with_reducible refine LeO.bind ?_ (fun _ => ?_))
      | exact ih0 _ _ _
      | exact LeO.none _
      | refine LeO.ite ?_ ?_
      | refine LeO.bind ?_ (fun _ => ?_)
set_option maxHeartbeats 8000000 in
set_option maxRecDepth 100000 in
theorem spec_l5Perm.calls (k : Nat) (A0 : Option Addr) (c0 : Nat) (l0 : List Int) (r : Bool) (w : World) (hr0 : Kd.C (Kd.int .i64) w A0 l0.length l0) (hc0 : l0.length ≤ c0) (h : spec_l5Perm.f k l0 = some r) :
    Calls Try.prog 144 #[.slice A0 l0.length c0] w fun e w' => e = .returned (.bool r) ∧ Below w.heap.size w w' := by
  have HR0 := Aside0.mk hr0
  have HC0 := Aside0.mk hc0
  clear hr0 hc0
  have HB := Aside0.mk (Below.refl w.heap.size w)
  have H : (if 91 ≤ 281474976710656 then (spec_l5Perm.l0 k l0 (List.replicate 91 false) 0) else (none)) = some r := h
  clear h
  by_cases c2 : 91 ≤ 281474976710656
  · rw [if_pos c2] at H
    have c2b0 := eq_true c2
    have c2b1 : decide (91 ≤ 281474976710656) = true := decide_eq_true c2
    clear c2
    obtain ⟨y135, hy135⟩ : ∃ y_ : List Bool, y_ = (List.replicate 91 false) := ⟨_, rfl⟩
    replace H : (spec_l5Perm.l0 k l0 y135 0) = some r := by first | (rw [hy135]; with_reducible exact H) | (have H2_ := (Option.bind_some _ _).symm.trans H; rw [hy135]; with_reducible exact H2_) | (have H2_ := (Option.bind_some _ _).symm.trans H; with_reducible exact H2_) | with_reducible exact H | (rw [hy135]; exact H) | exact H
    have Ny135 := Aside0.mk hy135
    clear hy135
    have H' := Aside0.mk H
    clear H
    go_enter Try.func144, Try.ntmps144
    go_wp2_with (first | ((with_reducible refine gate_dst (N := 5) rfl ?_); refine Kd.R_make Kd.bool _ 4 rfl (N := 5) rfl 47 _ _ rfl 91 rfl rfl Try.underlying47 (.bool false) 1 info4 rfl (by decide) (by omega) false (ok := fun _ => True) (okp := fun _ => True) rfl (fun _ hk => hk) trivial (by omega) (by omega) (Below.refl _ _) (Nat.le_refl _) ?_; intro v136 w3 ho4 hb hg_ hnew_; clear hg_ hnew_; (first | rw [← Ny135.out] at ho4 | (simp only [Int.reduceToNat] at ho4; rw [← Ny135.out] at ho4)); have n0_ := Aside0.mk (Kd.R_lower ho4 (below_size (by repeat (first | (with_reducible first | exact HB.out | apply below_alloc | apply pw_below_drewN | apply below_drew1) | exact HB.out)))); have n1_ := Aside0.mk (below_step (by repeat (first | (with_reducible first | exact HB.out | apply below_alloc | apply pw_below_drewN | apply below_drew1) | exact HB.out)) hb); clear HB; have HO137 := n0_; have HB := n1_; clear n0_ n1_; clear hb ho4))
    go_loopg [4] k (fun kq v4 w' => ∃ (x3_1 : List Bool) (x4_1 : Int), v4 = .int .i64 x4_1 ∧ Aside0 (spec_l5Perm.l0 kq l0 x3_1 x4_1 = some r) ∧ Aside0 (kq ≤ k) ∧ Aside0 (Kd.R Kd.bool 4 w' w.heap.size (fun _ => True) v136 x3_1) ∧ Aside0 (Below w.heap.size w w'))
    case atStart => exact ⟨(y135), (0), (by first | rfl | (simp; done) | (simp [*]; done)), H', ⟨Nat.le_refl _⟩, ⟨by (with_reducible repeat (first | apply Kd.R_alloc | apply Kd.R_drewN | apply Kd.R_drew)); exact HO137.out⟩, ⟨by repeat (first | (with_reducible first | exact HB.out | apply below_alloc | apply pw_below_drewN | apply below_drew1) | exact HB.out)⟩⟩
    case round =>
      clear H'
      try clear c1
      try clear c2
      try clear c2b0
      try clear c2b1
      try clear p2
      obtain ⟨x3_1, x4_1, rfl, HA, HK1, HO_3, HB⟩ := hrel
      cases gk with
      | zero => exact absurd HA.out (by simp [spec_l5Perm.l0])
      | succ k1 =>
        have H := HA.out
        clear HA
        simp only [spec_l5Perm.l0] at H
        by_cases c5 : x4_1 < (l0.length : Int)
        · rw [if_pos c5] at H
          have c5b0 : decide (x4_1 < (l0.length : Int)) = true := decide_eq_true c5
          clear c5
          by_cases c6 : 0 ≤ x4_1
          · rw [if_pos c6] at H
            have c6b0 : decide (0 ≤ x4_1) = true := decide_eq_true c6
            clear c6
            replace H := Option.bind_eq_some_iff.mp H
            obtain ⟨t139, A70, H⟩ := H
            replace H : (if t139 = true then (if 0 ≤ (rd l0 x4_1) then (if (rd l0 x4_1) < (x3_1.length : Int) then (if rdOf false x3_1 (rd l0 x4_1) = true then (some false) else (spec_l5Perm.l0 k1 l0 (x3_1.set ((rd l0 x4_1) : Int).toNat true) (wrap64 (x4_1 + 1)))) else (none)) else (none)) else (some false)) = some r := H
            have A7 := Aside0.mk A70
            clear A70
            by_cases c8 : t139 = true
            · subst c8
              have H1 : (if 0 ≤ (rd l0 x4_1) then (if (rd l0 x4_1) < (x3_1.length : Int) then (if rdOf false x3_1 (rd l0 x4_1) = true then (some false) else (spec_l5Perm.l0 k1 l0 (x3_1.set ((rd l0 x4_1) : Int).toNat true) (wrap64 (x4_1 + 1)))) else (none)) else (none)) = some r := by rw [if_pos rfl] at H; exact H
              clear H
              have H := H1
              clear H1
              by_cases c9 : 0 ≤ (rd l0 x4_1)
              · rw [if_pos c9] at H
                have c9b0 : decide (0 ≤ (rd l0 x4_1)) = true := decide_eq_true c9
                clear c9
                by_cases c10 : (rd l0 x4_1) < (x3_1.length : Int)
                · rw [if_pos c10] at H
                  have c10b0 : decide ((rd l0 x4_1) < (x3_1.length : Int)) = true := decide_eq_true c10
                  clear c10
                  obtain ⟨bq11, hbq11⟩ : ∃ b_ : Bool, b_ = (rdOf false x3_1 (rd l0 x4_1)) := ⟨_, rfl⟩
                  replace H : (if bq11 = true then (some false) else (spec_l5Perm.l0 k1 l0 (x3_1.set ((rd l0 x4_1) : Int).toNat true) (wrap64 (x4_1 + 1)))) = some r := by rw [← hbq11] at H; exact H
                  have Nbq11 := Aside0.mk hbq11
                  clear hbq11
                  by_cases c12 : bq11 = true
                  · subst c12
                    have H1 : (some false) = some r := by rw [if_pos rfl] at H; exact H
                    clear H
                    have H := H1
                    clear H1
                    obtain rfl := Option.some.inj H
                    have p138 : 0 ≤ (x4_1 : Int) := of_decide_eq_true (by first | (with_reducible assumption) | assumption)
                    have q138 : x4_1 < (l0.length : Int) := of_decide_eq_true (by first | (with_reducible assumption) | assumption)
                    obtain ⟨ad138, e138, hx138_0⟩ := Kd.at_int HR0.out x4_1 p138 q138
                    cases e138
                    replace hx138_0 := (HB.out.cell (World.block_lt_of_cell? w _ hx138_0)).trans hx138_0
                    replace p138 := eq_true p138
                    replace q138 := eq_true q138
                    go_wp2_with (first | ((with_reducible refine gate_callee (f := 134) rfl ?_); refine goesL_ (some 16) rfl rfl Try.func134 (by kernel_rfl) rfl #[.int .i64 (rd l0 x4_1)] rfl (by (try simp only [List.map_toArray, List.map_cons, List.map_nil]); first | done | rfl | (simp only [List.length_drop, List.length_take]; rfl)) ?_; (with_reducible refine (spec_l3In.calls (rd l0 x4_1) true _ A7.out).mono ?_); rintro e w' ⟨rfl, ⟨nd, rfl⟩⟩; refine ⟨_, rfl, ?_⟩; have p140 : 0 ≤ (x4_1 : Int) := of_decide_eq_true (by first | (with_reducible assumption) | assumption); have q140 : x4_1 < (l0.length : Int) := of_decide_eq_true (by first | (with_reducible assumption) | assumption); obtain ⟨ad140, e140, hx140_0⟩ := Kd.at_int HR0.out x4_1 p140 q140; obtain rfl : ad138 = ad140 := (by injection e140); replace hx140_0 := (HB.out.cell (World.block_lt_of_cell? w _ hx140_0)).trans hx140_0; replace p140 := eq_true p140; replace q140 := eq_true q140; obtain ⟨Ao13, co13, eo13⟩ := Kd.R_slice HO_3.out; subst eo13; have p141 : 0 ≤ ((rd l0 x4_1) : Int) := of_decide_eq_true (by first | (with_reducible assumption) | assumption); have q141 : (rd l0 x4_1) < (x3_1.length : Int) := of_decide_eq_true (by first | (with_reducible assumption) | assumption); obtain ⟨ad141, e141, hx141_0⟩ := Kd.at_bool (Kd.R_reads' HO_3.out).2.2 (rd l0 x4_1) p141 q141; (try rw [← Nbq11.out] at hx141_0); cases e141; replace p141 := eq_true p141; replace q141 := eq_true q141))
                    go_ret
                    exact ⟨by first | rfl | (simp [errW_none, errW_some] <;> rfl) | (simp [*, errW_none, errW_some] <;> rfl), by repeat (first | (with_reducible first | exact HB.out | apply below_alloc | apply pw_below_drewN | apply below_drew1) | exact HB.out)⟩
                  · replace c12 := Bool.eq_false_iff.mpr c12
                    subst c12
                    have H1 : (spec_l5Perm.l0 k1 l0 (x3_1.set ((rd l0 x4_1) : Int).toNat true) (wrap64 (x4_1 + 1))) = some r := by rw [if_neg (show ¬ (false = true) by decide)] at H; exact H
                    clear H
                    have H := H1
                    clear H1
                    obtain ⟨y143, hy143⟩ : ∃ y_ : List Bool, y_ = (x3_1.set ((rd l0 x4_1) : Int).toNat true) := ⟨_, rfl⟩
                    replace H : (spec_l5Perm.l0 k1 l0 y143 (wrap64 (x4_1 + 1))) = some r := by first | (rw [hy143]; with_reducible exact H) | (have H2_ := (Option.bind_some _ _).symm.trans H; rw [hy143]; with_reducible exact H2_) | (have H2_ := (Option.bind_some _ _).symm.trans H; with_reducible exact H2_) | with_reducible exact H | (rw [hy143]; exact H) | exact H
                    have Ny143 := Aside0.mk hy143
                    clear hy143
                    have H' := Aside0.mk H
                    clear H
                    have p138 : 0 ≤ (x4_1 : Int) := of_decide_eq_true (by first | (with_reducible assumption) | assumption)
                    have q138 : x4_1 < (l0.length : Int) := of_decide_eq_true (by first | (with_reducible assumption) | assumption)
                    obtain ⟨ad138, e138, hx138_0⟩ := Kd.at_int HR0.out x4_1 p138 q138
                    cases e138
                    replace hx138_0 := (HB.out.cell (World.block_lt_of_cell? w _ hx138_0)).trans hx138_0
                    replace p138 := eq_true p138
                    replace q138 := eq_true q138
                    go_wp2_with (first | ((with_reducible refine gate_callee (f := 134) rfl ?_); refine goesL_ (some 16) rfl rfl Try.func134 (by kernel_rfl) rfl #[.int .i64 (rd l0 x4_1)] rfl (by (try simp only [List.map_toArray, List.map_cons, List.map_nil]); first | done | rfl | (simp only [List.length_drop, List.length_take]; rfl)) ?_; (with_reducible refine (spec_l3In.calls (rd l0 x4_1) true _ A7.out).mono ?_); rintro e w' ⟨rfl, ⟨nd, rfl⟩⟩; refine ⟨_, rfl, ?_⟩; (try (rw [drewN_self wr]; generalize hq_ : World.drewN wr _ = wr; have n0_ : Aside0 (Kd.R Kd.bool 4 wr w.heap.size (fun _ => True) v136 x3_1) := ⟨by rw [← hq_]; exact (by (with_reducible repeat (first | apply Kd.R_alloc | apply Kd.R_drewN | apply Kd.R_drew)); exact HO_3.out)⟩; have n1_ : Aside0 (Below w.heap.size w wr) := ⟨by rw [← hq_]; exact (by repeat (first | (with_reducible first | exact HB.out | apply below_alloc | apply pw_below_drewN | apply below_drew1) | exact HB.out))⟩; clear HO_3 HB hq_; have HO_3 := n0_; have HB := n1_; clear n0_ n1_)); have p140 : 0 ≤ (x4_1 : Int) := of_decide_eq_true (by first | (with_reducible assumption) | assumption); have q140 : x4_1 < (l0.length : Int) := of_decide_eq_true (by first | (with_reducible assumption) | assumption); obtain ⟨ad140, e140, hx140_0⟩ := Kd.at_int HR0.out x4_1 p140 q140; obtain rfl : ad138 = ad140 := (by injection e140); replace hx140_0 := (HB.out.cell (World.block_lt_of_cell? w _ hx140_0)).trans hx140_0; replace p140 := eq_true p140; replace q140 := eq_true q140; obtain ⟨Ao15, co15, eo15⟩ := Kd.R_slice HO_3.out; subst eo15; have p141 : 0 ≤ ((rd l0 x4_1) : Int) := of_decide_eq_true (by first | (with_reducible assumption) | assumption); have q141 : (rd l0 x4_1) < (x3_1.length : Int) := of_decide_eq_true (by first | (with_reducible assumption) | assumption); obtain ⟨ad141, e141, hx141_0⟩ := Kd.at_bool (Kd.R_reads' HO_3.out).2.2 (rd l0 x4_1) p141 q141; (try rw [← Nbq11.out] at hx141_0); cases e141; replace p141 := eq_true p141; replace q141 := eq_true q141; have p142 : 0 ≤ (x4_1 : Int) := of_decide_eq_true (by first | (with_reducible assumption) | assumption); have q142 : x4_1 < (l0.length : Int) := of_decide_eq_true (by first | (with_reducible assumption) | assumption); obtain ⟨ad142, e142, hx142_0⟩ := Kd.at_int HR0.out x4_1 p142 q142; obtain rfl : ad138 = ad142 := (by injection e142); replace hx142_0 := (HB.out.cell (World.block_lt_of_cell? w _ hx142_0)).trans hx142_0; replace p142 := eq_true p142; replace q142 := eq_true q142; have p14 : 0 ≤ ((rd l0 x4_1) : Int) := of_decide_eq_true (by first | (with_reducible assumption) | assumption); have q14 : ((rd l0 x4_1) : Int) < ((x3_1.length : Int) : Int) := of_decide_eq_true (by first | (with_reducible assumption) | assumption); obtain ⟨go14, co14, eo14, gb14, gl14, cl14, HG14⟩ := Kd.R_form HO_3.out (by omega); (first | cases eo14 | (injection eo14 with ea_ en_ ec_; (first | subst ea_ | (injection ea_ with ea_; subst ea_)); subst ec_; clear en_)); have GB14 := Aside0.mk gb14; have GG14 := Aside0.mk HG14; clear gb14 gl14 HG14; (first | simp only [add_plain] at hx141_0 | skip); obtain ⟨hx14_0, hf14_0⟩ := Kd.R_celln false HO_3.out ((rd l0 x4_1) : Int) p14 q14; replace p14 := eq_true p14; replace q14 := eq_true q14; obtain ⟨hy16_, hz16_⟩ := Kd.R_celln false HO_3.out ((rd l0 x4_1) : Int) (of_decide_eq_true (by first | (with_reducible assumption) | assumption)) (of_decide_eq_true (by first | (with_reducible assumption) | assumption)); have HP16 := Kd.R_putg HO_3.out ((rd l0 x4_1) : Int) true) | ((with_reducible refine gate_store (t := 4) (p := 32) rfl ?_); refine store_event (t := 4) (p := 32) (v := ?vo_w17) (w1 := (wr.setCell ⟨go14, ((rd l0 x4_1) : Int).toNat, none⟩ (.bool true))) ?hg ?ho ?hn ?hr ?_; (case ho => rfl); (case hg => rfl); (case hn => rfl); (case hr => first | (go_simp; done) | (go_simp; rfl)); intro w17 hw; have hg : wr.grownBy w17 (some go14) := (by rw [hw]; exact HP16.2); have hp_ : Kd.R Kd.bool 4 w17 w.heap.size (fun _ => True) (.slice (some ⟨go14, 0, none⟩) x3_1.length co15) y143 := (by rw [hw, Ny143.out]; exact HP16.1); clear HP16; have n0_ := Aside0.mk (hp_); have n1_ := Aside0.mk ((by rw [hw]; exact below_set (HB.out) GB14.out : Below w.heap.size w w17)); clear HO_3; clear HB; have HO_3 := n0_; have HB := n1_; clear n0_ n1_; clear hg hw hp_))
                    go_roundg k1
                    case measure => have := HK1.out; omega
                    case rel => exact ⟨(y143), (wrap64 (x4_1 + 1)), (by first | rfl | (simp; done) | (simp [*]; done)), H', ⟨by have := HK1.out; omega⟩, ⟨by (with_reducible repeat (first | apply Kd.R_alloc | apply Kd.R_drewN | apply Kd.R_drew)); exact HO_3.out⟩, ⟨by repeat (first | (with_reducible first | exact HB.out | apply below_alloc | apply pw_below_drewN | apply below_drew1) | exact HB.out)⟩⟩
                · rw [if_neg c10] at H
                  exact absurd H (by simp)
              · rw [if_neg c9] at H
                exact absurd H (by simp)
            · replace c8 := Bool.eq_false_iff.mpr c8
              subst c8
              have H1 : (some false) = some r := by rw [if_neg (show ¬ (false = true) by decide)] at H; exact H
              clear H
              have H := H1
              clear H1
              obtain rfl := Option.some.inj H
              have p138 : 0 ≤ (x4_1 : Int) := of_decide_eq_true (by first | (with_reducible assumption) | assumption)
              have q138 : x4_1 < (l0.length : Int) := of_decide_eq_true (by first | (with_reducible assumption) | assumption)
              obtain ⟨ad138, e138, hx138_0⟩ := Kd.at_int HR0.out x4_1 p138 q138
              cases e138
              replace hx138_0 := (HB.out.cell (World.block_lt_of_cell? w _ hx138_0)).trans hx138_0
              replace p138 := eq_true p138
              replace q138 := eq_true q138
              go_wp2_with (first | ((with_reducible refine gate_callee (f := 134) rfl ?_); refine goesL_ (some 16) rfl rfl Try.func134 (by kernel_rfl) rfl #[.int .i64 (rd l0 x4_1)] rfl (by (try simp only [List.map_toArray, List.map_cons, List.map_nil]); first | done | rfl | (simp only [List.length_drop, List.length_take]; rfl)) ?_; (with_reducible refine (spec_l3In.calls (rd l0 x4_1) false _ A7.out).mono ?_); rintro e w' ⟨rfl, ⟨nd, rfl⟩⟩; refine ⟨_, rfl, ?_⟩))
              go_ret
              exact ⟨by first | rfl | (simp [errW_none, errW_some] <;> rfl) | (simp [*, errW_none, errW_some] <;> rfl), by repeat (first | (with_reducible first | exact HB.out | apply below_alloc | apply pw_below_drewN | apply below_drew1) | exact HB.out)⟩
          · rw [if_neg c6] at H
            exact absurd H (by simp)
        · rw [if_neg c5] at H
          have c5b0 : decide (x4_1 < (l0.length : Int)) = false := decide_eq_false c5
          clear c5
          obtain rfl := Option.some.inj H
          go_wp2
          go_ret
          exact ⟨by first | rfl | (simp [errW_none, errW_some] <;> rfl) | (simp [*, errW_none, errW_some] <;> rfl), by repeat (first | (with_reducible first | exact HB.out | apply below_alloc | apply pw_below_drewN | apply below_drew1) | exact HB.out)⟩
  · rw [if_neg c2] at H
    exact absurd H (by simp)

end Go.Proofs.Ytckipgldmkboiaa.P

namespace Go.Proofs.Ytckipgldmkboiaa.P
open Go.RowKit Go.Proofs.YtckipgldmkboiaaW.PrintWords Go.Proofs.YtckipgldmkboiaaW.PrintLast Go.Proofs.YtckipgldmkboiaaW.PrintMore
attribute [local go_sem] max2_int min2_int max_two min_two max_three min_three max_four min_four   -- for this text's walks alone
set_option linter.unusedVariables false
set_option linter.unusedSimpArgs false

/-! ### spec_l5Line: function 55 -/
def spec_l5Line.l0 : Nat → List Int → List Int → List Int → Int → Int → Option (Int × Bool)
  | 0, _, _, _, _, _ => none
  | k + 1, x0, x1, x8, x9, x10 => if x10 < (x8.length : Int) then (if 0 ≤ x10 then (if 0 ≤ (rd x8 x10) then (if (rd x8 x10) < (x1.length : Int) then ((spec_l3On.f x0 (rd x1 (rd x8 x10)) x9).bind fun t133 => (if t133 = true then (spec_l5Line.l0 k x0 x1 x8 x9 (wrap64 (x10 + 1))) else (some (0, false)))) else (none)) else (none)) else (none)) else (some (x9, true))
def spec_l5Line.f (k : Nat) (l0 : List Int) (l1 : List Int) (a2 : Int) : Option (Int × Bool) := (spec_l3Points.f k l0 a2).bind fun t123 => (if 0 < (t123.length : Int) then (if 0 ≤ (rd t123 0) then (if (rd t123 0) < (l1.length : Int) then (if 1 < (t123.length : Int) then (if 0 ≤ (rd t123 1) then (if (rd t123 1) < (l1.length : Int) then ((spec_l3Join.f k l0 (rd l1 (rd t123 0)) (rd l1 (rd t123 1))).bind fun t130 => (spec_l5Line.l0 k l0 l1 t123 t130 2)) else (none)) else (none)) else (none)) else (none)) else (none)) else (none))
theorem spec_l5Line.mono_l : ∀ k, (∀ y0 y1 y2 y3 y4, LeO (spec_l5Line.l0 k y0 y1 y2 y3 y4) (spec_l5Line.l0 (k + 1) y0 y1 y2 y3 y4))
  | 0 => fun _ _ _ _ _ r h => by simp [spec_l5Line.l0] at h
  | k + 1 => by
    have ih0 := spec_l5Line.mono_l k
    · intro y0 y1 y2 y3 y4
      unfold spec_l5Line.l0
      repeat' first
      | (with_reducible exact ih0 _ _ _ _ _)
      | (with_reducible exact spec_l3Join.mono _ _ _ _)
      | (with_reducible exact spec_l3Points.mono _ _ _)
      | (with_reducible exact LeO.refl _)
      | (with_reducible exact LeO.none _)
      | (with_reducible refine LeO.ite ?_ ?_)
      | (with_reducible refine LeO.bind ?_ (fun _ => ?_))
      | exact ih0 _ _ _ _ _
      | exact spec_l3Join.mono _ _ _ _
      | exact spec_l3Points.mono _ _ _
      | exact LeO.none _
      | refine LeO.ite ?_ ?_
      | refine LeO.bind ?_ (fun _ => ?_)
theorem spec_l5Line.mono : ∀ a0 a1 a2 k, LeO (spec_l5Line.f k a0 a1 a2) (spec_l5Line.f (k + 1) a0 a1 a2) := by
  intro a0 a1 a2 k
  have ih0 := spec_l5Line.mono_l k
  unfold spec_l5Line.f
  repeat' first
      | (with_reducible exact ih0 _ _ _ _ _)
      | (with_reducible exact spec_l3Join.mono _ _ _ _)
      | (with_reducible exact spec_l3Points.mono _ _ _)
      | (with_reducible exact LeO.refl _)
      | (with_reducible exact LeO.none _)
      | (with_reducible refine LeO.ite ?_ ?_)
      | (with_reducible refine LeO.bind ?_ (fun _ => ?_))
      | exact ih0 _ _ _ _ _
      | exact spec_l3Join.mono _ _ _ _
      | exact spec_l3Points.mono _ _ _
      | exact LeO.none _
      | refine LeO.ite ?_ ?_
      | refine LeO.bind ?_ (fun _ => ?_)
set_option maxHeartbeats 8000000 in
set_option maxRecDepth 100000 in
theorem spec_l5Line.calls (k : Nat) (A0 : Option Addr) (c0 : Nat) (l0 : List Int) (A1 : Option Addr) (c1 : Nat) (l1 : List Int) (a2 : Int) (r1 : Int) (r2 : Bool) (w : World) (hr0 : Kd.C (Kd.int .i64) w A0 l0.length l0) (hc0 : l0.length ≤ c0) (hr1 : Kd.C (Kd.int .i64) w A1 l1.length l1) (hc1 : l1.length ≤ c1) (h : spec_l5Line.f k l0 l1 a2 = some (r1, r2)) :
    Calls Try.prog 55 #[.slice A0 l0.length c0, .slice A1 l1.length c1, .int .i64 a2] w fun e w' => e = .returned (.tuple #[.int .i64 r1, .bool r2]) ∧ Below w.heap.size w w' := by
  have HR0 := Aside0.mk hr0
  have HC0 := Aside0.mk hc0
  clear hr0 hc0
  have HR1 := Aside0.mk hr1
  have HC1 := Aside0.mk hc1
  clear hr1 hc1
  have HB := Aside0.mk (Below.refl w.heap.size w)
  have H : ((spec_l3Points.f k l0 a2).bind fun t123 => (if 0 < (t123.length : Int) then (if 0 ≤ (rd t123 0) then (if (rd t123 0) < (l1.length : Int) then (if 1 < (t123.length : Int) then (if 0 ≤ (rd t123 1) then (if (rd t123 1) < (l1.length : Int) then ((spec_l3Join.f k l0 (rd l1 (rd t123 0)) (rd l1 (rd t123 1))).bind fun t130 => (spec_l5Line.l0 k l0 l1 t123 t130 2)) else (none)) else (none)) else (none)) else (none)) else (none)) else (none))) = some (r1, r2) := h
  clear h
  replace H := Option.bind_eq_some_iff.mp H
  obtain ⟨t123, A40, H⟩ := H
  replace H : (if 0 < (t123.length : Int) then (if 0 ≤ (rd t123 0) then (if (rd t123 0) < (l1.length : Int) then (if 1 < (t123.length : Int) then (if 0 ≤ (rd t123 1) then (if (rd t123 1) < (l1.length : Int) then ((spec_l3Join.f k l0 (rd l1 (rd t123 0)) (rd l1 (rd t123 1))).bind fun t130 => (spec_l5Line.l0 k l0 l1 t123 t130 2)) else (none)) else (none)) else (none)) else (none)) else (none)) else (none)) = some (r1, r2) := H
  have A4 := Aside0.mk A40
  clear A40
  by_cases c5 : 0 < (t123.length : Int)
  · rw [if_pos c5] at H
    have c5b0 : decide (0 < (t123.length : Int)) = true := decide_eq_true c5
    have c5b1 : decide (0 < t123.length) = true := decide_eq_true (by omega)
    clear c5
    by_cases c6 : 0 ≤ (rd t123 0)
    · rw [if_pos c6] at H
      have c6b0 : decide (0 ≤ (rd t123 0)) = true := decide_eq_true c6
      clear c6
      by_cases c7 : (rd t123 0) < (l1.length : Int)
      · rw [if_pos c7] at H
        have c7b0 : decide ((rd t123 0) < (l1.length : Int)) = true := decide_eq_true c7
        clear c7
        by_cases c8 : 1 < (t123.length : Int)
        · rw [if_pos c8] at H
          have c8b0 : decide (1 < (t123.length : Int)) = true := decide_eq_true c8
          have c8b1 : decide (1 < t123.length) = true := decide_eq_true (by omega)
          clear c8
          by_cases c9 : 0 ≤ (rd t123 1)
          · rw [if_pos c9] at H
            have c9b0 : decide (0 ≤ (rd t123 1)) = true := decide_eq_true c9
            clear c9
            by_cases c10 : (rd t123 1) < (l1.length : Int)
            · rw [if_pos c10] at H
              have c10b0 : decide ((rd t123 1) < (l1.length : Int)) = true := decide_eq_true c10
              clear c10
              replace H := Option.bind_eq_some_iff.mp H
              obtain ⟨t130, A110, H⟩ := H
              replace H : (spec_l5Line.l0 k l0 l1 t123 t130 2) = some (r1, r2) := H
              have A11 := Aside0.mk A110
              clear A110
              have H' := Aside0.mk H
              clear H
              go_enter Try.func55, Try.ntmps55
              go_wp2_with (first | (go_at_call 106; (with_reducible refine (spec_l3Points.calls k _ _ l0 a2 t123 _ ?side1 ?side2 A4.out).mono ?_); (case side1 => repeat (first | exact HR0.out | (with_reducible refine Kd.C_alloc ?_ _) | (with_reducible refine Kd.C_drewN ?_ _) | (with_reducible refine Kd.C_drew ?_))); (case side2 => exact HC0.out); rintro e w12 ⟨v124, rfl, ho0, hb⟩; have n0_ := Aside0.mk (Kd.R_lower ho0 (below_size (by repeat (first | (with_reducible first | exact HB.out | apply below_alloc | apply pw_below_drewN | apply below_drew1) | exact HB.out)))); have n1_ := Aside0.mk (below_step (by repeat (first | (with_reducible first | exact HB.out | apply below_alloc | apply pw_below_drewN | apply below_drew1) | exact HB.out)) hb); clear HB; have HO125 := n0_; have HB := n1_; clear n0_ n1_; (try clear hb); (try clear hb2); (try clear hk); (try clear hi); (try clear ho0); obtain ⟨Ao13, co13, eo13⟩ := Kd.R_slice HO125.out; subst eo13; have p126 : 0 ≤ (0 : Int) := (by omega); have q126 : 0 < (t123.length : Int) := of_decide_eq_true (by first | (with_reducible assumption) | assumption); obtain ⟨ad126, e126, hx126_0⟩ := Kd.at_int (Kd.R_reads' HO125.out).2.2 0 p126 q126; cases e126; have qi126 : (0 < t123.length) = True := eq_true (by omega); (try rw [show ((0 : Int)).toNat = 0 from rfl] at hx126_0); (try rw [Addr.add_zero'] at hx126_0); replace p126 := eq_true p126; replace q126 := eq_true q126; have p127 : 0 ≤ ((rd t123 0) : Int) := of_decide_eq_true (by first | (with_reducible assumption) | assumption); have q127 : (rd t123 0) < (l1.length : Int) := of_decide_eq_true (by first | (with_reducible assumption) | assumption); obtain ⟨ad127, e127, hx127_0⟩ := Kd.at_int HR1.out (rd t123 0) p127 q127; cases e127; replace hx127_0 := (HB.out.cell (World.block_lt_of_cell? w _ hx127_0)).trans hx127_0; replace p127 := eq_true p127; replace q127 := eq_true q127; have p128 : 0 ≤ (1 : Int) := (by omega); have q128 : 1 < (t123.length : Int) := of_decide_eq_true (by first | (with_reducible assumption) | assumption); obtain ⟨ad128, e128, hx128_0⟩ := Kd.at_int (Kd.R_reads' HO125.out).2.2 1 p128 q128; obtain rfl : ad126 = ad128 := (by injection e128); (try simp only [show (1 : Int).toNat = 1 from rfl, Nat.reduceMul, Nat.reduceEqDiff, Go.Addr.add, ↓reduceIte] at hx128_0); have qi128 : (1 < t123.length) = True := eq_true (by omega); (try rw [show ((1 : Int)).toNat = 1 from rfl] at hx128_0); replace p128 := eq_true p128; replace q128 := eq_true q128; have p129 : 0 ≤ ((rd t123 1) : Int) := of_decide_eq_true (by first | (with_reducible assumption) | assumption); have q129 : (rd t123 1) < (l1.length : Int) := of_decide_eq_true (by first | (with_reducible assumption) | assumption); obtain ⟨ad129, e129, hx129_0⟩ := Kd.at_int HR1.out (rd t123 1) p129 q129; obtain rfl : ad127 = ad129 := (by injection e129); replace hx129_0 := (HB.out.cell (World.block_lt_of_cell? w _ hx129_0)).trans hx129_0; replace p129 := eq_true p129; replace q129 := eq_true q129) | (go_at_call 69; (with_reducible refine (spec_l3Join.calls k _ _ l0 (rd l1 (rd t123 0)) (rd l1 (rd t123 1)) t130 _ ?side1 ?side2 A11.out).mono ?_); (case side1 => repeat (first | exact (Kd.C_below HR0.out HB.out) | (with_reducible refine Kd.C_alloc ?_ _) | (with_reducible refine Kd.C_drewN ?_ _) | (with_reducible refine Kd.C_drew ?_))); (case side2 => exact HC0.out); rintro e w' ⟨rfl, ⟨nd, rfl⟩⟩; (try first | exact ⟨rfl, _, World.drewN_drewN _ _ _⟩ | exact ⟨rfl, _, Eq.trans (World.drewN_drewN _ _ _) (congrArg (World.drewN _) (Nat.add_assoc _ _ _))⟩)))
              repeat (go_quiet (first | (go_at_call 106; (with_reducible refine (spec_l3Points.calls k _ _ l0 a2 t123 _ ?side1 ?side2 A4.out).mono ?_); (case side1 => repeat (first | exact HR0.out | (with_reducible refine Kd.C_alloc ?_ _) | (with_reducible refine Kd.C_drewN ?_ _) | (with_reducible refine Kd.C_drew ?_))); (case side2 => exact HC0.out); rintro e w12 ⟨v124, rfl, ho0, hb⟩; have n0_ := Aside0.mk (Kd.R_lower ho0 (below_size (by repeat (first | (with_reducible first | exact HB.out | apply below_alloc | apply pw_below_drewN | apply below_drew1) | exact HB.out)))); have n1_ := Aside0.mk (below_step (by repeat (first | (with_reducible first | exact HB.out | apply below_alloc | apply pw_below_drewN | apply below_drew1) | exact HB.out)) hb); clear HB; have HO125 := n0_; have HB := n1_; clear n0_ n1_; (try clear hb); (try clear hb2); (try clear hk); (try clear hi); (try clear ho0); obtain ⟨Ao13, co13, eo13⟩ := Kd.R_slice HO125.out; subst eo13; have p126 : 0 ≤ (0 : Int) := (by omega); have q126 : 0 < (t123.length : Int) := of_decide_eq_true (by first | (with_reducible assumption) | assumption); obtain ⟨ad126, e126, hx126_0⟩ := Kd.at_int (Kd.R_reads' HO125.out).2.2 0 p126 q126; cases e126; have qi126 : (0 < t123.length) = True := eq_true (by omega); (try rw [show ((0 : Int)).toNat = 0 from rfl] at hx126_0); (try rw [Addr.add_zero'] at hx126_0); replace p126 := eq_true p126; replace q126 := eq_true q126; have p127 : 0 ≤ ((rd t123 0) : Int) := of_decide_eq_true (by first | (with_reducible assumption) | assumption); have q127 : (rd t123 0) < (l1.length : Int) := of_decide_eq_true (by first | (with_reducible assumption) | assumption); obtain ⟨ad127, e127, hx127_0⟩ := Kd.at_int HR1.out (rd t123 0) p127 q127; cases e127; replace hx127_0 := (HB.out.cell (World.block_lt_of_cell? w _ hx127_0)).trans hx127_0; replace p127 := eq_true p127; replace q127 := eq_true q127; have p128 : 0 ≤ (1 : Int) := (by omega); have q128 : 1 < (t123.length : Int) := of_decide_eq_true (by first | (with_reducible assumption) | assumption); obtain ⟨ad128, e128, hx128_0⟩ := Kd.at_int (Kd.R_reads' HO125.out).2.2 1 p128 q128; obtain rfl : ad126 = ad128 := (by injection e128); (try simp only [show (1 : Int).toNat = 1 from rfl, Nat.reduceMul, Nat.reduceEqDiff, Go.Addr.add, ↓reduceIte] at hx128_0); have qi128 : (1 < t123.length) = True := eq_true (by omega); (try rw [show ((1 : Int)).toNat = 1 from rfl] at hx128_0); replace p128 := eq_true p128; replace q128 := eq_true q128; have p129 : 0 ≤ ((rd t123 1) : Int) := of_decide_eq_true (by first | (with_reducible assumption) | assumption); have q129 : (rd t123 1) < (l1.length : Int) := of_decide_eq_true (by first | (with_reducible assumption) | assumption); obtain ⟨ad129, e129, hx129_0⟩ := Kd.at_int HR1.out (rd t123 1) p129 q129; obtain rfl : ad127 = ad129 := (by injection e129); replace hx129_0 := (HB.out.cell (World.block_lt_of_cell? w _ hx129_0)).trans hx129_0; replace p129 := eq_true p129; replace q129 := eq_true q129) | (go_at_call 69; (with_reducible refine (spec_l3Join.calls k _ _ l0 (rd l1 (rd t123 0)) (rd l1 (rd t123 1)) t130 _ ?side1 ?side2 A11.out).mono ?_); (case side1 => repeat (first | exact (Kd.C_below HR0.out HB.out) | (with_reducible refine Kd.C_alloc ?_ _) | (with_reducible refine Kd.C_drewN ?_ _) | (with_reducible refine Kd.C_drew ?_))); (case side2 => exact HC0.out); rintro e w' ⟨rfl, ⟨nd, rfl⟩⟩; (try first | exact ⟨rfl, _, World.drewN_drewN _ _ _⟩ | exact ⟨rfl, _, Eq.trans (World.drewN_drewN _ _ _) (congrArg (World.drewN _) (Nat.add_assoc _ _ _))⟩))); try go_wp2_with (first | (go_at_call 106; (with_reducible refine (spec_l3Points.calls k _ _ l0 a2 t123 _ ?side1 ?side2 A4.out).mono ?_); (case side1 => repeat (first | exact HR0.out | (with_reducible refine Kd.C_alloc ?_ _) | (with_reducible refine Kd.C_drewN ?_ _) | (with_reducible refine Kd.C_drew ?_))); (case side2 => exact HC0.out); rintro e w12 ⟨v124, rfl, ho0, hb⟩; have n0_ := Aside0.mk (Kd.R_lower ho0 (below_size (by repeat (first | (with_reducible first | exact HB.out | apply below_alloc | apply pw_below_drewN | apply below_drew1) | exact HB.out)))); have n1_ := Aside0.mk (below_step (by repeat (first | (with_reducible first | exact HB.out | apply below_alloc | apply pw_below_drewN | apply below_drew1) | exact HB.out)) hb); clear HB; have HO125 := n0_; have HB := n1_; clear n0_ n1_; (try clear hb); (try clear hb2); (try clear hk); (try clear hi); (try clear ho0); obtain ⟨Ao13, co13, eo13⟩ := Kd.R_slice HO125.out; subst eo13; have p126 : 0 ≤ (0 : Int) := (by omega); have q126 : 0 < (t123.length : Int) := of_decide_eq_true (by first | (with_reducible assumption) | assumption); obtain ⟨ad126, e126, hx126_0⟩ := Kd.at_int (Kd.R_reads' HO125.out).2.2 0 p126 q126; cases e126; have qi126 : (0 < t123.length) = True := eq_true (by omega); (try rw [show ((0 : Int)).toNat = 0 from rfl] at hx126_0); (try rw [Addr.add_zero'] at hx126_0); replace p126 := eq_true p126; replace q126 := eq_true q126; have p127 : 0 ≤ ((rd t123 0) : Int) := of_decide_eq_true (by first | (with_reducible assumption) | assumption); have q127 : (rd t123 0) < (l1.length : Int) := of_decide_eq_true (by first | (with_reducible assumption) | assumption); obtain ⟨ad127, e127, hx127_0⟩ := Kd.at_int HR1.out (rd t123 0) p127 q127; cases e127; replace hx127_0 := (HB.out.cell (World.block_lt_of_cell? w _ hx127_0)).trans hx127_0; replace p127 := eq_true p127; replace q127 := eq_true q127; have p128 : 0 ≤ (1 : Int) := (by omega); have q128 : 1 < (t123.length : Int) := of_decide_eq_true (by first | (with_reducible assumption) | assumption); obtain ⟨ad128, e128, hx128_0⟩ := Kd.at_int (Kd.R_reads' HO125.out).2.2 1 p128 q128; obtain rfl : ad126 = ad128 := (by injection e128); (try simp only [show (1 : Int).toNat = 1 from rfl, Nat.reduceMul, Nat.reduceEqDiff, Go.Addr.add, ↓reduceIte] at hx128_0); have qi128 : (1 < t123.length) = True := eq_true (by omega); (try rw [show ((1 : Int)).toNat = 1 from rfl] at hx128_0); replace p128 := eq_true p128; replace q128 := eq_true q128; have p129 : 0 ≤ ((rd t123 1) : Int) := of_decide_eq_true (by first | (with_reducible assumption) | assumption); have q129 : (rd t123 1) < (l1.length : Int) := of_decide_eq_true (by first | (with_reducible assumption) | assumption); obtain ⟨ad129, e129, hx129_0⟩ := Kd.at_int HR1.out (rd t123 1) p129 q129; obtain rfl : ad127 = ad129 := (by injection e129); replace hx129_0 := (HB.out.cell (World.block_lt_of_cell? w _ hx129_0)).trans hx129_0; replace p129 := eq_true p129; replace q129 := eq_true q129) | (go_at_call 69; (with_reducible refine (spec_l3Join.calls k _ _ l0 (rd l1 (rd t123 0)) (rd l1 (rd t123 1)) t130 _ ?side1 ?side2 A11.out).mono ?_); (case side1 => repeat (first | exact (Kd.C_below HR0.out HB.out) | (with_reducible refine Kd.C_alloc ?_ _) | (with_reducible refine Kd.C_drewN ?_ _) | (with_reducible refine Kd.C_drew ?_))); (case side2 => exact HC0.out); rintro e w' ⟨rfl, ⟨nd, rfl⟩⟩; (try first | exact ⟨rfl, _, World.drewN_drewN _ _ _⟩ | exact ⟨rfl, _, Eq.trans (World.drewN_drewN _ _ _) (congrArg (World.drewN _) (Nat.add_assoc _ _ _))⟩))))
              go_loopg [10] k (fun kq v10 w' => ∃ (x10_1 : Int), v10 = .int .i64 x10_1 ∧ Aside0 (spec_l5Line.l0 kq l0 l1 t123 t130 x10_1 = some (r1, r2)) ∧ Aside0 (kq ≤ k) ∧ Aside0 (Kd.R (Kd.int .i64) 3 w' w.heap.size (fun _ => True) (.slice (some ad126) t123.length co13) t123) ∧ Aside0 (Below w.heap.size w w'))
              case atStart => exact ⟨(2), (by first | rfl | (simp; done) | (simp [*]; done)), H', ⟨Nat.le_refl _⟩, ⟨by (with_reducible repeat (first | apply Kd.R_alloc | apply Kd.R_drewN | apply Kd.R_drew)); exact HO125.out⟩, ⟨by repeat (first | (with_reducible first | exact HB.out | apply below_alloc | apply pw_below_drewN | apply below_drew1) | exact HB.out)⟩⟩
              case round =>
                clear H'
                try clear c1
                try clear p1
                try clear q1
                try clear hx1
                try clear qi1
                try clear p2
                try clear c5
                try clear c5b0
                try clear c5b1
                try clear c6
                try clear c6b0
                try clear c7
                try clear c7b0
                try clear c8
                try clear c8b0
                try clear c8b1
                try clear c9
                try clear c9b0
                try clear c10
                try clear c10b0
                try clear p12
                try clear q12
                try clear hx12
                try clear qi12
                try clear hx126_0
                try clear hx127_0
                try clear hx128_0
                try clear hx129_0
                try clear p126
                try clear p127
                try clear p128
                try clear p129
                try clear q126
                try clear q127
                try clear q128
                try clear q129
                obtain ⟨x10_1, rfl, HA, HK1, HO_8, HB⟩ := hrel
                cases gk with
                | zero => exact absurd HA.out (by simp [spec_l5Line.l0])
                | succ k1 =>
                  have H := HA.out
                  clear HA
                  simp only [spec_l5Line.l0] at H
                  by_cases c14 : x10_1 < (t123.length : Int)
                  · rw [if_pos c14] at H
                    have c14b0 : decide (x10_1 < (t123.length : Int)) = true := decide_eq_true c14
                    clear c14
                    by_cases c15 : 0 ≤ x10_1
                    · rw [if_pos c15] at H
                      have c15b0 : decide (0 ≤ x10_1) = true := decide_eq_true c15
                      clear c15
                      by_cases c16 : 0 ≤ (rd t123 x10_1)
                      · rw [if_pos c16] at H
                        have c16b0 : decide (0 ≤ (rd t123 x10_1)) = true := decide_eq_true c16
                        clear c16
                        by_cases c17 : (rd t123 x10_1) < (l1.length : Int)
                        · rw [if_pos c17] at H
                          have c17b0 : decide ((rd t123 x10_1) < (l1.length : Int)) = true := decide_eq_true c17
                          clear c17
                          replace H := Option.bind_eq_some_iff.mp H
                          obtain ⟨t133, A180, H⟩ := H
                          replace H : (if t133 = true then (spec_l5Line.l0 k1 l0 l1 t123 t130 (wrap64 (x10_1 + 1))) else (some (0, false))) = some (r1, r2) := H
                          have A18 := Aside0.mk A180
                          clear A180
                          by_cases c19 : t133 = true
                          · subst c19
                            have H1 : (spec_l5Line.l0 k1 l0 l1 t123 t130 (wrap64 (x10_1 + 1))) = some (r1, r2) := by rw [if_pos rfl] at H; exact H
                            clear H
                            have H := H1
                            clear H1
                            have H' := Aside0.mk H
                            clear H
                            have p131 : 0 ≤ (x10_1 : Int) := of_decide_eq_true (by first | (with_reducible assumption) | assumption)
                            have q131 : x10_1 < (t123.length : Int) := of_decide_eq_true (by first | (with_reducible assumption) | assumption)
                            obtain ⟨ad131, e131, hx131_0⟩ := Kd.at_int (Kd.R_reads' HO_8.out).2.2 x10_1 p131 q131
                            obtain rfl : ad126 = ad131 := (by injection e131)
                            replace p131 := eq_true p131
                            replace q131 := eq_true q131
                            have p132 : 0 ≤ ((rd t123 x10_1) : Int) := of_decide_eq_true (by first | (with_reducible assumption) | assumption)
                            have q132 : (rd t123 x10_1) < (l1.length : Int) := of_decide_eq_true (by first | (with_reducible assumption) | assumption)
                            obtain ⟨ad132, e132, hx132_0⟩ := Kd.at_int HR1.out (rd t123 x10_1) p132 q132
                            obtain rfl : ad127 = ad132 := (by injection e132)
                            replace hx132_0 := (HB.out.cell (World.block_lt_of_cell? w _ hx132_0)).trans hx132_0
                            replace p132 := eq_true p132
                            replace q132 := eq_true q132
                            go_wp2_with (first | (go_at_call 54; (with_reducible refine (spec_l3On.calls _ _ l0 (rd l1 (rd t123 x10_1)) t130 true _ ?side1 ?side2 A18.out).mono ?_); (case side1 => repeat (first | exact (Kd.C_below HR0.out HB.out) | (with_reducible refine Kd.C_alloc ?_ _) | (with_reducible refine Kd.C_drewN ?_ _) | (with_reducible refine Kd.C_drew ?_))); (case side2 => exact HC0.out); rintro e w' ⟨rfl, ⟨nd, rfl⟩⟩; (try first | exact ⟨rfl, _, World.drewN_drewN _ _ _⟩ | exact ⟨rfl, _, Eq.trans (World.drewN_drewN _ _ _) (congrArg (World.drewN _) (Nat.add_assoc _ _ _))⟩)))
                            repeat (go_quiet (first | (go_at_call 54; (with_reducible refine (spec_l3On.calls _ _ l0 (rd l1 (rd t123 x10_1)) t130 true _ ?side1 ?side2 A18.out).mono ?_); (case side1 => repeat (first | exact (Kd.C_below HR0.out HB.out) | (with_reducible refine Kd.C_alloc ?_ _) | (with_reducible refine Kd.C_drewN ?_ _) | (with_reducible refine Kd.C_drew ?_))); (case side2 => exact HC0.out); rintro e w' ⟨rfl, ⟨nd, rfl⟩⟩; (try first | exact ⟨rfl, _, World.drewN_drewN _ _ _⟩ | exact ⟨rfl, _, Eq.trans (World.drewN_drewN _ _ _) (congrArg (World.drewN _) (Nat.add_assoc _ _ _))⟩))); try go_wp2_with (first | (go_at_call 54; (with_reducible refine (spec_l3On.calls _ _ l0 (rd l1 (rd t123 x10_1)) t130 true _ ?side1 ?side2 A18.out).mono ?_); (case side1 => repeat (first | exact (Kd.C_below HR0.out HB.out) | (with_reducible refine Kd.C_alloc ?_ _) | (with_reducible refine Kd.C_drewN ?_ _) | (with_reducible refine Kd.C_drew ?_))); (case side2 => exact HC0.out); rintro e w' ⟨rfl, ⟨nd, rfl⟩⟩; (try first | exact ⟨rfl, _, World.drewN_drewN _ _ _⟩ | exact ⟨rfl, _, Eq.trans (World.drewN_drewN _ _ _) (congrArg (World.drewN _) (Nat.add_assoc _ _ _))⟩))))
                            go_roundg k1
                            case measure => have := HK1.out; omega
                            case rel => exact ⟨(wrap64 (x10_1 + 1)), (by first | rfl | (simp; done) | (simp [*]; done)), H', ⟨by have := HK1.out; omega⟩, ⟨by (with_reducible repeat (first | apply Kd.R_alloc | apply Kd.R_drewN | apply Kd.R_drew)); exact HO_8.out⟩, ⟨by repeat (first | (with_reducible first | exact HB.out | apply below_alloc | apply pw_below_drewN | apply below_drew1) | exact HB.out)⟩⟩
                          · replace c19 := Bool.eq_false_iff.mpr c19
                            subst c19
                            have H1 : (some (0, false)) = some (r1, r2) := by rw [if_neg (show ¬ (false = true) by decide)] at H; exact H
                            clear H
                            have H := H1
                            clear H1
                            simp only [Option.some.injEq, Prod.mk.injEq] at H
                            obtain ⟨rfl, rfl⟩ := H
                            have p131 : 0 ≤ (x10_1 : Int) := of_decide_eq_true (by first | (with_reducible assumption) | assumption)
                            have q131 : x10_1 < (t123.length : Int) := of_decide_eq_true (by first | (with_reducible assumption) | assumption)
                            obtain ⟨ad131, e131, hx131_0⟩ := Kd.at_int (Kd.R_reads' HO_8.out).2.2 x10_1 p131 q131
                            obtain rfl : ad126 = ad131 := (by injection e131)
                            replace p131 := eq_true p131
                            replace q131 := eq_true q131
                            have p132 : 0 ≤ ((rd t123 x10_1) : Int) := of_decide_eq_true (by first | (with_reducible assumption) | assumption)
                            have q132 : (rd t123 x10_1) < (l1.length : Int) := of_decide_eq_true (by first | (with_reducible assumption) | assumption)
                            obtain ⟨ad132, e132, hx132_0⟩ := Kd.at_int HR1.out (rd t123 x10_1) p132 q132
                            obtain rfl : ad127 = ad132 := (by injection e132)
                            replace hx132_0 := (HB.out.cell (World.block_lt_of_cell? w _ hx132_0)).trans hx132_0
                            replace p132 := eq_true p132
                            replace q132 := eq_true q132
                            go_wp2_with (first | (go_at_call 54; (with_reducible refine (spec_l3On.calls _ _ l0 (rd l1 (rd t123 x10_1)) t130 false _ ?side1 ?side2 A18.out).mono ?_); (case side1 => repeat (first | exact (Kd.C_below HR0.out HB.out) | (with_reducible refine Kd.C_alloc ?_ _) | (with_reducible refine Kd.C_drewN ?_ _) | (with_reducible refine Kd.C_drew ?_))); (case side2 => exact HC0.out); rintro e w' ⟨rfl, ⟨nd, rfl⟩⟩; (try first | exact ⟨rfl, _, World.drewN_drewN _ _ _⟩ | exact ⟨rfl, _, Eq.trans (World.drewN_drewN _ _ _) (congrArg (World.drewN _) (Nat.add_assoc _ _ _))⟩)))
                            repeat (go_quiet (first | (go_at_call 54; (with_reducible refine (spec_l3On.calls _ _ l0 (rd l1 (rd t123 x10_1)) t130 false _ ?side1 ?side2 A18.out).mono ?_); (case side1 => repeat (first | exact (Kd.C_below HR0.out HB.out) | (with_reducible refine Kd.C_alloc ?_ _) | (with_reducible refine Kd.C_drewN ?_ _) | (with_reducible refine Kd.C_drew ?_))); (case side2 => exact HC0.out); rintro e w' ⟨rfl, ⟨nd, rfl⟩⟩; (try first | exact ⟨rfl, _, World.drewN_drewN _ _ _⟩ | exact ⟨rfl, _, Eq.trans (World.drewN_drewN _ _ _) (congrArg (World.drewN _) (Nat.add_assoc _ _ _))⟩))); try go_wp2_with (first | (go_at_call 54; (with_reducible refine (spec_l3On.calls _ _ l0 (rd l1 (rd t123 x10_1)) t130 false _ ?side1 ?side2 A18.out).mono ?_); (case side1 => repeat (first | exact (Kd.C_below HR0.out HB.out) | (with_reducible refine Kd.C_alloc ?_ _) | (with_reducible refine Kd.C_drewN ?_ _) | (with_reducible refine Kd.C_drew ?_))); (case side2 => exact HC0.out); rintro e w' ⟨rfl, ⟨nd, rfl⟩⟩; (try first | exact ⟨rfl, _, World.drewN_drewN _ _ _⟩ | exact ⟨rfl, _, Eq.trans (World.drewN_drewN _ _ _) (congrArg (World.drewN _) (Nat.add_assoc _ _ _))⟩))))
                            go_ret2
                            exact ⟨by first | rfl | (simp [errW_none, errW_some] <;> rfl) | (simp [*, errW_none, errW_some] <;> rfl), by repeat (first | (with_reducible first | exact HB.out | apply below_alloc | apply pw_below_drewN | apply below_drew1) | exact HB.out)⟩
                        · rw [if_neg c17] at H
                          exact absurd H (by simp)
                      · rw [if_neg c16] at H
                        exact absurd H (by simp)
                    · rw [if_neg c15] at H
                      exact absurd H (by simp)
                  · rw [if_neg c14] at H
                    have c14b0 : decide (x10_1 < (t123.length : Int)) = false := decide_eq_false c14
                    clear c14
                    simp only [Option.some.injEq, Prod.mk.injEq] at H
                    obtain ⟨rfl, rfl⟩ := H
                    go_wp2
                    repeat (go_quiet (fail); try go_wp2)
                    go_ret2
                    exact ⟨by first | rfl | (simp [errW_none, errW_some] <;> rfl) | (simp [*, errW_none, errW_some] <;> rfl), by repeat (first | (with_reducible first | exact HB.out | apply below_alloc | apply pw_below_drewN | apply below_drew1) | exact HB.out)⟩
            · rw [if_neg c10] at H
              exact absurd H (by simp)
          · rw [if_neg c9] at H
            exact absurd H (by simp)
        · rw [if_neg c8] at H
          exact absurd H (by simp)
      · rw [if_neg c7] at H
        exact absurd H (by simp)
    · rw [if_neg c6] at H
      exact absurd H (by simp)
  · rw [if_neg c5] at H
    exact absurd H (by simp)

end Go.Proofs.Ytckipgldmkboiaa.P

namespace Go.Proofs.Ytckipgldmkboiaa.P
open Go.RowKit Go.Proofs.YtckipgldmkboiaaW.PrintWords Go.Proofs.YtckipgldmkboiaaW.PrintLast Go.Proofs.YtckipgldmkboiaaW.PrintMore
attribute [local go_sem] max2_int min2_int max_two min_two max_three min_three max_four min_four   -- for this text's walks alone
set_option linter.unusedVariables false
set_option linter.unusedSimpArgs false

/-! ### spec_l5In: function 103 -/
def spec_l5In.l0 : Nat → List Int → List Int → Int → Option (Bool)
  | 0, _, _, _ => none
  | k + 1, x0, x1, x5 => if x5 < 91 then ((spec_l5Line.f k x0 x1 x5).bind fun bt145 => (if bt145.2 = true then (spec_l5In.l0 k x0 x1 (wrap64 (x5 + 1))) else (some false))) else (some true)
def spec_l5In.f (k : Nat) (l0 : List Int) (l1 : List Int) : Option (Bool) := (spec_l5Perm.f k l1).bind fun t144 => (if t144 = true then (spec_l5In.l0 k l0 l1 0) else (some false))
theorem spec_l5In.mono_l : ∀ k, (∀ y0 y1 y2, LeO (spec_l5In.l0 k y0 y1 y2) (spec_l5In.l0 (k + 1) y0 y1 y2))
  | 0 => fun _ _ _ r h => by simp [spec_l5In.l0] at h
  | k + 1 => by
    have ih0 := spec_l5In.mono_l k
    · intro y0 y1 y2
      unfold spec_l5In.l0
      repeat' first
      | (with_reducible exact ih0 _ _ _)
      | (with_reducible exact spec_l5Line.mono _ _ _ _)
      | (with_reducible exact spec_l5Perm.mono _ _)
      | (with_reducible exact LeO.refl _)
      | (with_reducible exact LeO.none _)
      | (with_reducible refine LeO.ite ?_ ?_)
      | (with_reducible refine LeO.bind ?_ (fun _ => ?_))
      | exact ih0 _ _ _
      | exact spec_l5Line.mono _ _ _ _
      | exact spec_l5Perm.mono _ _
      | exact LeO.none _
      | refine LeO.ite ?_ ?_
      | refine LeO.bind ?_ (fun _ => ?_)
theorem spec_l5In.mono : ∀ a0 a1 k, LeO (spec_l5In.f k a0 a1) (spec_l5In.f (k + 1) a0 a1) := by
  intro a0 a1 k
  have ih0 := spec_l5In.mono_l k
  unfold spec_l5In.f
  repeat' first
      | (with_reducible exact ih0 _ _ _)
      | (with_reducible exact spec_l5Line.mono _ _ _ _)
      | (with_reducible exact spec_l5Perm.mono _ _)
      | (with_reducible exact LeO.refl _)
      | (with_reducible exact LeO.none _)
      | (with_reducible refine LeO.ite ?_ ?_)
      | (with_reducible refine LeO.bind ?_ (fun _ => ?_))
      | exact ih0 _ _ _
      | exact spec_l5Line.mono _ _ _ _
      | exact spec_l5Perm.mono _ _
      | exact LeO.none _
      | refine LeO.ite ?_ ?_
      | refine LeO.bind ?_ (fun _ => ?_)
set_option maxHeartbeats 8000000 in
set_option maxRecDepth 100000 in
theorem spec_l5In.calls (k : Nat) (A0 : Option Addr) (c0 : Nat) (l0 : List Int) (A1 : Option Addr) (c1 : Nat) (l1 : List Int) (r : Bool) (w : World) (hr0 : Kd.C (Kd.int .i64) w A0 l0.length l0) (hc0 : l0.length ≤ c0) (hr1 : Kd.C (Kd.int .i64) w A1 l1.length l1) (hc1 : l1.length ≤ c1) (h : spec_l5In.f k l0 l1 = some r) :
    Calls Try.prog 103 #[.slice A0 l0.length c0, .slice A1 l1.length c1] w fun e w' => e = .returned (.bool r) ∧ Below w.heap.size w w' := by
  have HR0 := Aside0.mk hr0
  have HC0 := Aside0.mk hc0
  clear hr0 hc0
  have HR1 := Aside0.mk hr1
  have HC1 := Aside0.mk hc1
  clear hr1 hc1
  have HB := Aside0.mk (Below.refl w.heap.size w)
  have H : ((spec_l5Perm.f k l1).bind fun t144 => (if t144 = true then (spec_l5In.l0 k l0 l1 0) else (some false))) = some r := h
  clear h
  replace H := Option.bind_eq_some_iff.mp H
  obtain ⟨t144, A30, H⟩ := H
  replace H : (if t144 = true then (spec_l5In.l0 k l0 l1 0) else (some false)) = some r := H
  have A3 := Aside0.mk A30
  clear A30
  by_cases c4 : t144 = true
  · subst c4
    have H1 : (spec_l5In.l0 k l0 l1 0) = some r := by rw [if_pos rfl] at H; exact H
    clear H
    have H := H1
    clear H1
    have H' := Aside0.mk H
    clear H
    go_enter Try.func103, Try.ntmps103
    go_wp2_with (first | ((with_reducible refine gate_callee (f := 144) rfl ?_); refine goesL_ (some 9) rfl rfl Try.func144 (by kernel_rfl) rfl #[.slice A1 l1.length c1] rfl (by (try simp only [List.map_toArray, List.map_cons, List.map_nil]); first | done | rfl | (simp only [List.length_drop, List.length_take]; rfl)) ?_; (with_reducible refine (spec_l5Perm.calls k _ _ l1 true _ ?side1 ?side2 A3.out).mono ?_); (case side1 => repeat (first | exact HR1.out | (with_reducible refine Kd.C_alloc ?_ _) | (with_reducible refine Kd.C_drewN ?_ _) | (with_reducible refine Kd.C_drew ?_))); (case side2 => exact HC1.out); rintro e w5 ⟨rfl, hb⟩; refine ⟨_, rfl, ?_⟩; have n0_ := Aside0.mk (below_step (by repeat (first | (with_reducible first | exact HB.out | apply below_alloc | apply pw_below_drewN | apply below_drew1) | exact HB.out)) hb); clear HB; have HB := n0_; clear n0_; (try clear hb); (try clear hb2); (try clear hk); (try clear hi)))
    go_loopg [5] k (fun kq v5 w' => ∃ (x5_1 : Int), v5 = .int .i64 x5_1 ∧ Aside0 (spec_l5In.l0 kq l0 l1 x5_1 = some r) ∧ Aside0 (kq ≤ k) ∧ Aside0 (Below w.heap.size w w'))
    case atStart => exact ⟨(0), (by first | rfl | (simp; done) | (simp [*]; done)), H', ⟨Nat.le_refl _⟩, ⟨by repeat (first | (with_reducible first | exact HB.out | apply below_alloc | apply pw_below_drewN | apply below_drew1) | exact HB.out)⟩⟩
    case round =>
      clear H'
      try clear c1
      try clear p2
      try clear c4
      obtain ⟨x5_1, rfl, HA, HK1, HB⟩ := hrel
      cases gk with
      | zero => exact absurd HA.out (by simp [spec_l5In.l0])
      | succ k1 =>
        have H := HA.out
        clear HA
        simp only [spec_l5In.l0] at H
        by_cases c6 : x5_1 < 91
        · rw [if_pos c6] at H
          have c6b0 : decide (x5_1 < 91) = true := decide_eq_true c6
          clear c6
          replace H := Option.bind_eq_some_iff.mp H
          obtain ⟨⟨t145, t146⟩, A70, H⟩ := H
          replace H : (if t146 = true then (spec_l5In.l0 k1 l0 l1 (wrap64 (x5_1 + 1))) else (some false)) = some r := H
          have A7 := Aside0.mk A70
          clear A70
          by_cases c8 : t146 = true
          · subst c8
            have H1 : (spec_l5In.l0 k1 l0 l1 (wrap64 (x5_1 + 1))) = some r := by rw [if_pos rfl] at H; exact H
            clear H
            have H := H1
            clear H1
            have H' := Aside0.mk H
            clear H
            go_wp2_with (first | ((with_reducible refine gate_callee (f := 55) rfl ?_); refine goesL_ (some 19) rfl rfl Try.func55 (by kernel_rfl) rfl #[.slice A0 l0.length c0, .slice A1 l1.length c1, .int .i64 x5_1] rfl (by (try simp only [List.map_toArray, List.map_cons, List.map_nil]); first | done | rfl | (simp only [List.length_drop, List.length_take]; rfl)) ?_; (with_reducible refine (spec_l5Line.calls k1 _ _ l0 _ _ l1 x5_1 t145 true _ ?side1 ?side2 ?side3 ?side4 A7.out).mono ?_); (case side1 => repeat (first | exact (Kd.C_below HR0.out HB.out) | (with_reducible refine Kd.C_alloc ?_ _) | (with_reducible refine Kd.C_drewN ?_ _) | (with_reducible refine Kd.C_drew ?_))); (case side2 => exact HC0.out); (case side3 => repeat (first | exact (Kd.C_below HR1.out HB.out) | (with_reducible refine Kd.C_alloc ?_ _) | (with_reducible refine Kd.C_drewN ?_ _) | (with_reducible refine Kd.C_drew ?_))); (case side4 => exact HC1.out); rintro e w9 ⟨rfl, hb⟩; refine ⟨_, rfl, ?_⟩; have n0_ := Aside0.mk (below_step (by repeat (first | (with_reducible first | exact HB.out | apply below_alloc | apply pw_below_drewN | apply below_drew1) | exact HB.out)) hb); clear HB; have HB := n0_; clear n0_; (try clear hb); (try clear hb2); (try clear hk); (try clear hi)))
            go_roundg k1
            case measure => have := HK1.out; omega
            case rel => exact ⟨(wrap64 (x5_1 + 1)), (by first | rfl | (simp; done) | (simp [*]; done)), H', ⟨by have := HK1.out; omega⟩, ⟨by repeat (first | (with_reducible first | exact HB.out | apply below_alloc | apply pw_below_drewN | apply below_drew1) | exact HB.out)⟩⟩
          · replace c8 := Bool.eq_false_iff.mpr c8
            subst c8
            have H1 : (some false) = some r := by rw [if_neg (show ¬ (false = true) by decide)] at H; exact H
            clear H
            have H := H1
            clear H1
            obtain rfl := Option.some.inj H
            go_wp2_with (first | ((with_reducible refine gate_callee (f := 55) rfl ?_); refine goesL_ (some 19) rfl rfl Try.func55 (by kernel_rfl) rfl #[.slice A0 l0.length c0, .slice A1 l1.length c1, .int .i64 x5_1] rfl (by (try simp only [List.map_toArray, List.map_cons, List.map_nil]); first | done | rfl | (simp only [List.length_drop, List.length_take]; rfl)) ?_; (with_reducible refine (spec_l5Line.calls k1 _ _ l0 _ _ l1 x5_1 t145 false _ ?side1 ?side2 ?side3 ?side4 A7.out).mono ?_); (case side1 => repeat (first | exact (Kd.C_below HR0.out HB.out) | (with_reducible refine Kd.C_alloc ?_ _) | (with_reducible refine Kd.C_drewN ?_ _) | (with_reducible refine Kd.C_drew ?_))); (case side2 => exact HC0.out); (case side3 => repeat (first | exact (Kd.C_below HR1.out HB.out) | (with_reducible refine Kd.C_alloc ?_ _) | (with_reducible refine Kd.C_drewN ?_ _) | (with_reducible refine Kd.C_drew ?_))); (case side4 => exact HC1.out); rintro e w10 ⟨rfl, hb⟩; refine ⟨_, rfl, ?_⟩; have n0_ := Aside0.mk (below_step (by repeat (first | (with_reducible first | exact HB.out | apply below_alloc | apply pw_below_drewN | apply below_drew1) | exact HB.out)) hb); clear HB; have HB := n0_; clear n0_; (try clear hb); (try clear hb2); (try clear hk); (try clear hi)))
            go_ret
            exact ⟨by first | rfl | (simp [errW_none, errW_some] <;> rfl) | (simp [*, errW_none, errW_some] <;> rfl), by repeat (first | (with_reducible first | exact HB.out | apply below_alloc | apply pw_below_drewN | apply below_drew1) | exact HB.out)⟩
        · rw [if_neg c6] at H
          have c6b0 : decide (x5_1 < 91) = false := decide_eq_false c6
          clear c6
          obtain rfl := Option.some.inj H
          go_wp2
          go_ret
          exact ⟨by first | rfl | (simp [errW_none, errW_some] <;> rfl) | (simp [*, errW_none, errW_some] <;> rfl), by repeat (first | (with_reducible first | exact HB.out | apply below_alloc | apply pw_below_drewN | apply below_drew1) | exact HB.out)⟩
  · replace c4 := Bool.eq_false_iff.mpr c4
    subst c4
    have H1 : (some false) = some r := by rw [if_neg (show ¬ (false = true) by decide)] at H; exact H
    clear H
    have H := H1
    clear H1
    obtain rfl := Option.some.inj H
    go_enter Try.func103, Try.ntmps103
    go_wp2_with (first | ((with_reducible refine gate_callee (f := 144) rfl ?_); refine goesL_ (some 9) rfl rfl Try.func144 (by kernel_rfl) rfl #[.slice A1 l1.length c1] rfl (by (try simp only [List.map_toArray, List.map_cons, List.map_nil]); first | done | rfl | (simp only [List.length_drop, List.length_take]; rfl)) ?_; (with_reducible refine (spec_l5Perm.calls k _ _ l1 false _ ?side1 ?side2 A3.out).mono ?_); (case side1 => repeat (first | exact HR1.out | (with_reducible refine Kd.C_alloc ?_ _) | (with_reducible refine Kd.C_drewN ?_ _) | (with_reducible refine Kd.C_drew ?_))); (case side2 => exact HC1.out); rintro e w11 ⟨rfl, hb⟩; refine ⟨_, rfl, ?_⟩; have n0_ := Aside0.mk (below_step (by repeat (first | (with_reducible first | exact HB.out | apply below_alloc | apply pw_below_drewN | apply below_drew1) | exact HB.out)) hb); clear HB; have HB := n0_; clear n0_; (try clear hb); (try clear hb2); (try clear hk); (try clear hi)))
    go_ret
    exact ⟨by first | rfl | (simp [errW_none, errW_some] <;> rfl) | (simp [*, errW_none, errW_some] <;> rfl), by repeat (first | (with_reducible first | exact HB.out | apply below_alloc | apply pw_below_drewN | apply below_drew1) | exact HB.out)⟩

end Go.Proofs.Ytckipgldmkboiaa.P

namespace Go.Proofs.Ytckipgldmkboiaa.P
open Go.RowKit Go.Proofs.YtckipgldmkboiaaW.PrintWords Go.Proofs.YtckipgldmkboiaaW.PrintLast Go.Proofs.YtckipgldmkboiaaW.PrintMore
attribute [local go_sem] max2_int min2_int max_two min_two max_three min_three max_four min_four   -- for this text's walks alone
set_option linter.unusedVariables false
set_option linter.unusedSimpArgs false

/-! ### spec_MoveIn: function 52 -/
def spec_MoveIn.f (k : Nat) (l0 : List Int) (l1 : List Int) : Option (Bool) := (spec_SystemIn.f k l0).bind fun t147 => (if t147 = true then ((spec_l5In.f k l0 l1).bind fun t148 => (some t148)) else (some false))
theorem spec_MoveIn.mono : ∀ a0 a1 k, LeO (spec_MoveIn.f k a0 a1) (spec_MoveIn.f (k + 1) a0 a1) := by
  intro a0 a1 k
  unfold spec_MoveIn.f
  repeat' first
      | (with_reducible exact spec_SystemIn.mono _ _)
      | (with_reducible exact spec_l5In.mono _ _ _)
      | (with_reducible exact LeO.refl _)
      | (with_reducible exact LeO.none _)
      | (with_reducible refine LeO.ite ?_ ?_)
      | (with_reducible refine LeO.bind ?_ (fun _ => ?_))
      | exact spec_SystemIn.mono _ _
      | exact spec_l5In.mono _ _ _
      | exact LeO.none _
      | refine LeO.ite ?_ ?_
      | refine LeO.bind ?_ (fun _ => ?_)
set_option maxHeartbeats 8000000 in
set_option maxRecDepth 100000 in
theorem spec_MoveIn.calls (k : Nat) (A0 : Option Addr) (c0 : Nat) (l0 : List Int) (A1 : Option Addr) (c1 : Nat) (l1 : List Int) (r : Bool) (w : World) (hr0 : Kd.C (Kd.int .i64) w A0 l0.length l0) (hc0 : l0.length ≤ c0) (hr1 : Kd.C (Kd.int .i64) w A1 l1.length l1) (hc1 : l1.length ≤ c1) (h : spec_MoveIn.f k l0 l1 = some r) :
    Calls Try.prog 52 #[.slice A0 l0.length c0, .slice A1 l1.length c1] w fun e w' => e = .returned (.bool r) ∧ Below w.heap.size w w' := by
  have HR0 := Aside0.mk hr0
  have HC0 := Aside0.mk hc0
  clear hr0 hc0
  have HR1 := Aside0.mk hr1
  have HC1 := Aside0.mk hc1
  clear hr1 hc1
  have HB := Aside0.mk (Below.refl w.heap.size w)
  have H : ((spec_SystemIn.f k l0).bind fun t147 => (if t147 = true then ((spec_l5In.f k l0 l1).bind fun t148 => (some t148)) else (some false))) = some r := h
  clear h
  replace H := Option.bind_eq_some_iff.mp H
  obtain ⟨t147, A30, H⟩ := H
  replace H : (if t147 = true then ((spec_l5In.f k l0 l1).bind fun t148 => (some t148)) else (some false)) = some r := H
  have A3 := Aside0.mk A30
  clear A30
  by_cases c4 : t147 = true
  · subst c4
    have H1 : ((spec_l5In.f k l0 l1).bind fun t148 => (some t148)) = some r := by rw [if_pos rfl] at H; exact H
    clear H
    have H := H1
    clear H1
    replace H := Option.bind_eq_some_iff.mp H
    obtain ⟨t148, A50, H⟩ := H
    replace H : (some t148) = some r := H
    have A5 := Aside0.mk A50
    clear A50
    obtain rfl := Option.some.inj H
    go_enter Try.func52, Try.ntmps52
    go_wp2_with (first | ((with_reducible refine gate_callee (f := 76) rfl ?_); refine goesL_ (some 6) rfl rfl Try.func76 (by kernel_rfl) rfl #[.slice A0 l0.length c0] rfl (by (try simp only [List.map_toArray, List.map_cons, List.map_nil]); first | done | rfl | (simp only [List.length_drop, List.length_take]; rfl)) ?_; (with_reducible refine (spec_SystemIn.calls k _ _ l0 true _ ?side1 ?side2 A3.out).mono ?_); (case side1 => repeat (first | exact HR0.out | (with_reducible refine Kd.C_alloc ?_ _) | (with_reducible refine Kd.C_drewN ?_ _) | (with_reducible refine Kd.C_drew ?_))); (case side2 => exact HC0.out); rintro e w6 ⟨rfl, hb⟩; refine ⟨_, rfl, ?_⟩; have n0_ := Aside0.mk (below_step (by repeat (first | (with_reducible first | exact HB.out | apply below_alloc | apply pw_below_drewN | apply below_drew1) | exact HB.out)) hb); clear HB; have HB := n0_; clear n0_; (try clear hb); (try clear hb2); (try clear hk); (try clear hi)) | (go_at_call 103; (with_reducible refine (spec_l5In.calls k _ _ l0 _ _ l1 t148 _ ?side1 ?side2 ?side3 ?side4 A5.out).mono ?_); (case side1 => repeat (first | exact (Kd.C_below HR0.out HB.out) | (with_reducible refine Kd.C_alloc ?_ _) | (with_reducible refine Kd.C_drewN ?_ _) | (with_reducible refine Kd.C_drew ?_))); (case side2 => exact HC0.out); (case side3 => repeat (first | exact (Kd.C_below HR1.out HB.out) | (with_reducible refine Kd.C_alloc ?_ _) | (with_reducible refine Kd.C_drewN ?_ _) | (with_reducible refine Kd.C_drew ?_))); (case side4 => exact HC1.out); rintro e w7 ⟨rfl, hb⟩; have n0_ := Aside0.mk (below_step (by repeat (first | (with_reducible first | exact HB.out | apply below_alloc | apply pw_below_drewN | apply below_drew1) | exact HB.out)) hb); clear HB; have HB := n0_; clear n0_; (try clear hb); (try clear hb2); (try clear hk); (try clear hi)))
    go_ret
    exact ⟨by first | rfl | (simp [errW_none, errW_some] <;> rfl) | (simp [*, errW_none, errW_some] <;> rfl), by repeat (first | (with_reducible first | exact HB.out | apply below_alloc | apply pw_below_drewN | apply below_drew1) | exact HB.out)⟩
  · replace c4 := Bool.eq_false_iff.mpr c4
    subst c4
    have H1 : (some false) = some r := by rw [if_neg (show ¬ (false = true) by decide)] at H; exact H
    clear H
    have H := H1
    clear H1
    obtain rfl := Option.some.inj H
    go_enter Try.func52, Try.ntmps52
    go_wp2_with (first | ((with_reducible refine gate_callee (f := 76) rfl ?_); refine goesL_ (some 6) rfl rfl Try.func76 (by kernel_rfl) rfl #[.slice A0 l0.length c0] rfl (by (try simp only [List.map_toArray, List.map_cons, List.map_nil]); first | done | rfl | (simp only [List.length_drop, List.length_take]; rfl)) ?_; (with_reducible refine (spec_SystemIn.calls k _ _ l0 false _ ?side1 ?side2 A3.out).mono ?_); (case side1 => repeat (first | exact HR0.out | (with_reducible refine Kd.C_alloc ?_ _) | (with_reducible refine Kd.C_drewN ?_ _) | (with_reducible refine Kd.C_drew ?_))); (case side2 => exact HC0.out); rintro e w8 ⟨rfl, hb⟩; refine ⟨_, rfl, ?_⟩; have n0_ := Aside0.mk (below_step (by repeat (first | (with_reducible first | exact HB.out | apply below_alloc | apply pw_below_drewN | apply below_drew1) | exact HB.out)) hb); clear HB; have HB := n0_; clear n0_; (try clear hb); (try clear hb2); (try clear hk); (try clear hi)))
    go_ret
    exact ⟨by first | rfl | (simp [errW_none, errW_some] <;> rfl) | (simp [*, errW_none, errW_some] <;> rfl), by repeat (first | (with_reducible first | exact HB.out | apply below_alloc | apply pw_below_drewN | apply below_drew1) | exact HB.out)⟩

end Go.Proofs.Ytckipgldmkboiaa.P

set_option linter.unusedVariables false
set_option linter.unusedSimpArgs false
namespace Go.Proofs.Ytckipgldmkboiaa.X
open Go.RowKit Go.Proofs.YtckipgldmkboiaaW.PrintWords Go.Proofs.YtckipgldmkboiaaW.PrintLast Go.Proofs.Ytckipgldmkboiaa.P

theorem l3In_eq (p : Int) : spec_l3In.f p = some (ptB p) := by
  unfold spec_l3In.f ptB
  rw [l6In_eq]
  show some _ = _
  rw [show decide (p ≤ 90) = decide (p < 91) from decide_eq_decide.2 (by omega)]
theorem l3On_eq {t : List Int} (hn : ninesB t 81 = true) {p l : Int} (hp : In91 p) (hl : In91 l) : spec_l3On.f t p l = some (onB t p l) := by
  obtain ⟨p0, p1⟩ := hp
  obtain ⟨l0, l1⟩ := hl
  have hlen := (ninesB_iff.1 hn).1
  unfold spec_l3On.f onB
  by_cases h90 : l = 90
  · rw [if_pos h90, if_pos h90]
  rw [if_neg h90, if_neg h90]
  by_cases h81 : l ≥ 81
  · rw [if_pos h81, if_pos h81]
    by_cases hp90 : p = 90
    · rw [if_pos hp90, decide_eq_true hp90]; rfl
    · rw [if_neg hp90, decide_eq_false hp90, Bool.false_or]
      by_cases hpn : p < 81
      · rw [if_pos hpn, decide_eq_true hpn, Bool.true_and]
        simp (disch := omega) only [w64, tdiv_nn]
        rfl
      · rw [if_neg hpn, decide_eq_false hpn, Bool.false_and]
  · rw [if_neg h81, if_neg h81]
    by_cases hpf : p ≥ 81
    · rw [if_pos hpf, if_pos hpf]
      simp (disch := omega) only [w64, tdiv_nn]
      refine congrArg some ?_
      rw [show decide (p = 81 + l / 9) = decide (p - 81 = l / 9) from decide_eq_decide.2 (by omega)]
      rfl
    · rw [if_neg hpf, if_neg hpf]
      have hr := nines_rd hn (i := 9 * (p / 9) + l / 9) (by omega) (by omega)
      have ha := spec_l1Add_eq (rd t (9 * (p / 9) + l / 9)) (l % 9) hr ⟨by omega, by omega⟩
      simp (disch := omega) only [w64, tdiv_nn, tmod_nn]
      rw [show p / 9 * 9 = 9 * (p / 9) by omega, if_pos (by omega), if_pos (by omega), ha]
      rfl
theorem l3Points_loop {t : List Int} (hn : ninesB t 81 = true) {l : Int} (hl : In91 l) (d : Nat) : ∀ (i : Nat), i + d = 91 → Ev (fun k => spec_l3Points.l0 k t l (filI i fun p => onB t p l) (i : Int)) (pointsL t l) := by
  induction d with
  | zero =>
    intro i h1
    have e : i = 91 := by omega
    subst e
    refine Ev.step (fun k => by rw [spec_l3Points.l0]) ?_
    exact Ev.neg (by omega) (Ev.done rfl)
  | succ d ih =>
    intro i h1
    have hlen := filI_length_le i fun p => onB t p l
    have e1 := l3On_eq hn (p := (i : Int)) ⟨by omega, by omega⟩ hl
    have nx := ih (i + 1) (by omega)
    rw [filI_succ] at nx
    have z : wrap64 ((i : Int) + 1) = ((i + 1 : Nat) : Int) := by rw [w64 (by omega) (by omega)]; rfl
    refine Ev.step (fun k => by rw [spec_l3Points.l0]) ?_
    rw [z]
    refine Ev.pos (by omega) (Ev.fix e1 ?_)
    by_cases a : onB t (i : Int) l = true
    · rw [if_pos a] at nx
      exact Ev.pos a (Ev.pos (by omega) nx)
    · rw [if_neg a, List.append_nil] at nx
      exact Ev.neg a nx
theorem l3Points_ev {t : List Int} (hn : ninesB t 81 = true) {l : Int} (hl : In91 l) : Ev (fun k => spec_l3Points.f k t l) (pointsL t l) :=
  l3Points_loop hn hl 91 0 (by omega)
theorem l3Join_loop {t : List Int} (hn : ninesB t 81 = true) {p q : Int} (hp : In91 p) (hq : In91 q) (hj : ∃ l : Int, 0 ≤ l ∧ l < 91 ∧ onB t p l = true ∧ onB t q l = true) (d : Nat) : ∀ (i : Int), 0 ≤ i → i + d = 91 → (∀ l : Int, 0 ≤ l → l < i → (onB t p l && onB t q l) = false) → Ev (fun k => spec_l3Join.l0 k t p q i) (joinI t p q) := by
  induction d with
  | zero =>
    intro i h0 h1 h
    obtain ⟨l, l0, l1, a, b⟩ := hj
    have := h l l0 (by omega)
    rw [a, b] at this; exact absurd this (by decide)
  | succ d ih =>
    intro i h0 h1 h
    have e1 := l3On_eq hn hp (l := i) ⟨h0, by omega⟩
    have e2 := l3On_eq hn hq (l := i) ⟨h0, by omega⟩
    refine Ev.step (fun k => by rw [spec_l3Join.l0]) ?_
    simp (disch := omega) only [w64, e1, e2, Option.bind_some]
    refine Ev.pos (by omega) ?_
    have next : (onB t p i && onB t q i) = false → Ev (fun k => spec_l3Join.l0 k t p q (i + 1)) (joinI t p q) := fun hb => ih (i + 1) (by omega) (by omega) fun l l0 l1 => by
      by_cases e : l = i
      · rw [e]; exact hb
      · exact h l l0 (by omega)
    by_cases a : onB t p i = true
    · refine Ev.pos a ?_
      by_cases b : onB t q i = true
      · refine Ev.pos b (Ev.done ?_)
        unfold joinI
        rw [firstI_some i h0 (by omega) (by rw [a, b]; rfl) h]
      · exact Ev.neg b (next (by rw [Bool.eq_false_iff.2 b, Bool.and_false]))
    · exact Ev.neg a (next (by rw [Bool.eq_false_iff.2 a, Bool.false_and]))
/-- The join of two different points of a system's plane. -/
theorem l3Join_ev {t : List Int} (h : sysB t = true) {p q : Int} (hp : In91 p) (hq : In91 q) (hne : p ≠ q) : Ev (fun k => spec_l3Join.f k t p q) (joinI t p q) :=
  l3Join_loop (sysB_parts h).1 hp hq (join_ex h hp.1 hp.2 hq.1 hq.2 hne) 91 0 (by omega) (by omega) (fun l h0 h1 => by omega)

/-! ### l5Perm -/
theorem seen_take {l : List Int} {i : Int} (h0 : 0 ≤ i) (h1 : i ≤ l.length) {v : Int} (hv : 0 ≤ v) : seenO (rd l) i v.toNat = true ↔ v ∈ l.take i.toNat := by
  unfold seenO
  simp only [List.any_eq_true, List.mem_range, decide_eq_true_eq]
  rw [List.mem_take_iff_getElem]
  constructor
  · rintro ⟨z, hz, e⟩
    refine ⟨z, by omega, ?_⟩
    rw [← rd_cast l z (by omega), e]; omega
  · rintro ⟨z, hz, e⟩
    refine ⟨z, by omega, ?_⟩
    rw [rd_cast l z (by omega), e]; omega
theorem l5Perm_loop (m : List Int) (hl : m.length ≤ 1048576) (d : Nat) : ∀ (i : Int), 0 ≤ i → i + d = m.length → (∀ j : Int, 0 ≤ j → j < i → newB m j = true) → Ev (fun k => spec_l5Perm.l0 k m (bL 91 (seenO (rd m) i)) i) (permB m) := by
  induction d with
  | zero =>
    intro i h0 h1 h
    refine Ev.step (fun k => by rw [spec_l5Perm.l0]) ?_
    refine Ev.neg (by omega) (Ev.done ?_)
    unfold permB
    rw [diffB_all fun j j0 j1 => h j j0 (by omega), Bool.and_true]
    refine congrArg some ?_
    by_cases e : m.length = 91
    · rw [decide_eq_true e, e]; rfl
    · rw [decide_eq_false e]
      exact beq_eq_false_iff_ne.2 (by omega)
  | succ d ih =>
    intro i h0 h1 h
    refine Ev.step (fun k => by rw [spec_l5Perm.l0]) ?_
    have z : wrap64 (i + 1) = i + 1 := w64 (by omega) (by omega)
    rw [z, l3In_eq]
    refine Ev.pos (by omega) (Ev.pos h0 (Ev.fix rfl ?_))
    by_cases hp : ptB (rd m i) = true
    case neg =>
      refine Ev.neg hp (Ev.done ?_)
      have hnb : newB m i = false := by unfold newB; rw [Bool.eq_false_iff.2 hp, Bool.false_and]
      unfold permB
      rw [diffB_hit h0 (by omega) hnb, Bool.and_false]
    obtain ⟨v0, v1⟩ := ptB_iff.1 hp
    have z4 := bL_rd (n := 91) (s := seenO (rd m) i) (rd m i) v0 v1
    have hs := bL_seen (n := 91) (rd m) i h0 (rd m i) v0 rfl
    rw [z4, bL_length, hs]
    refine Ev.pos hp (Ev.pos v0 (Ev.pos v1 ?_))
    have hst := seen_take (l := m) (i := i) h0 (by omega) v0
    by_cases e : seenO (rd m) i (rd m i).toNat = true
    · refine Ev.pos e (Ev.done ?_)
      have hnb : newB m i = false := by unfold newB; rw [decide_eq_true (hst.1 e), Bool.not_true, Bool.and_false]
      unfold permB
      rw [diffB_hit h0 (by omega) hnb, Bool.and_false]
    · refine Ev.neg e (ih (i + 1) (by omega) (by omega) fun j j0 j1 => ?_)
      by_cases ej : j = i
      · rw [ej]; unfold newB; rw [hp, decide_eq_false (fun hm => e (hst.2 hm))]; rfl
      · exact h j j0 (by omega)
theorem l5Perm_ev (m : List Int) (hl : m.length ≤ 1048576) : Ev (fun k => spec_l5Perm.f k m) (permB m) := by
  unfold spec_l5Perm.f
  rw [bL_replicate]
  exact Ev.pos (by omega) (l5Perm_loop m hl m.length 0 (by omega) (by omega) (fun j h0 h1 => by omega))

/-! ### l5Line, l5In -/
def lineR (t m : List Int) (l : Int) : Int × Bool := if lineOk t m l = true then (toLine t m l, true) else (0, false)
theorem l5Line_loop {t m : List Int} (hs : sysB t = true) (hm : permB m = true) {l : Int} (hl : In91 l) (d : Nat) : ∀ (i : Int), 0 ≤ i → i + d = (pointsL t l).length → (∀ j : Int, 0 ≤ j → j < i → onB t (rd m (rd (pointsL t l) j)) (toLine t m l) = true) → Ev (fun k => spec_l5Line.l0 k t m (pointsL t l) (toLine t m l) i) (lineR t m l) := by
  have hlen := permB_len hm
  have h91 : (pointsL t l).length ≤ 91 := filI_length_le _ _
  obtain ⟨_, _, _, htl⟩ := toLine_spec hs hm hl
  induction d with
  | zero =>
    intro i h0 h1 h
    refine Ev.step (fun k => by rw [spec_l5Line.l0]) ?_
    refine Ev.neg (by omega) (Ev.done ?_)
    have : lineOk t m l = true := by
      unfold lineOk
      rw [Bool.not_eq_true', List.any_eq_false]
      intro p hp
      obtain ⟨j, hj, rfl⟩ := List.mem_iff_getElem.1 hp
      have := h (j : Int) (by omega) (by omega)
      rw [rd_cast _ j hj] at this
      rw [this]; decide
    unfold lineR; rw [if_pos this]
  | succ d ih =>
    intro i h0 h1 h
    obtain ⟨⟨a0, a1⟩, _⟩ := pointsL_rd (t := t) (l := l) (i := i) h0 (by omega)
    have hv := diffB_pt (permB_diff hm) a0 (by omega)
    have e1 := l3On_eq (sysB_parts hs).1 hv htl
    refine Ev.step (fun k => by rw [spec_l5Line.l0]) ?_
    rw [w64 (x := i + 1) (by omega) (by omega)]
    refine Ev.pos (by omega) (Ev.pos h0 (Ev.pos a0 (Ev.pos (by omega) (Ev.fix e1 ?_))))
    by_cases e : onB t (rd m (rd (pointsL t l) i)) (toLine t m l) = true
    · refine Ev.pos e (ih (i + 1) (by omega) (by omega) fun j j0 j1 => ?_)
      by_cases ej : j = i
      · rw [ej]; exact e
      · exact h j j0 (by omega)
    · refine Ev.neg e (Ev.done ?_)
      have : lineOk t m l = false := by
        unfold lineOk
        rw [Bool.not_eq_false', List.any_eq_true]
        exact ⟨_, rd_mem (by omega) h0, by rw [Bool.eq_false_iff.2 e]; rfl⟩
      unfold lineR; rw [this]; rfl
theorem l5Line_ev {t m : List Int} (hs : sysB t = true) (hm : permB m = true) {l : Int} (hl : In91 l) : Ev (fun k => spec_l5Line.f k t m l) (lineR t m l) := by
  have hn := (sysB_parts hs).1
  have hlen := permB_len hm
  have h2 := pointsL_two hs hl.1 hl.2
  obtain ⟨p0, p1, hne, htl⟩ := toLine_spec hs hm hl
  obtain ⟨⟨a0, a1⟩, _⟩ := pointsL_rd (t := t) (l := l) (i := 0) (by omega) (by omega)
  obtain ⟨⟨b0, b1⟩, _⟩ := pointsL_rd (t := t) (l := l) (i := 1) (by omega) (by omega)
  obtain ⟨j0, j1, j2, j3⟩ := joinI_spec hs p0.1 p0.2 p1.1 p1.2 hne
  unfold spec_l5Line.f
  refine Ev.bind (l3Points_ev hn hl) ?_
  refine Ev.pos (by omega) (Ev.pos a0 (Ev.pos (by omega) (Ev.pos (by omega) (Ev.pos b0 (Ev.pos (by omega) (Ev.bind (l3Join_ev hs p0 p1 hne) ?_))))))
  refine l5Line_loop hs hm hl ((pointsL t l).length - 2) 2 (by omega) (by omega) fun j j0' j1' => ?_
  have : j = 0 ∨ j = 1 := by omega
  rcases this with rfl | rfl
  · exact j2
  · exact j3
theorem l5In_loop {t m : List Int} (hs : sysB t = true) (hm : permB m = true) (d : Nat) : ∀ (i : Int), 0 ≤ i → i + d = 91 → (∀ l : Int, 0 ≤ l → l < i → lineOk t m l = true) → Ev (fun k => spec_l5In.l0 k t m i) (moveB t m) := by
  induction d with
  | zero =>
    intro i h0 h1 h
    refine Ev.step (fun k => by rw [spec_l5In.l0]) ?_
    refine Ev.neg (by omega) (Ev.done ?_)
    rw [moveB_all hs hm fun l l0 l1 => h l l0 (by omega)]
  | succ d ih =>
    intro i h0 h1 h
    refine Ev.step (fun k => by rw [spec_l5In.l0]) ?_
    rw [w64 (x := i + 1) (by omega) (by omega)]
    refine Ev.pos (by omega) (Ev.bind (l5Line_ev hs hm (l := i) ⟨h0, by omega⟩) ?_)
    unfold lineR
    by_cases e : lineOk t m i = true
    · rw [if_pos e]
      refine Ev.pos rfl (ih (i + 1) (by omega) (by omega) fun l l0 l1 => ?_)
      by_cases el : l = i
      · rw [el]; exact e
      · exact h l l0 (by omega)
    · rw [if_neg e]
      refine Ev.neg (by decide) (Ev.done ?_)
      rw [moveB_hit h0 (by omega) (Bool.eq_false_iff.2 e)]
theorem l5In_ev {t m : List Int} (hs : sysB t = true) (hl : m.length ≤ 1048576) : Ev (fun k => spec_l5In.f k t m) (moveB t m) := by
  unfold spec_l5In.f
  refine Ev.bind (l5Perm_ev m hl) ?_
  by_cases hm : permB m = true
  · exact Ev.pos hm (l5In_loop hs hm 91 0 (by omega) (by omega) fun l h0 h1 => by omega)
  · refine Ev.neg hm (Ev.done ?_)
    unfold moveB; rw [Bool.eq_false_iff.2 hm]; simp
theorem MoveIn_ev {t m : List Int} (ht : t.length ≤ 1048576) (hl : m.length ≤ 1048576) : Ev (fun k => spec_MoveIn.f k t m) (moveB t m) := by
  unfold spec_MoveIn.f
  refine Ev.bind (SystemIn_ev t ht) ?_
  by_cases hs : sysB t = true
  · exact Ev.pos hs (Ev.bind (l5In_ev hs hl) (Ev.done rfl))
  · refine Ev.neg hs (Ev.done ?_)
    unfold moveB; rw [Bool.eq_false_iff.2 hs]; rfl

end Go.Proofs.Ytckipgldmkboiaa.X

set_option linter.unusedVariables false
set_option linter.unusedSimpArgs false
namespace Go.Proofs.Ytckipgldmkboiaa.X
open Go.RowKit Go.Proofs.YtckipgldmkboiaaW.PrintWords Go.Proofs.YtckipgldmkboiaaW.PrintLast Go.Proofs.Ytckipgldmkboiaa.P

theorem l3Three_ev {t : List Int} (hs : sysB t = true) {p q r : Int} (hp : In91 p) (hq : In91 q) (hr : In91 r) (hne : p ≠ q) : Ev (fun k => spec_l3Three.f k t p q r) (onB t r (joinI t p q)) := by
  have hj := joinI_spec hs hp.1 hp.2 hq.1 hq.2 hne
  unfold spec_l3Three.f
  exact Ev.bind (l3Join_ev hs hp hq hne) (Ev.fix (l3On_eq (sysB_parts hs).1 hr ⟨hj.1, hj.2.1⟩) (Ev.done rfl))
theorem l3Apart_l2 {t l : List Int} (hs : sysB t = true) (hl : l.length ≤ 1048576) {i j : Int} (j0 : 0 ≤ j) (ji : j < i) (i1 : i < l.length) (hd : ∀ x : Int, 0 ≤ x → x ≤ i → In91 (rd l x)) (hne : rd l j ≠ rd l i) {r : Bool}
    (hr : pairB t l i j = true → Ev (fun n => spec_l3Apart.l1 n t l i (j + 1)) r) (hf : pairB t l i j = false → r = false) (d : Nat) :
    ∀ k : Int, 0 ≤ k → k + d = j → (∀ z : Int, 0 ≤ z → z < k → tripB t l i j z = true) → Ev (fun n => spec_l3Apart.l2 n t l i j k) r := by
  induction d with
  | zero =>
    intro k k0 k1 h
    refine Ev.step (fun n => by rw [spec_l3Apart.l2]) ?_
    rw [w64 (x := j + 1) (by omega) (by omega)]
    refine Ev.neg (by omega) (hr ?_)
    exact allI_int_iff.2 fun z z0 z1 => h z z0 (by omega)
  | succ d ih =>
    intro k k0 k1 h
    have e1 := l3Three_ev hs (hd i (by omega) (by omega)) (hd j j0 (by omega)) (hd k k0 (by omega)) (fun e => hne e.symm)
    refine Ev.step (fun n => by rw [spec_l3Apart.l2]) ?_
    rw [w64 (x := k + 1) (by omega) (by omega)]
    refine Ev.pos (by omega) (Ev.pos (by omega) (Ev.pos (by omega) (Ev.pos (by omega) (Ev.pos (by omega) (Ev.pos (by omega) (Ev.pos (by omega) (Ev.bind e1 ?_)))))))
    by_cases e : onB t (rd l k) (joinI t (rd l i) (rd l j)) = true
    · refine Ev.pos e (Ev.done ?_)
      rw [hf (allI_false k.toNat (by omega) (by rw [Int.toNat_of_nonneg k0]; unfold tripB; rw [e]; rfl))]
    · refine Ev.neg e (ih (k + 1) (by omega) (by omega) fun z z0 z1 => ?_)
      by_cases ez : z = k
      · rw [ez]; unfold tripB; rw [Bool.eq_false_iff.2 e]; rfl
      · exact h z z0 (by omega)
theorem l3Apart_l1 {t l : List Int} (hs : sysB t = true) (hl : l.length ≤ 1048576) {i : Int} (i0 : 0 ≤ i) (i1 : i < l.length) (hd : ∀ x : Int, 0 ≤ x → x ≤ i → In91 (rd l x)) {r : Bool}
    (hr : (∀ j : Int, 0 ≤ j → j < i → rd l j ≠ rd l i ∧ pairB t l i j = true) → Ev (fun n => spec_l3Apart.l0 n t l (i + 1)) r) (hf : ∀ j : Int, 0 ≤ j → j < i → (rd l j = rd l i ∨ pairB t l i j = false) → r = false) (d : Nat) :
    ∀ j : Int, 0 ≤ j → j + d = i → (∀ y : Int, 0 ≤ y → y < j → rd l y ≠ rd l i ∧ pairB t l i y = true) → Ev (fun n => spec_l3Apart.l1 n t l i j) r := by
  induction d with
  | zero =>
    intro j j0 j1 h
    refine Ev.step (fun n => by rw [spec_l3Apart.l1]) ?_
    rw [w64 (x := i + 1) (by omega) (by omega)]
    exact Ev.neg (by omega) (hr fun y y0 y1 => h y y0 (by omega))
  | succ d ih =>
    intro j j0 j1 h
    refine Ev.step (fun n => by rw [spec_l3Apart.l1]) ?_
    refine Ev.pos (by omega) (Ev.pos (by omega) (Ev.pos (by omega) (Ev.pos (by omega) (Ev.pos (by omega) ?_))))
    by_cases e : rd l j = rd l i
    · exact Ev.pos e (Ev.done (by rw [hf j j0 (by omega) (.inl e)]))
    · refine Ev.neg e (l3Apart_l2 hs hl j0 (by omega) i1 hd e (fun hp => ih (j + 1) (by omega) (by omega) fun y y0 y1 => ?_) (fun hp => hf j j0 (by omega) (.inr hp)) j.toNat 0 (by omega) (by omega) (fun z z0 z1 => by omega))
      by_cases ey : y = j
      · rw [ey]; exact ⟨e, hp⟩
      · exact h y y0 (by omega)
theorem l3Apart_l0 {t l : List Int} (hs : sysB t = true) (hl : l.length ≤ 1048576) (d : Nat) :
    ∀ i : Int, 0 ≤ i → i + d = l.length → (∀ x : Int, 0 ≤ x → x < i → newB l x = true ∧ ∀ y : Int, 0 ≤ y → y < x → pairB t l x y = true) → Ev (fun n => spec_l3Apart.l0 n t l i) (apartP t l) := by
  induction d with
  | zero =>
    intro i i0 i1 h
    refine Ev.step (fun n => by rw [spec_l3Apart.l0]) ?_
    refine Ev.neg (by omega) (Ev.done ?_)
    rw [apart_all (diffB_all fun x x0 x1 => (h x x0 (by omega)).1) fun x y y0 yx x1 => (h x (by omega) (by omega)).2 y y0 yx]
  | succ d ih =>
    intro i i0 i1 h
    refine Ev.step (fun n => by rw [spec_l3Apart.l0]) ?_
    refine Ev.pos (by omega) (Ev.pos i0 (Ev.fix (l3In_eq (rd l i)) ?_))
    by_cases e : ptB (rd l i) = true
    case neg =>
      refine Ev.neg e (Ev.done ?_)
      have : diffB l = false := diffB_hit i0 (by omega) (by unfold newB; rw [Bool.eq_false_iff.2 e]; rfl)
      unfold apartP; rw [this]; rfl
    have hd : ∀ x : Int, 0 ≤ x → x ≤ i → In91 (rd l x) := fun x x0 x1 => by
      by_cases ex : x = i
      · rw [ex]; exact ptB_iff.1 e
      · exact ((newB_iff x0 (by omega)).1 (h x x0 (by omega)).1).1
    refine Ev.pos e (l3Apart_l1 hs hl i0 (by omega) hd (fun hp => ih (i + 1) (by omega) (by omega) fun x x0 x1 => ?_) (fun j j0 ji hor => ?_) i.toNat 0 (by omega) (by omega) (fun y y0 y1 => by omega))
    · by_cases ex : x = i
      · rw [ex]; exact ⟨(newB_iff i0 (by omega)).2 ⟨ptB_iff.1 e, fun j j0 j1 => (hp j j0 j1).1⟩, fun y y0 y1 => (hp y y0 y1).2⟩
      · exact h x x0 (by omega)
    · rcases hor with he | hp
      · have : diffB l = false := diffB_hit i0 (by omega) (Bool.eq_false_iff.2 fun hn => ((newB_iff i0 (by omega)).1 hn).2 j j0 ji he)
        unfold apartP; rw [this]; rfl
      · exact apart_hit (by omega) j0 ji hp
theorem l3Apart_ev {t l : List Int} (hs : sysB t = true) (hl : l.length ≤ 1048576) : Ev (fun n => spec_l3Apart.f n t l) (apartP t l) := l3Apart_l0 hs hl l.length 0 (by omega) (by omega) (fun x x0 x1 => by omega)
/-- The reference's PlaneApart at four points. -/
theorem planeApart_ev {t l : List Int} (ht : t.length ≤ 1048576) (h4 : l.length = 4) : Ev (fun n => spec_PlaneApart.f n t l) (quadB t l) := by
  unfold spec_PlaneApart.f quadB
  rw [decide_eq_true h4, Bool.true_and]
  refine Ev.bind (SystemIn_ev t ht) ?_
  by_cases hs : sysB t = true
  case neg =>
    rw [Bool.eq_false_iff.2 hs]
    exact Ev.neg (by decide) (Ev.done rfl)
  rw [hs, h4]
  refine Ev.pos rfl (Ev.fix (show spec_l6In.f ((4 : Nat) : Int) 3 20 = some true from rfl) (Ev.pos rfl (Ev.bind (l3Apart_ev hs (by omega)) (Ev.done rfl))))
theorem isQuad_eq {t l : List Int} (hs : sysB t = true) : impl_plane_isQuad.f t l = some (quadB t l) := by
  unfold impl_plane_isQuad.f quadB
  rw [hs, Bool.true_and]
  by_cases h4 : l.length = 4
  · rw [if_pos (by omega), show impl_plane_apart.f t l = some (apartP t l) from if_pos ⟨hs, by omega⟩, decide_eq_true h4, Bool.true_and]; rfl
  · rw [if_neg (by omega), decide_eq_false h4, Bool.false_and]

end Go.Proofs.Ytckipgldmkboiaa.X

set_option linter.unusedVariables false
set_option linter.unusedSimpArgs false
namespace Go.Proofs.Ytckipgldmkboiaa.X
open Go.RowKit Go.Proofs.YtckipgldmkboiaaW.PrintWords Go.Proofs.YtckipgldmkboiaaW.PrintLast Go.Proofs.Ytckipgldmkboiaa.P

theorem l3Meet_loop {t : List Int} (hn : ninesB t 81 = true) {l m : Int} (hl : In91 l) (hm : In91 m) (hj : ∃ p : Int, 0 ≤ p ∧ p < 91 ∧ onB t p l = true ∧ onB t p m = true) (d : Nat) : ∀ (i : Int), 0 ≤ i → i + d = 91 → (∀ p : Int, 0 ≤ p → p < i → (onB t p l && onB t p m) = false) → Ev (fun k => spec_l3Meet.l0 k t l m i) (meetI t l m) := by
  induction d with
  | zero =>
    intro i h0 h1 h
    obtain ⟨p, p0, p1, a, b⟩ := hj
    have := h p p0 (by omega)
    rw [a, b] at this; exact absurd this (by decide)
  | succ d ih =>
    intro i h0 h1 h
    have e1 := l3On_eq hn (p := i) ⟨h0, by omega⟩ hl
    have e2 := l3On_eq hn (p := i) ⟨h0, by omega⟩ hm
    refine Ev.step (fun k => by rw [spec_l3Meet.l0]) ?_
    simp (disch := omega) only [w64, e1, e2, Option.bind_some]
    refine Ev.pos (by omega) ?_
    have next : (onB t i l && onB t i m) = false → Ev (fun k => spec_l3Meet.l0 k t l m (i + 1)) (meetI t l m) := fun hb => ih (i + 1) (by omega) (by omega) fun p p0 p1 => by
      by_cases e : p = i
      · rw [e]; exact hb
      · exact h p p0 (by omega)
    by_cases a : onB t i l = true
    · refine Ev.pos a ?_
      by_cases b : onB t i m = true
      · refine Ev.pos b (Ev.done ?_)
        unfold meetI
        rw [firstI_some i h0 (by omega) (by rw [a, b]; rfl) h]
      · exact Ev.neg b (next (by rw [Bool.eq_false_iff.2 b, Bool.and_false]))
    · exact Ev.neg a (next (by rw [Bool.eq_false_iff.2 a, Bool.false_and]))
theorem l3Meet_ev {t : List Int} (h : sysB t = true) {l m : Int} (hl : In91 l) (hm : In91 m) (hne : l ≠ m) : Ev (fun k => spec_l3Meet.f k t l m) (meetI t l m) :=
  l3Meet_loop (sysB_parts h).1 hl hm (meet_ex h hl.1 hl.2 hm.1 hm.2 hne) 91 0 (by omega) (by omega) (fun p h0 h1 => by omega)

/-! ### l7Lines -/
def cntP (t : List Int) (s : Nat → Bool) (l : Int) (p : Nat) : Nat := cntL t (filI p fun p => s p.toNat) l
theorem cntP_succ (t : List Int) (s : Nat → Bool) (l : Int) (p : Nat) : cntP t s l (p + 1) = cntP t s l p + (if s p = true ∧ onB t (p : Int) l = true then 1 else 0) := by
  unfold cntP cntL
  rw [filI_succ, List.filter_append, List.length_append]
  have hz : ((p : Int)).toNat = p := by omega
  rw [hz]
  by_cases h1 : s p = true
  · by_cases h2 : onB t (p : Int) l = true
    · rw [if_pos h1, if_pos ⟨h1, h2⟩]; simp [h2]
    · rw [if_pos h1, if_neg (fun h => h2 h.2)]; simp [h2]
  · rw [if_neg h1, if_neg (fun h => h1 h.1)]; simp
theorem cntP_le (t : List Int) (s : Nat → Bool) (l : Int) (p : Nat) : cntP t s l p ≤ p := Nat.le_trans (cntL_le _ _ _) (filI_length_le _ _)
theorem l7Lines_l1 {t : List Int} (hn : ninesB t 81 = true) (s : Nat → Bool) (l : Nat) (hl : l < 91)
    (hr : Ev (fun k => spec_l7Lines.l0 k t (bL 91 s) (filI (l + 1) fun l => decide (1 < (cntL t (ptsS s) l : Int))) ((l + 1 : Nat) : Int)) (linesS t s)) (d : Nat) :
    ∀ p : Nat, p + d = 91 → Ev (fun k => spec_l7Lines.l1 k t (bL 91 s) (filI l fun l => decide (1 < (cntL t (ptsS s) l : Int))) (l : Int) (cntP t s l p : Int) (p : Int)) (linesS t s) := by
  have hlen := filI_length_le l fun l => decide (1 < (cntL t (ptsS s) l : Int))
  have zl : wrap64 ((l : Int) + 1) = ((l + 1 : Nat) : Int) := by rw [w64 (by omega) (by omega)]; rfl
  induction d with
  | zero =>
    intro p hp
    have e : p = 91 := by omega
    subst e
    refine Ev.step (fun k => by rw [spec_l7Lines.l1]) ?_
    rw [zl]
    refine Ev.neg (by omega) ?_
    have hc : cntP t s l 91 = cntL t (ptsS s) l := rfl
    rw [filI_succ] at hr
    by_cases h : 1 < (cntL t (ptsS s) (l : Int) : Int)
    · rw [decide_eq_true h, if_pos rfl] at hr
      exact Ev.pos (by rw [hc]; exact h) (Ev.pos (by omega) hr)
    · rw [decide_eq_false h, if_neg (by decide), List.append_nil] at hr
      exact Ev.neg (by rw [hc]; exact h) hr
  | succ d ih =>
    intro p hp
    have nx := ih (p + 1) (by omega)
    rw [cntP_succ] at nx
    have hle := cntP_le t s l p
    have zp : wrap64 ((p : Int) + 1) = ((p + 1 : Nat) : Int) := by rw [w64 (by omega) (by omega)]; rfl
    have zc : wrap64 ((cntP t s l p : Int) + 1) = ((cntP t s l p + 1 : Nat) : Int) := by rw [w64 (by omega) (by omega)]; rfl
    have hb : rdOf false (bL 91 s) (p : Int) = s p := by rw [bL_rd _ (by omega) (by omega)]; rfl
    refine Ev.step (fun k => by rw [spec_l7Lines.l1]) ?_
    rw [zp, zc, hb, bL_length]
    refine Ev.pos (by omega) (Ev.pos (by omega) (Ev.pos (by omega) ?_))
    by_cases h1 : s p = true
    · refine Ev.pos h1 (Ev.fix (l3On_eq hn (p := (p : Int)) (l := (l : Int)) ⟨by omega, by omega⟩ ⟨by omega, by omega⟩) ?_)
      by_cases h2 : onB t (p : Int) (l : Int) = true
      · rw [if_pos ⟨h1, h2⟩] at nx
        exact Ev.pos h2 nx
      · rw [if_neg (fun h => h2 h.2), Nat.add_zero] at nx
        exact Ev.neg h2 nx
    · rw [if_neg (fun h => h1 h.1), Nat.add_zero] at nx
      exact Ev.neg h1 nx
theorem l7Lines_l0 {t : List Int} (hn : ninesB t 81 = true) (s : Nat → Bool) (d : Nat) : ∀ l : Nat, l + d = 91 → Ev (fun k => spec_l7Lines.l0 k t (bL 91 s) (filI l fun l => decide (1 < (cntL t (ptsS s) l : Int))) (l : Int)) (linesS t s) := by
  induction d with
  | zero =>
    intro l hl
    have e : l = 91 := by omega
    subst e
    refine Ev.step (fun k => by rw [spec_l7Lines.l0]) ?_
    exact Ev.neg (by omega) (Ev.done rfl)
  | succ d ih =>
    intro l hl
    refine Ev.step (fun k => by rw [spec_l7Lines.l0]) ?_
    exact Ev.pos (by omega) (l7Lines_l1 hn s l (by omega) (ih (l + 1) (by omega)) 91 0 (by omega))
theorem l7Lines_ev {t : List Int} (hn : ninesB t 81 = true) (s : Nat → Bool) : Ev (fun k => spec_l7Lines.f k t (bL 91 s)) (linesS t s) := l7Lines_l0 hn s 91 0 (by omega)

/-! ### l7Span -/
theorem span_l4 {t : List Int} (s : Nat → Bool) (c : Int) (r : List Int) (hr : Ev (fun k => if ((ptsS s).length : Int) = c then some (ptsS s) else spec_l7Span.l1 k t (bL 91 s) ((ptsS s).length : Int)) r) (d : Nat) :
    ∀ p : Nat, p + d = 91 → Ev (fun k => spec_l7Span.l4 k t (bL 91 s) c (filI p fun p => s p.toNat) (p : Int)) r := by
  induction d with
  | zero =>
    intro p hp
    have e : p = 91 := by omega
    subst e
    refine Ev.step (fun k => by rw [spec_l7Span.l4]) ?_
    exact Ev.neg (by omega) hr
  | succ d ih =>
    intro p hp
    have nx := ih (p + 1) (by omega)
    have hlen := filI_length_le p fun p => s p.toNat
    rw [filI_succ, show ((p : Int)).toNat = p by omega] at nx
    have zp : wrap64 ((p : Int) + 1) = ((p + 1 : Nat) : Int) := by rw [w64 (by omega) (by omega)]; rfl
    have hb : rdOf false (bL 91 s) (p : Int) = s p := by rw [bL_rd _ (by omega) (by omega)]; rfl
    refine Ev.step (fun k => by rw [spec_l7Span.l4]) ?_
    rw [zp, hb, bL_length]
    refine Ev.pos (by omega) (Ev.pos (by omega) (Ev.pos (by omega) ?_))
    by_cases h1 : s p = true
    · rw [if_pos h1] at nx
      exact Ev.pos h1 (Ev.pos (by omega) nx)
    · rw [if_neg h1, List.append_nil] at nx
      exact Ev.neg h1 nx
theorem span_l3 {t : List Int} (hs : sysB t = true) (s : Nat → Bool) (c : Int) (r : List Int) (i : Int) (i0 : 0 ≤ i) (i1 : i < (linesS t s).length)
    (hr : Ev (fun k => spec_l7Span.l2 k t (bL 91 (curS t (linesS t s) s (i + 1) 0)) c (linesS t s) (i + 1)) r) (d : Nat) :
    ∀ k : Int, 0 ≤ k → k + d = i → Ev (fun n => spec_l7Span.l3 n t (bL 91 (curS t (linesS t s) s i k)) c (linesS t s) i k) r := by
  have h91 : (linesS t s).length ≤ 91 := filI_length_le _ _
  induction d with
  | zero =>
    intro k k0 hk
    have e : k = i := by omega
    subst e
    refine Ev.step (fun n => by rw [spec_l7Span.l3]) ?_
    rw [w64 (x := k + 1) (by omega) (by omega)]
    refine Ev.neg (by omega) ?_
    rw [bL_congr fun x _ => (curS_i t (linesS t s) s k0 x).symm]
    exact hr
  | succ d ih =>
    intro k k0 hk
    obtain ⟨p0, p1⟩ := meet_in hs k0 (by omega : k < i) i1
    have hi := linesS_rd (t := t) (s := s) i0 i1
    have hkk := linesS_rd (t := t) (s := s) k0 (by omega)
    have hlt : rd (linesS t s) k < rd (linesS t s) i := filI_lt k0 (by omega) i1
    have nx := ih (k + 1) (by omega) (by omega)
    refine Ev.step (fun n => by rw [spec_l7Span.l3]) ?_
    rw [w64 (x := k + 1) (by omega) (by omega), bL_length]
    refine Ev.pos (by omega) (Ev.pos i0 (Ev.pos i1 (Ev.pos k0 (Ev.pos (by omega) (Ev.bind (l3Meet_ev hs hi hkk (by omega)) (Ev.pos p0 (Ev.pos p1 ?_)))))))
    rw [bL_set, bL_congr fun x _ => (curS_hit t (linesS t s) s i k0 p0 rfl x).symm]
    exact nx
theorem span_l2 {t : List Int} (hs : sysB t = true) (s : Nat → Bool) (c : Int) (r : List Int)
    (hr : Ev (fun k => spec_l7Span.l4 k t (bL 91 (stepS t s)) c [] 0) r) (d : Nat) :
    ∀ i : Int, 0 ≤ i → i + d = (linesS t s).length → Ev (fun k => spec_l7Span.l2 k t (bL 91 (curS t (linesS t s) s i 0)) c (linesS t s) i) r := by
  induction d with
  | zero =>
    intro i i0 hi
    have e : i = ((linesS t s).length : Int) := by omega
    subst e
    refine Ev.step (fun k => by rw [spec_l7Span.l2]) ?_
    refine Ev.neg (by omega) ?_
    rw [bL_congr fun x _ => curS_end t s x]
    exact hr
  | succ d ih =>
    intro i i0 hi
    refine Ev.step (fun k => by rw [spec_l7Span.l2]) ?_
    refine Ev.pos (by omega) (span_l3 hs s c r i i0 (by omega) (ih (i + 1) (by omega) (by omega)) i.toNat 0 (by omega) (by omega))
theorem span_l1 {t : List Int} (hs : sysB t = true) (s0 : Nat → Bool) (m : Nat) : ∀ n c : Nat, n ≤ c → c ≤ sizeS (iterS t s0 n) → 91 - c < m → Ev (fun k => spec_l7Span.l1 k t (bL 91 (iterS t s0 n)) (c : Int)) (spanS t s0) := by
  induction m with
  | zero => intro n c _ _ h; omega
  | succ m ih =>
    intro n c hn hc hm
    have hsz := sizeS_le (iterS t s0 n)
    refine Ev.step (fun k => by rw [spec_l7Span.l1]) ?_
    refine Ev.bind (l7Lines_ev (sysB_parts hs).1 _) ?_
    have e0 : bL 91 (iterS t s0 n) = bL 91 (curS t (linesS t (iterS t s0 n)) (iterS t s0 n) 0 0) := bL_congr fun x _ => (curS_start t _ _ x).symm
    rw [show (fun k => spec_l7Span.l2 k t (bL 91 (iterS t s0 n)) (c : Int) (linesS t (iterS t s0 n)) 0) = fun k => spec_l7Span.l2 k t (bL 91 (curS t (linesS t (iterS t s0 n)) (iterS t s0 n) 0 0)) (c : Int) (linesS t (iterS t s0 n)) 0 by rw [e0]]
    refine span_l2 hs (iterS t s0 n) (c : Int) (spanS t s0) ?_ (linesS t (iterS t s0 n)).length 0 (by omega) (by omega)
    refine span_l4 (stepS t (iterS t s0 n)) (c : Int) (spanS t s0) ?_ 91 0 (by omega)
    have hmono : sizeS (iterS t s0 n) ≤ sizeS (stepS t (iterS t s0 n)) := sizeS_mono fun x _ h => stepS_old t _ x h
    have hsz2 := sizeS_le (stepS t (iterS t s0 n))
    have hlen : (ptsS (stepS t (iterS t s0 n))).length = sizeS (stepS t (iterS t s0 n)) := rfl
    by_cases h : sizeS (stepS t (iterS t s0 n)) = c
    · refine Ev.pos (by rw [hlen]; omega) (Ev.done ?_)
      have heq := sizeS_eq (s := iterS t s0 n) (s' := stepS t (iterS t s0 n)) (fun x _ h => stepS_old t _ x h) (by omega)
      rw [spanS_of (by omega) fun x hx => (heq x hx).symm, ptsS_congr heq]
    · refine Ev.neg (by rw [hlen]; omega) ?_
      rw [hlen]
      exact ih (n + 1) (sizeS (stepS t (iterS t s0 n))) (by omega) (Nat.le_refl _) (by omega)
theorem span_l0 {t : List Int} (hs : sysB t = true) {l : List Int} (hl : l.length ≤ 10) (hp : ∀ x ∈ l, In91 x) (d : Nat) : ∀ i : Int, 0 ≤ i → i + d = l.length → Ev (fun k => spec_l7Span.l0 k t l (bL 91 (inL (l.take i.toNat))) 0 i) (spanS t (inL l)) := by
  induction d with
  | zero =>
    intro i i0 hi
    refine Ev.step (fun k => by rw [spec_l7Span.l0]) ?_
    refine Ev.neg (by omega) ?_
    rw [List.take_of_length_le (by omega)]
    have h1 := span_l1 hs (inL l) 92 0 0 (Nat.le_refl 0) (Nat.zero_le (sizeS (iterS t (inL l) 0))) (by decide)
    have h2 : iterS t (inL l) 0 = inL l := rfl
    rw [h2] at h1
    exact h1
  | succ d ih =>
    intro i i0 hi
    obtain ⟨p0, p1⟩ := hp _ (rd_mem (i := i) (by omega) i0)
    refine Ev.step (fun k => by rw [spec_l7Span.l0]) ?_
    rw [w64 (x := i + 1) (by omega) (by omega), bL_length]
    refine Ev.pos (by omega) (Ev.pos i0 (Ev.pos p0 (Ev.pos p1 ?_)))
    rw [bL_set, bL_congr fun x _ => (inL_take i0 (by omega) p0 x).symm]
    exact ih (i + 1) (by omega) (by omega)
theorem l7Span_ev {t : List Int} (hs : sysB t = true) {l : List Int} (hl : l.length ≤ 10) (hp : ∀ x ∈ l, In91 x) : Ev (fun k => spec_l7Span.f k t l) (spanS t (inL l)) := by
  unfold spec_l7Span.f
  refine Ev.pos (by omega) ?_
  have := span_l0 hs hl hp l.length 0 (by omega) (by omega)
  rw [show bL 91 (inL (l.take (0 : Int).toNat)) = bL 91 fun _ => false from bL_congr fun x _ => by simp [inL]] at this
  rw [bL_replicate]
  exact this

end Go.Proofs.Ytckipgldmkboiaa.X

namespace Go.Proofs.Ytckipgldmkboiaa.P
open Go.RowKit Go.Proofs.YtckipgldmkboiaaW.PrintWords Go.Proofs.YtckipgldmkboiaaW.PrintLast Go.Proofs.YtckipgldmkboiaaW.PrintMore
attribute [local go_sem] max2_int min2_int max_two min_two max_three min_three max_four min_four   -- for this text's walks alone
set_option linter.unusedVariables false
set_option linter.unusedSimpArgs false

/-! ### spec_SpanWhole: function 27 -/
def spec_SpanWhole.f (k : Nat) (l0 : List Int) (l1 : List Int) : Option (Bool) := if (l1.length : Int) = 4 then ((spec_PlaneApart.f k l0 l1).bind fun t434 => (if t434 = true then ((spec_l7Span.f k l0 l1).bind fun t435 => (some ((t435.length : Int) == 91))) else (some false))) else (some false)
theorem spec_SpanWhole.mono : ∀ a0 a1 k, LeO (spec_SpanWhole.f k a0 a1) (spec_SpanWhole.f (k + 1) a0 a1) := by
  intro a0 a1 k
  unfold spec_SpanWhole.f
  repeat' first
      | (with_reducible exact spec_PlaneApart.mono _ _ _)
      | (with_reducible exact spec_l7Span.mono _ _ _)
      | (with_reducible exact LeO.refl _)
      | (with_reducible exact LeO.none _)
      | (with_reducible refine LeO.ite ?_ ?_)
      | (with_reducible refine LeO.bind ?_ (fun _ => ?_))
      | exact spec_PlaneApart.mono _ _ _
      | exact spec_l7Span.mono _ _ _
      | exact LeO.none _
      | refine LeO.ite ?_ ?_
      | refine LeO.bind ?_ (fun _ => ?_)
set_option maxHeartbeats 8000000 in
set_option maxRecDepth 100000 in
theorem spec_SpanWhole.calls (k : Nat) (A0 : Option Addr) (c0 : Nat) (l0 : List Int) (A1 : Option Addr) (c1 : Nat) (l1 : List Int) (r : Bool) (w : World) (hr0 : Kd.C (Kd.int .i64) w A0 l0.length l0) (hc0 : l0.length ≤ c0) (hr1 : Kd.C (Kd.int .i64) w A1 l1.length l1) (hc1 : l1.length ≤ c1) (h : spec_SpanWhole.f k l0 l1 = some r) :
    Calls Try.prog 27 #[.slice A0 l0.length c0, .slice A1 l1.length c1] w fun e w' => e = .returned (.bool r) ∧ Below w.heap.size w w' := by
  have HR0 := Aside0.mk hr0
  have HC0 := Aside0.mk hc0
  clear hr0 hc0
  have HR1 := Aside0.mk hr1
  have HC1 := Aside0.mk hc1
  clear hr1 hc1
  have HB := Aside0.mk (Below.refl w.heap.size w)
  have H : (if (l1.length : Int) = 4 then ((spec_PlaneApart.f k l0 l1).bind fun t434 => (if t434 = true then ((spec_l7Span.f k l0 l1).bind fun t435 => (some ((t435.length : Int) == 91))) else (some false))) else (some false)) = some r := h
  clear h
  by_cases c3 : (l1.length : Int) = 4
  · rw [if_pos c3] at H
    have c3b0 : ((l1.length : Int) == 4) = true := beq_iff_eq.mpr c3
    have c3b1 : ((l1.length : Int) != 4) = false := bne_eq_false_iff_eq.mpr c3
    clear c3
    replace H := Option.bind_eq_some_iff.mp H
    obtain ⟨t434, A40, H⟩ := H
    replace H : (if t434 = true then ((spec_l7Span.f k l0 l1).bind fun t435 => (some ((t435.length : Int) == 91))) else (some false)) = some r := H
    have A4 := Aside0.mk A40
    clear A40
    by_cases c5 : t434 = true
    · subst c5
      have H1 : ((spec_l7Span.f k l0 l1).bind fun t435 => (some ((t435.length : Int) == 91))) = some r := by rw [if_pos rfl] at H; exact H
      clear H
      have H := H1
      clear H1
      replace H := Option.bind_eq_some_iff.mp H
      obtain ⟨t435, A60, H⟩ := H
      replace H : (some ((t435.length : Int) == 91)) = some r := H
      have A6 := Aside0.mk A60
      clear A60
      obtain rfl := Option.some.inj H
      go_enter Try.func27, Try.ntmps27
      go_wp2_with (first | (go_at_call 64; (with_reducible refine (spec_PlaneApart.calls k _ _ l0 _ _ l1 true _ ?side1 ?side2 ?side3 ?side4 A4.out).mono ?_); (case side1 => repeat (first | exact HR0.out | (with_reducible refine Kd.C_alloc ?_ _) | (with_reducible refine Kd.C_drewN ?_ _) | (with_reducible refine Kd.C_drew ?_))); (case side2 => exact HC0.out); (case side3 => repeat (first | exact HR1.out | (with_reducible refine Kd.C_alloc ?_ _) | (with_reducible refine Kd.C_drewN ?_ _) | (with_reducible refine Kd.C_drew ?_))); (case side4 => exact HC1.out); rintro e w7 ⟨rfl, hb⟩; have n0_ := Aside0.mk (below_step (by repeat (first | (with_reducible first | exact HB.out | apply below_alloc | apply pw_below_drewN | apply below_drew1) | exact HB.out)) hb); clear HB; have HB := n0_; clear n0_; (try clear hb); (try clear hb2); (try clear hk); (try clear hi)) | (go_at_call 65; (with_reducible refine (spec_l7Span.calls k _ _ l0 _ _ l1 t435 _ ?side1 ?side2 ?side3 ?side4 A6.out).mono ?_); (case side1 => repeat (first | exact (Kd.C_below HR0.out HB.out) | (with_reducible refine Kd.C_alloc ?_ _) | (with_reducible refine Kd.C_drewN ?_ _) | (with_reducible refine Kd.C_drew ?_))); (case side2 => exact HC0.out); (case side3 => repeat (first | exact (Kd.C_below HR1.out HB.out) | (with_reducible refine Kd.C_alloc ?_ _) | (with_reducible refine Kd.C_drewN ?_ _) | (with_reducible refine Kd.C_drew ?_))); (case side4 => exact HC1.out); rintro e w8 ⟨v436, rfl, ho0, hb⟩; have n0_ := Aside0.mk (Kd.R_lower ho0 (below_size (by repeat (first | (with_reducible first | exact HB.out | apply below_alloc | apply pw_below_drewN | apply below_drew1) | exact HB.out)))); have n1_ := Aside0.mk (below_step (by repeat (first | (with_reducible first | exact HB.out | apply below_alloc | apply pw_below_drewN | apply below_drew1) | exact HB.out)) hb); clear HB; have HO437 := n0_; have HB := n1_; clear n0_ n1_; (try clear hb); (try clear hb2); (try clear hk); (try clear hi); (try clear ho0); obtain ⟨Ao9, co9, eo9⟩ := Kd.R_slice HO437.out; subst eo9))
      go_ret
      exact ⟨by first | rfl | (simp [errW_none, errW_some] <;> rfl) | (simp [*, errW_none, errW_some] <;> rfl), by repeat (first | (with_reducible first | exact HB.out | apply below_alloc | apply pw_below_drewN | apply below_drew1) | exact HB.out)⟩
    · replace c5 := Bool.eq_false_iff.mpr c5
      subst c5
      have H1 : (some false) = some r := by rw [if_neg (show ¬ (false = true) by decide)] at H; exact H
      clear H
      have H := H1
      clear H1
      obtain rfl := Option.some.inj H
      go_enter Try.func27, Try.ntmps27
      go_wp2_with (first | (go_at_call 64; (with_reducible refine (spec_PlaneApart.calls k _ _ l0 _ _ l1 false _ ?side1 ?side2 ?side3 ?side4 A4.out).mono ?_); (case side1 => repeat (first | exact HR0.out | (with_reducible refine Kd.C_alloc ?_ _) | (with_reducible refine Kd.C_drewN ?_ _) | (with_reducible refine Kd.C_drew ?_))); (case side2 => exact HC0.out); (case side3 => repeat (first | exact HR1.out | (with_reducible refine Kd.C_alloc ?_ _) | (with_reducible refine Kd.C_drewN ?_ _) | (with_reducible refine Kd.C_drew ?_))); (case side4 => exact HC1.out); rintro e w10 ⟨rfl, hb⟩; have n0_ := Aside0.mk (below_step (by repeat (first | (with_reducible first | exact HB.out | apply below_alloc | apply pw_below_drewN | apply below_drew1) | exact HB.out)) hb); clear HB; have HB := n0_; clear n0_; (try clear hb); (try clear hb2); (try clear hk); (try clear hi)))
      go_ret
      exact ⟨by first | rfl | (simp [errW_none, errW_some] <;> rfl) | (simp [*, errW_none, errW_some] <;> rfl), by repeat (first | (with_reducible first | exact HB.out | apply below_alloc | apply pw_below_drewN | apply below_drew1) | exact HB.out)⟩
  · rw [if_neg c3] at H
    have c3b0 : ((l1.length : Int) == 4) = false := beq_eq_false_iff_ne.mpr c3
    have c3b1 : ((l1.length : Int) != 4) = true := bne_iff_ne.mpr c3
    obtain rfl := Option.some.inj H
    go_enter Try.func27, Try.ntmps27
    go_wp2
    go_ret
    exact ⟨by first | rfl | (simp [errW_none, errW_some] <;> rfl) | (simp [*, errW_none, errW_some] <;> rfl), by repeat (first | (with_reducible first | exact HB.out | apply below_alloc | apply pw_below_drewN | apply below_drew1) | exact HB.out)⟩

end Go.Proofs.Ytckipgldmkboiaa.P

namespace Go.Proofs.Ytckipgldmkboiaa.P
open Go.RowKit Go.Proofs.YtckipgldmkboiaaW.PrintWords Go.Proofs.YtckipgldmkboiaaW.PrintLast Go.Proofs.YtckipgldmkboiaaW.PrintMore
attribute [local go_sem] max2_int min2_int max_two min_two max_three min_three max_four min_four   -- for this text's walks alone
set_option linter.unusedVariables false
set_option linter.unusedSimpArgs false

/-! ### impl_SpanWhole: function 28 -/
def impl_SpanWhole.f (l0 : List Int) (l1 : List Int) : Option (Bool) := (impl_isSystem.f l0).bind fun t441 => (if t441 = true then ((impl_plane_isQuad.f l0 l1).bind fun t442 => (if t442 = true then ((impl_plane_span.f l0 l1).bind fun t443 => (some ((t443.length : Int) == 91))) else (some false))) else (some false))
set_option maxHeartbeats 8000000 in
set_option maxRecDepth 100000 in
theorem impl_SpanWhole.calls (A0 : Option Addr) (c0 : Nat) (l0 : List Int) (A1 : Option Addr) (c1 : Nat) (l1 : List Int) (r : Bool) (w : World) (hr0 : Kd.C (Kd.int .i64) w A0 l0.length l0) (hc0 : l0.length ≤ c0) (hr1 : Kd.C (Kd.int .i64) w A1 l1.length l1) (hc1 : l1.length ≤ c1) (h : impl_SpanWhole.f l0 l1 = some r) :
    Calls Try.prog 28 #[.slice A0 l0.length c0, .slice A1 l1.length c1] w fun e w' => e = .returned (.bool r) ∧ Below w.heap.size w w' := by
  have HR0 := Aside0.mk hr0
  have HC0 := Aside0.mk hc0
  clear hr0 hc0
  have HR1 := Aside0.mk hr1
  have HC1 := Aside0.mk hc1
  clear hr1 hc1
  have HB := Aside0.mk (Below.refl w.heap.size w)
  have H : ((impl_isSystem.f l0).bind fun t441 => (if t441 = true then ((impl_plane_isQuad.f l0 l1).bind fun t442 => (if t442 = true then ((impl_plane_span.f l0 l1).bind fun t443 => (some ((t443.length : Int) == 91))) else (some false))) else (some false))) = some r := h
  clear h
  replace H := Option.bind_eq_some_iff.mp H
  obtain ⟨t441, A30, H⟩ := H
  replace H : (if t441 = true then ((impl_plane_isQuad.f l0 l1).bind fun t442 => (if t442 = true then ((impl_plane_span.f l0 l1).bind fun t443 => (some ((t443.length : Int) == 91))) else (some false))) else (some false)) = some r := H
  have A3 := Aside0.mk A30
  clear A30
  by_cases c4 : t441 = true
  · subst c4
    have H1 : ((impl_plane_isQuad.f l0 l1).bind fun t442 => (if t442 = true then ((impl_plane_span.f l0 l1).bind fun t443 => (some ((t443.length : Int) == 91))) else (some false))) = some r := by rw [if_pos rfl] at H; exact H
    clear H
    have H := H1
    clear H1
    replace H := Option.bind_eq_some_iff.mp H
    obtain ⟨t442, A50, H⟩ := H
    replace H : (if t442 = true then ((impl_plane_span.f l0 l1).bind fun t443 => (some ((t443.length : Int) == 91))) else (some false)) = some r := H
    have A5 := Aside0.mk A50
    clear A50
    by_cases c6 : t442 = true
    · subst c6
      have H1 : ((impl_plane_span.f l0 l1).bind fun t443 => (some ((t443.length : Int) == 91))) = some r := by rw [if_pos rfl] at H; exact H
      clear H
      have H := H1
      clear H1
      replace H := Option.bind_eq_some_iff.mp H
      obtain ⟨t443, A70, H⟩ := H
      replace H : (some ((t443.length : Int) == 91)) = some r := H
      have A7 := Aside0.mk A70
      clear A70
      obtain rfl := Option.some.inj H
      go_enter Try.func28, Try.ntmps28
      go_wp2_with (first | ((with_reducible refine gate_callee (f := 66) rfl ?_); refine goesL_ (some 6) rfl rfl Try.func66 (by kernel_rfl) rfl #[.slice A0 l0.length c0] rfl (by (try simp only [List.map_toArray, List.map_cons, List.map_nil]); first | done | rfl | (simp only [List.length_drop, List.length_take]; rfl)) ?_; (with_reducible refine (impl_isSystem.calls _ _ l0 true _ ?side1 ?side2 A3.out).mono ?_); (case side1 => repeat (first | exact HR0.out | (with_reducible refine Kd.C_alloc ?_ _) | (with_reducible refine Kd.C_drewN ?_ _) | (with_reducible refine Kd.C_drew ?_))); (case side2 => exact HC0.out); rintro e w8 ⟨rfl, hb⟩; refine ⟨_, rfl, ?_⟩; have n0_ := Aside0.mk (below_step (by repeat (first | (with_reducible first | exact HB.out | apply below_alloc | apply pw_below_drewN | apply below_drew1) | exact HB.out)) hb); clear HB; have HB := n0_; clear n0_; (try clear hb); (try clear hb2); (try clear hk); (try clear hi)) | (go_at_call 67; (with_reducible refine (impl_plane_isQuad.calls _ _ l0 _ _ l1 true _ ?side1 ?side2 ?side3 ?side4 A5.out).mono ?_); (case side1 => repeat (first | exact (Kd.C_below HR0.out HB.out) | (with_reducible refine Kd.C_alloc ?_ _) | (with_reducible refine Kd.C_drewN ?_ _) | (with_reducible refine Kd.C_drew ?_))); (case side2 => exact HC0.out); (case side3 => repeat (first | exact (Kd.C_below HR1.out HB.out) | (with_reducible refine Kd.C_alloc ?_ _) | (with_reducible refine Kd.C_drewN ?_ _) | (with_reducible refine Kd.C_drew ?_))); (case side4 => exact HC1.out); rintro e w9 ⟨rfl, hb⟩; have n0_ := Aside0.mk (below_step (by repeat (first | (with_reducible first | exact HB.out | apply below_alloc | apply pw_below_drewN | apply below_drew1) | exact HB.out)) hb); clear HB; have HB := n0_; clear n0_; (try clear hb); (try clear hb2); (try clear hk); (try clear hi)) | (go_at_call 68; (with_reducible refine (impl_plane_span.calls _ _ l0 _ _ l1 t443 _ ?side1 ?side2 ?side3 ?side4 A7.out).mono ?_); (case side1 => repeat (first | exact (Kd.C_below HR0.out HB.out) | (with_reducible refine Kd.C_alloc ?_ _) | (with_reducible refine Kd.C_drewN ?_ _) | (with_reducible refine Kd.C_drew ?_))); (case side2 => exact HC0.out); (case side3 => repeat (first | exact (Kd.C_below HR1.out HB.out) | (with_reducible refine Kd.C_alloc ?_ _) | (with_reducible refine Kd.C_drewN ?_ _) | (with_reducible refine Kd.C_drew ?_))); (case side4 => exact HC1.out); rintro e w10 ⟨v444, rfl, ho0, hb⟩; have n0_ := Aside0.mk (Kd.R_lower ho0 (below_size (by repeat (first | (with_reducible first | exact HB.out | apply below_alloc | apply pw_below_drewN | apply below_drew1) | exact HB.out)))); have n1_ := Aside0.mk (below_step (by repeat (first | (with_reducible first | exact HB.out | apply below_alloc | apply pw_below_drewN | apply below_drew1) | exact HB.out)) hb); clear HB; have HO445 := n0_; have HB := n1_; clear n0_ n1_; (try clear hb); (try clear hb2); (try clear hk); (try clear hi); (try clear ho0); obtain ⟨Ao11, co11, eo11⟩ := Kd.R_slice HO445.out; subst eo11))
      go_ret
      exact ⟨by first | rfl | (simp [errW_none, errW_some] <;> rfl) | (simp [*, errW_none, errW_some] <;> rfl), by repeat (first | (with_reducible first | exact HB.out | apply below_alloc | apply pw_below_drewN | apply below_drew1) | exact HB.out)⟩
    · replace c6 := Bool.eq_false_iff.mpr c6
      subst c6
      have H1 : (some false) = some r := by rw [if_neg (show ¬ (false = true) by decide)] at H; exact H
      clear H
      have H := H1
      clear H1
      obtain rfl := Option.some.inj H
      go_enter Try.func28, Try.ntmps28
      go_wp2_with (first | ((with_reducible refine gate_callee (f := 66) rfl ?_); refine goesL_ (some 6) rfl rfl Try.func66 (by kernel_rfl) rfl #[.slice A0 l0.length c0] rfl (by (try simp only [List.map_toArray, List.map_cons, List.map_nil]); first | done | rfl | (simp only [List.length_drop, List.length_take]; rfl)) ?_; (with_reducible refine (impl_isSystem.calls _ _ l0 true _ ?side1 ?side2 A3.out).mono ?_); (case side1 => repeat (first | exact HR0.out | (with_reducible refine Kd.C_alloc ?_ _) | (with_reducible refine Kd.C_drewN ?_ _) | (with_reducible refine Kd.C_drew ?_))); (case side2 => exact HC0.out); rintro e w12 ⟨rfl, hb⟩; refine ⟨_, rfl, ?_⟩; have n0_ := Aside0.mk (below_step (by repeat (first | (with_reducible first | exact HB.out | apply below_alloc | apply pw_below_drewN | apply below_drew1) | exact HB.out)) hb); clear HB; have HB := n0_; clear n0_; (try clear hb); (try clear hb2); (try clear hk); (try clear hi)) | (go_at_call 67; (with_reducible refine (impl_plane_isQuad.calls _ _ l0 _ _ l1 false _ ?side1 ?side2 ?side3 ?side4 A5.out).mono ?_); (case side1 => repeat (first | exact (Kd.C_below HR0.out HB.out) | (with_reducible refine Kd.C_alloc ?_ _) | (with_reducible refine Kd.C_drewN ?_ _) | (with_reducible refine Kd.C_drew ?_))); (case side2 => exact HC0.out); (case side3 => repeat (first | exact (Kd.C_below HR1.out HB.out) | (with_reducible refine Kd.C_alloc ?_ _) | (with_reducible refine Kd.C_drewN ?_ _) | (with_reducible refine Kd.C_drew ?_))); (case side4 => exact HC1.out); rintro e w13 ⟨rfl, hb⟩; have n0_ := Aside0.mk (below_step (by repeat (first | (with_reducible first | exact HB.out | apply below_alloc | apply pw_below_drewN | apply below_drew1) | exact HB.out)) hb); clear HB; have HB := n0_; clear n0_; (try clear hb); (try clear hb2); (try clear hk); (try clear hi)))
      go_ret
      exact ⟨by first | rfl | (simp [errW_none, errW_some] <;> rfl) | (simp [*, errW_none, errW_some] <;> rfl), by repeat (first | (with_reducible first | exact HB.out | apply below_alloc | apply pw_below_drewN | apply below_drew1) | exact HB.out)⟩
  · replace c4 := Bool.eq_false_iff.mpr c4
    subst c4
    have H1 : (some false) = some r := by rw [if_neg (show ¬ (false = true) by decide)] at H; exact H
    clear H
    have H := H1
    clear H1
    obtain rfl := Option.some.inj H
    go_enter Try.func28, Try.ntmps28
    go_wp2_with (first | ((with_reducible refine gate_callee (f := 66) rfl ?_); refine goesL_ (some 6) rfl rfl Try.func66 (by kernel_rfl) rfl #[.slice A0 l0.length c0] rfl (by (try simp only [List.map_toArray, List.map_cons, List.map_nil]); first | done | rfl | (simp only [List.length_drop, List.length_take]; rfl)) ?_; (with_reducible refine (impl_isSystem.calls _ _ l0 false _ ?side1 ?side2 A3.out).mono ?_); (case side1 => repeat (first | exact HR0.out | (with_reducible refine Kd.C_alloc ?_ _) | (with_reducible refine Kd.C_drewN ?_ _) | (with_reducible refine Kd.C_drew ?_))); (case side2 => exact HC0.out); rintro e w14 ⟨rfl, hb⟩; refine ⟨_, rfl, ?_⟩; have n0_ := Aside0.mk (below_step (by repeat (first | (with_reducible first | exact HB.out | apply below_alloc | apply pw_below_drewN | apply below_drew1) | exact HB.out)) hb); clear HB; have HB := n0_; clear n0_; (try clear hb); (try clear hb2); (try clear hk); (try clear hi)))
    go_ret
    exact ⟨by first | rfl | (simp [errW_none, errW_some] <;> rfl) | (simp [*, errW_none, errW_some] <;> rfl), by repeat (first | (with_reducible first | exact HB.out | apply below_alloc | apply pw_below_drewN | apply below_drew1) | exact HB.out)⟩

end Go.Proofs.Ytckipgldmkboiaa.P

set_option linter.unusedVariables false
set_option linter.unusedSimpArgs false
namespace Go.Proofs.Ytckipgldmkboiaa.X
open Go.RowKit Go.Proofs.YtckipgldmkboiaaW.PrintWords Go.Proofs.YtckipgldmkboiaaW.PrintLast Go.Proofs.Ytckipgldmkboiaa.P

theorem span_eq {t l : List Int} (hs : sysB t = true) (hp : ∀ x ∈ l, In91 x) : impl_plane_span.f t l = some (spanS t (inL l)) := if_pos ⟨hs, List.all_eq_true.2 fun x hx => ptB_iff.2 (hp x hx)⟩
def wholeB (t l : List Int) : Bool := quadB t l && (((spanS t (inL l)).length : Int) == 91)
def quadN (t l : List Int) : Nat := cntL t (spanS t (inL l)) (joinI t (rd l 0) (rd l 1))
def quadO (t l : List Int) : Int × Bool := if quadB t l = true then ((quadN t l : Int) - 1, true) else (0, false)
theorem span_mem {t l : List Int} {x : Int} (h : x ∈ spanS t (inL l)) : In91 x := by
  unfold spanS ptsS at h
  have := mem_filI.1 h
  exact ⟨this.1, this.2.1⟩
theorem span_len (t l : List Int) : (spanS t (inL l)).length ≤ 91 := by unfold spanS; exact sizeS_le _
theorem implWhole_eq (t l : List Int) : impl_SpanWhole.f t l = some (wholeB t l) := by
  unfold impl_SpanWhole.f wholeB
  rw [show impl_isSystem.f t = some (sysB t) from rfl, Option.bind_some]
  by_cases hs : sysB t = true
  case neg =>
    have : quadB t l = false := by unfold quadB; rw [Bool.eq_false_iff.2 hs]; rfl
    rw [this, if_neg hs]; rfl
  rw [if_pos hs, isQuad_eq hs, Option.bind_some]
  by_cases hq : quadB t l = true
  case neg => rw [if_neg hq, Bool.eq_false_iff.2 hq]; rfl
  rw [if_pos hq, span_eq hs (quad_pts hq), hq]; rfl
theorem specWhole_ev {t l : List Int} (ht : t.length ≤ 1048576) : Ev (fun n => spec_SpanWhole.f n t l) (wholeB t l) := by
  unfold spec_SpanWhole.f wholeB
  by_cases h4 : l.length = 4
  case neg =>
    have : quadB t l = false := by unfold quadB; rw [decide_eq_false h4]; simp
    rw [this]
    exact Ev.neg (by omega) (Ev.done rfl)
  refine Ev.pos (by omega) (Ev.bind (planeApart_ev ht h4) ?_)
  by_cases hq : quadB t l = true
  case neg =>
    rw [Bool.eq_false_iff.2 hq]
    exact Ev.neg (by decide) (Ev.done rfl)
  have hs := (quadB_parts hq).1
  rw [hq]
  exact Ev.pos rfl (Ev.bind (l7Span_ev hs (by omega) (quad_pts hq)) (Ev.done rfl))
theorem implOrder_l0 {t : List Int} (hn : ninesB t 81 = true) {L : List Int} (hL : ∀ x ∈ L, In91 x) (hlen : L.length ≤ 91) {l : Int} (hl : In91 l) (d : Nat) :
    ∀ i : Int, 0 ≤ i → i + d = L.length → Ev (fun n => impl_SpanOrder.l0 n t l ((cntL t (L.take i.toNat) l : Int) - 1) L (L.length : Int) i) ((cntL t L l : Int) - 1, true) := by
  induction d with
  | zero =>
    intro i i0 i1
    refine Ev.step (fun n => by rw [impl_SpanOrder.l0]) ?_
    rw [List.take_of_length_le (show L.length ≤ i.toNat by omega)]
    exact Ev.neg (by omega) (Ev.done rfl)
  | succ d ih =>
    intro i i0 i1
    have nx := ih (i + 1) (by omega) (by omega)
    rw [cntL_take t L l i0 (by omega)] at nx
    have hc := cntL_le t (L.take i.toNat) l
    rw [List.length_take] at hc
    refine Ev.step (fun n => by rw [impl_SpanOrder.l0]) ?_
    rw [w64 (x := i + 1) (by omega) (by omega), w64 (x := (cntL t (L.take i.toNat) l : Int) - 1 + 1) (by omega) (by omega)]
    refine Ev.pos (by omega) (Ev.pos i0 (Ev.pos (by omega) (Ev.fix (plane_on_eq hn (hL _ (rd_mem (by omega) i0)) hl) ?_)))
    by_cases e : onB t (rd L i) l = true
    · rw [if_pos e] at nx
      refine Ev.pos e ?_
      rw [show (cntL t (L.take i.toNat) l : Int) - 1 + 1 = ((cntL t (L.take i.toNat) l + 1 : Nat) : Int) - 1 by omega]
      exact nx
    · rw [if_neg e] at nx
      exact Ev.neg e nx
theorem implOrder_ev (t l : List Int) : Ev (fun n => impl_SpanOrder.f n t l) (quadO t l) := by
  unfold impl_SpanOrder.f quadO
  refine Ev.fix (show impl_isSystem.f t = some (sysB t) from rfl) ?_
  by_cases hs : sysB t = true
  case neg =>
    have : quadB t l = false := by unfold quadB; rw [Bool.eq_false_iff.2 hs]; rfl
    rw [this]
    refine Ev.neg hs ?_
    refine Ev.step (fun n => by rw [impl_SpanOrder.j0]) ?_
    exact Ev.pos rfl (Ev.done rfl)
  refine Ev.pos hs (Ev.fix (isQuad_eq hs) ?_)
  by_cases hq : quadB t l = true
  case neg =>
    rw [Bool.eq_false_iff.2 hq]
    refine Ev.step (fun n => by rw [impl_SpanOrder.j0]) ?_
    exact Ev.pos rfl (Ev.done rfl)
  obtain ⟨_, h4, ha⟩ := quadB_parts hq
  have hd := (apart_parts ha).1
  have p0 := diffB_pt hd (i := 0) (by omega) (by omega)
  have p1 := diffB_pt hd (i := 1) (by omega) (by omega)
  have hne := diffB_ne hd (i := 0) (j := 1) (by omega) (by omega) (by omega)
  have hj := joinI_spec hs p0.1 p0.2 p1.1 p1.2 hne
  rw [hq]
  refine Ev.step (fun n => by rw [impl_SpanOrder.j0]) ?_
  refine Ev.neg (by decide) (Ev.pos (by omega) (Ev.pos (by omega) (Ev.bind (join_ev (sysB_parts hs).1 p0 p1) (Ev.fix (span_eq hs (quad_pts hq)) ?_))))
  have h0 := implOrder_l0 (sysB_parts hs).1 (L := spanS t (inL l)) (fun x hx => span_mem hx) (span_len t l) (l := joinI t (rd l 0) (rd l 1)) ⟨hj.1, hj.2.1⟩ (spanS t (inL l)).length 0 (by omega) (by omega)
  exact h0
theorem specOrder_l0 {t : List Int} (hn : ninesB t 81 = true) {L : List Int} (hL : ∀ x ∈ L, In91 x) (hlen : L.length ≤ 91) {l : Int} (hl : In91 l) (d : Nat) :
    ∀ i : Int, 0 ≤ i → i + d = L.length → Ev (fun n => spec_SpanOrder.l0 n t L l (cntL t (L.take i.toNat) l : Int) i) ((cntL t L l : Int) - 1, true) := by
  have hcl := cntL_le t L l
  induction d with
  | zero =>
    intro i i0 i1
    refine Ev.step (fun n => by rw [spec_SpanOrder.l0]) ?_
    rw [List.take_of_length_le (show L.length ≤ i.toNat by omega), w64 (x := (cntL t L l : Int) - 1) (by omega) (by omega)]
    exact Ev.neg (by omega) (Ev.done rfl)
  | succ d ih =>
    intro i i0 i1
    have nx := ih (i + 1) (by omega) (by omega)
    rw [cntL_take t L l i0 (by omega)] at nx
    have hc := cntL_le t (L.take i.toNat) l
    rw [List.length_take] at hc
    refine Ev.step (fun n => by rw [spec_SpanOrder.l0]) ?_
    rw [w64 (x := i + 1) (by omega) (by omega), w64 (x := (cntL t (L.take i.toNat) l : Int) + 1) (by omega) (by omega)]
    refine Ev.pos (by omega) (Ev.pos i0 (Ev.fix (l3On_eq hn (hL _ (rd_mem (by omega) i0)) hl) ?_))
    by_cases e : onB t (rd L i) l = true
    · rw [if_pos e] at nx
      exact Ev.pos e nx
    · rw [if_neg e] at nx
      exact Ev.neg e nx
theorem specOrder_ev {t l : List Int} (ht : t.length ≤ 1048576) : Ev (fun n => spec_SpanOrder.f n t l) (quadO t l) := by
  unfold spec_SpanOrder.f quadO
  by_cases h4 : l.length = 4
  case neg =>
    have : quadB t l = false := by unfold quadB; rw [decide_eq_false h4]; simp
    rw [this]
    refine Ev.neg (by omega) ?_
    refine Ev.step (fun n => by rw [spec_SpanOrder.j0]) ?_
    exact Ev.pos rfl (Ev.done rfl)
  refine Ev.pos (by omega) (Ev.bind (planeApart_ev ht h4) ?_)
  by_cases hq : quadB t l = true
  case neg =>
    rw [Bool.eq_false_iff.2 hq]
    refine Ev.step (fun n => by rw [spec_SpanOrder.j0]) ?_
    exact Ev.pos rfl (Ev.done rfl)
  obtain ⟨hs, _, ha⟩ := quadB_parts hq
  have hd := (apart_parts ha).1
  have p0 := diffB_pt hd (i := 0) (by omega) (by omega)
  have p1 := diffB_pt hd (i := 1) (by omega) (by omega)
  have hne := diffB_ne hd (i := 0) (j := 1) (by omega) (by omega) (by omega)
  have hj := joinI_spec hs p0.1 p0.2 p1.1 p1.2 hne
  rw [hq]
  refine Ev.step (fun n => by rw [spec_SpanOrder.j0]) ?_
  refine Ev.neg (by decide) (Ev.bind (l7Span_ev hs (by omega) (quad_pts hq)) (Ev.pos (by omega) (Ev.pos (by omega) (Ev.bind (l3Join_ev hs p0 p1 hne) ?_))))
  exact specOrder_l0 (sysB_parts hs).1 (L := spanS t (inL l)) (fun x hx => span_mem hx) (span_len t l) (l := joinI t (rd l 0) (rd l 1)) ⟨hj.1, hj.2.1⟩ (spanS t (inL l)).length 0 (by omega) (by omega)

end Go.Proofs.Ytckipgldmkboiaa.X

set_option linter.unusedVariables false
set_option linter.unusedSimpArgs false
namespace Go.Proofs.Ytckipgldmkboiaa.Pure
open Go.RowKit Go.Proofs.Ytckipgldmkboiaa.P Go.Proofs.YtckipgldmkboiaaW.PrintWords Go.Proofs.YtckipgldmkboiaaW.PrintLast Go.Proofs.Ytckipgldmkboiaa.X

theorem FnExactSpanOrder : laws_FnExactSpanOrder.Pure := by
  intro l0 l1 _ _ _ _ _ _
  refine Ev.rounds ?_
  unfold laws_FnExactSpanOrder.f
  by_cases hb_l0 : (l0.length : Int) > 1048576
  · exact Ev.pos hb_l0 (Ev.done rfl)
  refine Ev.neg hb_l0 ?_
  have h_l0 : l0.length ≤ 1048576 := by omega
  by_cases hb_l1 : (l1.length : Int) > 1048576
  · exact Ev.pos hb_l1 (Ev.done rfl)
  refine Ev.neg hb_l1 ?_
  have h_l1 : l1.length ≤ 1048576 := by omega
  refine Ev.bind (toIntS_ev l0 h_l0) ?_
  refine Ev.bind (toIntS_ev l1 h_l1) ?_
  refine Ev.bind (specOrder_ev h_l0) ?_
  refine Ev.bind (toIntS_ev l0 h_l0) ?_
  refine Ev.bind (toIntS_ev l1 h_l1) ?_
  refine Ev.bind (implOrder_ev l0 l1) ?_
  refine Ev.pos rfl (Ev.step (fun k => by rw [laws_FnExactSpanOrder.j0]) (Ev.neg (by simp) ?_))
  refine Ev.bind (toIntS_ev l0 h_l0) (Ev.bind (eqIntS_ev l0 l0 h_l0) (Ev.pos (by simp) ?_))
  refine Ev.bind (toIntS_ev l1 h_l1) (Ev.bind (eqIntS_ev l1 l1 h_l1) (Ev.pos (by simp) (Ev.done rfl)))

end Go.Proofs.Ytckipgldmkboiaa.Pure

namespace Go.Proofs.Ytckipgldmkboiaa.fnExactSpanOrder
open Go.ChangeShapes Go.WideShapes Go.ChangeAt Go.RowKit
open Go.ChangeMaps (open_string shut_string)
set_option linter.unusedVariables false
theorem own : ownKnob Try.prog.godebug = none := by kernel_rfl
theorem laidOut : laidOutB Try.prog = true := by kernel_rfl
def IsRow (k : IntKind) (w : World) (a : Option Addr) (len cap : Nat) (zs : List Int) : Prop :=
  (a = none ∧ len = 0 ∧ cap = 0 ∧ zs = []) ∨
  ∃ x, a = some x ∧ len ≤ cap ∧ cap ≤ maxLen ∧ zs.length = cap ∧ (∀ i, i < zs.length → w.cell? (x.add i) = some (.int k (zs.getD i 0))) ∧ ∀ n ∈ zs, (Lit.int k n).wf = true
set_option maxRecDepth 100000 in
theorem lifted (os : Os) (started : os.Started) (H : Type) (enc : TypeId × Value → H) :
    ReturnsInHanded {} Try.checked os 8 .any (Rows.fnExactSpanOrderSpec.pre6 enc Try.prog Try.f8 Rows.fnExactSpanOrderRow.domain false) (Rows.fnExactSpanOrderSpec.post enc Try.prog Try.f8 false true false false) := by
  refine returnsInHanded_of_change_sized (C := Try.checked) own started (by kernel_rfl) Try.func8
    (ChangeSpec.witness6 (enc := enc) (C := Try.checked) false ⟨#[], #[.slice none 0 0, .slice none 0 0], []⟩ 8 (by kernel_rfl) (by kernel_rfl) (by kernel_rfl) (by kernel_rfl)) ?_
  intro W base args ds gs before hval0 hW hcnd hsz0 _
  have hsz : (DataW.weightsEach Try.prog (Try.f8.params.toList ++ Rows.fnExactSpanOrderSpec.plain.varTypes Try.prog) (ds ++ gs)).all (· ≤ reachBytes) = true := hsz0
  have hval : ∀ (j : Nat) t v, Try.f8.params[j]? = some t → args[j]? = some v → Value.okWide Try.prog W .any base t v := hval0
  have hW' := hW
  obtain ⟨p, q, hA0, hV, rfl, hfz, hnd⟩ := hW
  have hA : DataW.TrodAll enc Try.prog W 0 (fun _ => true) true Try.f8.params.toList args.toList ds p := hA0
  rw [Try.params8] at hA hval hsz
  obtain ⟨v0, vs0, d0, ds0, p0, q0, hargs, rfl, rfl, h0, r0⟩ := trodAll_cons hA
  obtain ⟨v1, vs1, d1, ds1, p1, q1, rfl, rfl, rfl, h1, r1⟩ := trodAll_cons r0
  obtain ⟨rfl, rfl, rfl⟩ := trodAll_nil r1
  obtain rfl : args = #[v0, v1] := by cases args; simp_all
  obtain ⟨rfl, rfl⟩ := trodVars_none hV
  obtain ⟨a0, len0, cap0, rfl⟩ := okWide_slice Try.underlying22 (hval 0 22 v0 rfl rfl)
  have k0 := h0
  have lt0 : ∀ x ∈ p0, x.block < W.heap.size := by obtain ⟨m, hm⟩ := k0; exact DataW.trod_lt m _ _ _ hm
  obtain ⟨z0, w0⟩ : ∃ zs, IsRow .i64 W a0 len0 cap0 zs := by
    obtain ⟨fuel, hf⟩ := h0
    rcases open_ints Try.underlying22 Try.underlying3 (by kernel_rfl) hf with ⟨hcs, _⟩ | ⟨x, l, c, zs, hcs, _, hl, hm, hz, _, hcell, hwz⟩
    · simp [Value.cells] at hcs
      obtain ⟨rfl, rfl, rfl⟩ := hcs
      exact ⟨[], .inl ⟨rfl, rfl, rfl, rfl⟩⟩
    · simp [Value.cells] at hcs
      obtain ⟨rfl, rfl, rfl⟩ := hcs
      exact ⟨zs, .inr ⟨_, rfl, hl, hm, by simpa using hz, hcell, hwz⟩⟩
  have y0 : len0 * 8 ≤ 140737488351232 := Go.Proofs.YtckipgldmkboiaaW.PrintWords.sized_ints hsz (j := 0) (t := 22) rfl rfl Try.underlying22 Try.underlying3 (by kernel_rfl) (by kernel_rfl) h0
  obtain ⟨a1, len1, cap1, rfl⟩ := okWide_slice Try.underlying22 (hval 1 22 v1 rfl rfl)
  have k1 := h1
  have lt1 : ∀ x ∈ p1, x.block < W.heap.size := by obtain ⟨m, hm⟩ := k1; exact DataW.trod_lt m _ _ _ hm
  obtain ⟨z1, w1⟩ : ∃ zs, IsRow .i64 W a1 len1 cap1 zs := by
    obtain ⟨fuel, hf⟩ := h1
    rcases open_ints Try.underlying22 Try.underlying3 (by kernel_rfl) hf with ⟨hcs, _⟩ | ⟨x, l, c, zs, hcs, _, hl, hm, hz, _, hcell, hwz⟩
    · simp [Value.cells] at hcs
      obtain ⟨rfl, rfl, rfl⟩ := hcs
      exact ⟨[], .inl ⟨rfl, rfl, rfl, rfl⟩⟩
    · simp [Value.cells] at hcs
      obtain ⟨rfl, rfl, rfl⟩ := hcs
      exact ⟨zs, .inr ⟨_, rfl, hl, hm, by simpa using hz, hcell, hwz⟩⟩
  have y1 : len1 * 8 ≤ 140737488351232 := Go.Proofs.YtckipgldmkboiaaW.PrintWords.sized_ints hsz (j := 1) (t := 22) rfl rfl Try.underlying22 Try.underlying3 (by kernel_rfl) (by kernel_rfl) h1
  clear hA0 hval0 hsz0 hsz
  refine (P.laws_FnExactSpanOrder.walk Pure.FnExactSpanOrder a0 len0 cap0 z0 a1 len1 cap1 z1 W w0 y0 w1 y1).mono fun e W' ⟨he, bel⟩ => ?_
  subst he
  exact ⟨_, rfl, _, _, _, [], _, [], hW', trodAll_mk1 (shut_bool Try.underlying4 _), (trodAll_cons_mk (Below.trod laidOut (by kernel_rfl) (of_decide_eq_true (by kernel_rfl)) k0 bel lt0) (trodAll_cons_mk (Below.trod laidOut (by kernel_rfl) (of_decide_eq_true (by kernel_rfl)) k1 bel lt1) trodAll_mk0)), rfl, bel.frame _, fun h => by cases h⟩
theorem over : Rows.fnExactSpanOrderRow.holds Try.pinned (OpenSpec.ofChange Rows.fnExactSpanOrderSpec) :=
  OpenClaim.holds_of_wide 8 Try.f8 rfl rfl rfl rfl rfl rfl rfl ⟨rfl, rfl, rfl, rfl, rfl⟩ rfl rfl rfl rfl rfl (by kernel_rfl) Try.func8 (by kernel_rfl)
    (of_decide_eq_true (by kernel_rfl)) (by unfold Func.isWrapper; first | (rw [if_pos (by decide +kernel)]; kernel_rfl) | (rw [if_neg (by decide +kernel)]; exact ⟨rfl, rfl⟩))
    (fun os started H enc _ => lifted os started H enc)
theorem proved : Rows.FnExactSpanOrderSaid := over
#print axioms proved
end Go.Proofs.Ytckipgldmkboiaa.fnExactSpanOrder
namespace Go.Proofs.Ytckipgldmkboiaa
/-- The row, under a short name, for the claim. -/
theorem fnExactSpanOrder_holds : Rows.FnExactSpanOrderSaid := fnExactSpanOrder.proved
end Go.Proofs.Ytckipgldmkboiaa
