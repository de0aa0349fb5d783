/- The law FnMoveOrder of the given program: for every input the call returns true, and each argument reads afterwards as it read before. No conditions. (Part 3 of 3; the last part holds the theorem.) -/
import Derived.Test.YtbfafjejmljcpaaMFnMoveOrder0
import Derived.Test.YtbfafjejmljcpaaMFnMoveOrder1
import Derived.Test.YtbfafjejmljcpaaWMore
import Derived.Test.YtbfafjejmljcpaaWApart
import Derived.Test.YtbfafjejmljcpaaRows
import Derived.WalkKit
import Derived.ProofKit
import Derived.OpenShut
import Derived.ShutString
import Derived.ChangeOld
import Derived.Below
import Derived.SizedLaws
import Derived.Test.YtbfafjejmljcpaaWSized
namespace Go.Proofs.Ytbfafjejmljcpaa.P
open Go.RowKit Go.Proofs.YtbfafjejmljcpaaW.PrintWords Go.Proofs.YtbfafjejmljcpaaW.PrintLast
set_option linter.unusedVariables false
set_option linter.unusedSimpArgs false

def spec_l1Square.l0 : Nat → Int → Int → Option (Bool)
 | 0, _, _ => none
 | k + 1, x0, x3 => if x3 < 9 then ((spec_l1Times.f x3 x3).bind fun t107 => (if t107 = x0 then (some true) else (spec_l1Square.l0 k x0 (wrap64 (x3 + 1))))) else (some false)
def spec_l1Square.f (k : Nat) (a0 : Int) : Option (Bool) := spec_l1Square.l0 k a0 1
theorem spec_l1Square.mono_l : ∀ k, (∀ y0 y1, LeO (spec_l1Square.l0 k y0 y1) (spec_l1Square.l0 (k + 1) y0 y1))
 | 0 => fun _ _ r h => by simp [spec_l1Square.l0] at h
 | k + 1 => by
  have ih0 := spec_l1Square.mono_l k
  ·intro y0 y1
   unfold spec_l1Square.l0
   repeat' first
   | (with_reducible exact ih0 _ _)
   | (with_reducible exact LeO.refl _)
   | (with_reducible exact LeO.none _)
   | (with_reducible refine LeO.ite ?_ ?_)
   | (with_reducible refine LeO.bind ?_ (fun _ => ?_))
   | exact ih0 _ _
   | exact LeO.none _
   | refine LeO.ite ?_ ?_
   | refine LeO.bind ?_ (fun _ => ?_)
theorem spec_l1Square.mono : ∀ a0 k, LeO (spec_l1Square.f k a0) (spec_l1Square.f (k + 1) a0) := by
 intro a0 k
 have ih0 := spec_l1Square.mono_l k
 unfold spec_l1Square.f
 repeat' first
   | (with_reducible exact ih0 _ _)
   | (with_reducible exact LeO.refl _)
   | (with_reducible exact LeO.none _)
   | (with_reducible refine LeO.ite ?_ ?_)
   | (with_reducible refine LeO.bind ?_ (fun _ => ?_))
   | exact ih0 _ _
   | exact LeO.none _
   | refine LeO.ite ?_ ?_
   | refine LeO.bind ?_ (fun _ => ?_)
set_option maxHeartbeats 8000000 in
set_option maxRecDepth 100000 in
theorem spec_l1Square.calls (k : Nat) (a0 : Int) (r : Bool) (w : World) (h : spec_l1Square.f k a0 = some r) :
  Calls Try.prog 164 #[.int .i64 a0] w fun e w' => e = .returned (.bool r) ∧ Drawn0 w w' := by
 have H : (spec_l1Square.l0 k a0 1) = some r := h
 clear h
 have H' := Aside0.mk H
 clear H
 go_enter Try.func164, Try.ntmps164
 go_wp2
 go_loopg [3] k (fun kq v3 w' => ∃ (x3_1 : Int), v3 = .int .i64 x3_1 ∧ Aside0 (spec_l1Square.l0 kq a0 x3_1 = some r) ∧ Aside0 (kq ≤ k) ∧ Drawn0 w w')
 case atStart => exact ⟨(1), (by first | rfl | (simp; done) | (simp [*]; done)), H', ⟨Nat.le_refl _⟩, by repeat (first | exact Drawn0.refl _ | apply Drawn0.step)⟩
 case round =>
  clear H'
  try clear c1
  obtain ⟨x3_1, rfl, HA, HK1, ⟨m1, rfl⟩⟩ := hrel
  cases gk with
  | zero => exact absurd HA.out (by simp [spec_l1Square.l0])
  | succ k1 =>
   have H := HA.out
   clear HA
   simp only [spec_l1Square.l0] at H
   by_cases c2 : x3_1 < 9
   ·rw [if_pos c2] at H
    have c2b0 : decide (x3_1 < 9) = true := decide_eq_true c2
    clear c2
    replace H := Option.bind_eq_some_iff.mp H
    obtain ⟨t107, A30, H⟩ := H
    replace H : (if t107 = a0 then (some true) else (spec_l1Square.l0 k1 a0 (wrap64 (x3_1 + 1)))) = some r := H
    have A3 := Aside0.mk A30
    clear A30
    by_cases c4 : t107 = a0
    ·rw [if_pos c4] at H
     have c4b0 : (t107 == a0) = true := beq_iff_eq.mpr c4
     have c4b1 : (t107 != a0) = false := bne_eq_false_iff_eq.mpr c4
     clear c4
     obtain rfl := Option.some.inj H
     go_wp2_with (first | (refine goesL_ (some 10) rfl rfl Try.func113 (by kernel_rfl) rfl #[.int .i64 x3_1, .int .i64 x3_1] rfl ll_ ?_; (with_reducible refine (spec_l1Times.calls x3_1 x3_1 t107 _ A3.out).mono ?_); rintro e w' ⟨rfl, ⟨nd, rfl⟩⟩; refine ⟨_, rfl, ?_⟩))
     go_ret
     exact ⟨by first | rfl | (simp; done) | (simp [*]; done), by repeat (first | exact Drawn0.refl _ | apply Drawn0.step)⟩
    ·rw [if_neg c4] at H
     have c4b0 : (t107 == a0) = false := beq_eq_false_iff_ne.mpr c4
     have c4b1 : (t107 != a0) = true := bne_iff_ne.mpr c4
     have H' := Aside0.mk H
     clear H
     go_wp2_with (first | (refine goesL_ (some 10) rfl rfl Try.func113 (by kernel_rfl) rfl #[.int .i64 x3_1, .int .i64 x3_1] rfl ll_ ?_; (with_reducible refine (spec_l1Times.calls x3_1 x3_1 t107 _ A3.out).mono ?_); rintro e w' ⟨rfl, ⟨nd, rfl⟩⟩; refine ⟨_, rfl, ?_⟩))
     go_roundg k1
     case measure => have := HK1.out; omega
     case rel => exact ⟨(wrap64 (x3_1 + 1)), (by first | rfl | (simp; done) | (simp [*]; done)), H', ⟨by have := HK1.out; omega⟩, by repeat (first | exact Drawn0.refl _ | apply Drawn0.step)⟩
   ·rw [if_neg c2] at H
    have c2b0 : decide (x3_1 < 9) = false := decide_eq_false c2
    clear c2
    obtain rfl := Option.some.inj H
    go_wp2
    go_ret
    exact ⟨by first | rfl | (simp; done) | (simp [*]; done), by repeat (first | exact Drawn0.refl _ | apply Drawn0.step)⟩
end Go.Proofs.Ytbfafjejmljcpaa.P

namespace Go.Proofs.Ytbfafjejmljcpaa.P
open Go.RowKit Go.Proofs.YtbfafjejmljcpaaW.PrintWords Go.Proofs.YtbfafjejmljcpaaW.PrintLast
set_option linter.unusedVariables false
set_option linter.unusedSimpArgs false

def spec_l2Hall.f (a0 : Int) (a1 : Int) (a2 : Int) (a3 : Int) : Option (Int) := if (wrap64 (Int.tdiv a1 3)) = 0 then ((spec_l1Times.f a0 a1).bind fun t110 => (some t110)) else (some (wrap64 ((Int.tmod (wrap64 ((wrap64 ((Int.tmod a0 3) * (Int.tmod a1 3))) + (wrap64 ((wrap64 (2 * (wrap64 (Int.tdiv a0 3)))) * (wrap64 ((wrap64 ((wrap64 ((wrap64 ((Int.tmod a1 3) * (Int.tmod a1 3))) + (wrap64 ((wrap64 (2 * a2)) * (Int.tmod a1 3))))) + (wrap64 (2 * a3)))) * (wrap64 (Int.tdiv a1 3)))))))) 3) + (wrap64 ((Int.tmod (wrap64 ((wrap64 ((wrap64 ((Int.tmod a0 3) * (wrap64 (Int.tdiv a1 3)))) + (wrap64 ((wrap64 (2 * (wrap64 (Int.tdiv a0 3)))) * (Int.tmod a1 3))))) + (wrap64 ((wrap64 (Int.tdiv a0 3)) * a2)))) 3) * 3)))))
set_option maxHeartbeats 8000000 in
set_option maxRecDepth 100000 in
theorem spec_l2Hall.calls (a0 : Int) (a1 : Int) (a2 : Int) (a3 : Int) (r : Int) (w : World) (h : spec_l2Hall.f a0 a1 a2 a3 = some r) :
  Calls Try.prog 166 #[.int .i64 a0, .int .i64 a1, .int .i64 a2, .int .i64 a3] w fun e w' => e = .returned (.int .i64 r) ∧ Drawn0 w w' := by
 have H : (if (wrap64 (Int.tdiv a1 3)) = 0 then ((spec_l1Times.f a0 a1).bind fun t110 => (some t110)) else (some (wrap64 ((Int.tmod (wrap64 ((wrap64 ((Int.tmod a0 3) * (Int.tmod a1 3))) + (wrap64 ((wrap64 (2 * (wrap64 (Int.tdiv a0 3)))) * (wrap64 ((wrap64 ((wrap64 ((wrap64 ((Int.tmod a1 3) * (Int.tmod a1 3))) + (wrap64 ((wrap64 (2 * a2)) * (Int.tmod a1 3))))) + (wrap64 (2 * a3)))) * (wrap64 (Int.tdiv a1 3)))))))) 3) + (wrap64 ((Int.tmod (wrap64 ((wrap64 ((wrap64 ((Int.tmod a0 3) * (wrap64 (Int.tdiv a1 3)))) + (wrap64 ((wrap64 (2 * (wrap64 (Int.tdiv a0 3)))) * (Int.tmod a1 3))))) + (wrap64 ((wrap64 (Int.tdiv a0 3)) * a2)))) 3) * 3)))))) = some r := h
 clear h
 by_cases c5 : (wrap64 (Int.tdiv a1 3)) = 0
 ·rw [if_pos c5] at H
  have c5b0 : ((wrap64 (Int.tdiv a1 3)) == 0) = true := beq_iff_eq.mpr c5
  have c5b1 : ((wrap64 (Int.tdiv a1 3)) != 0) = false := bne_eq_false_iff_eq.mpr c5
  clear c5
  replace H := Option.bind_eq_some_iff.mp H
  obtain ⟨t110, A60, H⟩ := H
  replace H : (some t110) = some r := H
  have A6 := Aside0.mk A60
  clear A60
  obtain rfl := Option.some.inj H
  go_enter Try.func166, Try.ntmps166
  go_wp2_with (first | (refine goesL_ (some 22) rfl rfl Try.func113 (by kernel_rfl) rfl #[.int .i64 a0, .int .i64 a1] rfl ll_ ?_; (with_reducible refine (spec_l1Times.calls a0 a1 t110 _ A6.out).mono ?_); rintro e w' ⟨rfl, ⟨nd, rfl⟩⟩; refine ⟨_, rfl, ?_⟩))
  go_ret
  exact ⟨by first | rfl | (simp; done) | (simp [*]; done), by repeat (first | exact Drawn0.refl _ | apply Drawn0.step)⟩
 ·rw [if_neg c5] at H
  have c5b0 : ((wrap64 (Int.tdiv a1 3)) == 0) = false := beq_eq_false_iff_ne.mpr c5
  have c5b1 : ((wrap64 (Int.tdiv a1 3)) != 0) = true := bne_iff_ne.mpr c5
  obtain rfl := Option.some.inj H
  go_enter Try.func166, Try.ntmps166
  go_wp2
  go_ret
  exact ⟨by first | rfl | (simp; done) | (simp [*]; done), by repeat (first | exact Drawn0.refl _ | apply Drawn0.step)⟩
end Go.Proofs.Ytbfafjejmljcpaa.P

namespace Go.Proofs.Ytbfafjejmljcpaa.P
open Go.RowKit Go.Proofs.YtbfafjejmljcpaaW.PrintWords Go.Proofs.YtbfafjejmljcpaaW.PrintLast
set_option linter.unusedVariables false
set_option linter.unusedSimpArgs false

def spec_l2Product.j0 : Nat → Int → Int → Bool → Option (Int)
 | 0, _, _, _ => none
 | k + 1, x1, x2, x16 => if x16 = true then ((spec_l1Cube.f x1).bind fun t112 => ((spec_l1Times.f t112 x2).bind fun t113 => (some t113))) else ((spec_l1Times.f x1 x2).bind fun t114 => (some t114))
def spec_l2Product.f (k : Nat) (a0 : Int) (a1 : Int) (a2 : Int) : Option (Int) := if a0 = 1 then (if a2 = 0 then (spec_l2Product.j0 k a1 a2 false) else ((spec_l1Square.f k a2).bind fun t111 => (spec_l2Product.j0 k a1 a2 (!t111)))) else (if a0 = 2 then ((spec_l2Hall.f a1 a2 0 2).bind fun t115 => (some t115)) else (if a0 = 3 then ((spec_l2Hall.f a1 a2 1 1).bind fun t116 => (some t116)) else (if a0 = 4 then ((spec_l2Hall.f a1 a2 2 1).bind fun t117 => (some t117)) else ((spec_l1Times.f a1 a2).bind fun t118 => (some t118)))))
theorem spec_l2Product.mono_l : ∀ k, (∀ y0 y1 y2, LeO (spec_l2Product.j0 k y0 y1 y2) (spec_l2Product.j0 (k + 1) y0 y1 y2))
 | 0 => fun _ _ _ r h => by simp [spec_l2Product.j0] at h
 | k + 1 => by
  have ih0 := spec_l2Product.mono_l k
  ·intro y0 y1 y2
   unfold spec_l2Product.j0
   repeat' first
   | (with_reducible exact ih0 _ _ _)
   | (with_reducible exact spec_l1Square.mono _ _)
   | (with_reducible exact LeO.refl _)
   | (with_reducible exact LeO.none _)
   | (with_reducible refine LeO.ite ?_ ?_)
   | (with_reducible refine LeO.bind ?_ (fun _ => ?_))
   | exact ih0 _ _ _
   | exact spec_l1Square.mono _ _
   | exact LeO.none _
   | refine LeO.ite ?_ ?_
   | refine LeO.bind ?_ (fun _ => ?_)
theorem spec_l2Product.mono : ∀ a0 a1 a2 k, LeO (spec_l2Product.f k a0 a1 a2) (spec_l2Product.f (k + 1) a0 a1 a2) := by
 intro a0 a1 a2 k
 have ih0 := spec_l2Product.mono_l k
 unfold spec_l2Product.f
 repeat' first
   | (with_reducible exact ih0 _ _ _)
   | (with_reducible exact spec_l1Square.mono _ _)
   | (with_reducible exact LeO.refl _)
   | (with_reducible exact LeO.none _)
   | (with_reducible refine LeO.ite ?_ ?_)
   | (with_reducible refine LeO.bind ?_ (fun _ => ?_))
   | exact ih0 _ _ _
   | exact spec_l1Square.mono _ _
   | exact LeO.none _
   | refine LeO.ite ?_ ?_
   | refine LeO.bind ?_ (fun _ => ?_)
set_option maxHeartbeats 8000000 in
set_option maxRecDepth 100000 in
theorem spec_l2Product.calls (k : Nat) (a0 : Int) (a1 : Int) (a2 : Int) (r : Int) (w : World) (h : spec_l2Product.f k a0 a1 a2 = some r) :
  Calls Try.prog 143 #[.int .i64 a0, .int .i64 a1, .int .i64 a2] w fun e w' => e = .returned (.int .i64 r) ∧ Drawn0 w w' := by
 have H : (if a0 = 1 then (if a2 = 0 then (spec_l2Product.j0 k a1 a2 false) else ((spec_l1Square.f k a2).bind fun t111 => (spec_l2Product.j0 k a1 a2 (!t111)))) else (if a0 = 2 then ((spec_l2Hall.f a1 a2 0 2).bind fun t115 => (some t115)) else (if a0 = 3 then ((spec_l2Hall.f a1 a2 1 1).bind fun t116 => (some t116)) else (if a0 = 4 then ((spec_l2Hall.f a1 a2 2 1).bind fun t117 => (some t117)) else ((spec_l1Times.f a1 a2).bind fun t118 => (some t118)))))) = some r := h
 clear h
 by_cases c4 : a0 = 1
 ·rw [if_pos c4] at H
  have c4b0 : (a0 == 1) = true := beq_iff_eq.mpr c4
  have c4b1 : (a0 != 1) = false := bne_eq_false_iff_eq.mpr c4
  clear c4
  have HC5 := Aside0.mk H
  clear H
  go_enter Try.func143, Try.ntmps143
  go_upto_region 3 with (fail)
  go_cut [16] (fun v16 wc => ∃ (kq : Nat) (x16_4 : Bool), v16 = .bool x16_4 ∧ Aside0 (spec_l2Product.j0 kq a1 a2 x16_4 = some r) ∧ Aside0 (kq ≤ k) ∧ Drawn0 w wc)
  case first =>
   have H := HC5.out
   clear HC5
   by_cases c6 : a2 = 0
   ·rw [if_pos c6] at H
    have c6b0 : (a2 == 0) = true := beq_iff_eq.mpr c6
    have c6b1 : (a2 != 0) = false := bne_eq_false_iff_eq.mpr c6
    clear c6
    (first | rw [c6b0] | (simp only [i64_w, i32_w]; rw [c6b0]) | skip)
    have H' := Aside0.mk H
    clear H
    go_wp2
    go_meet
    case rel => exact ⟨_, (false), (by first | rfl | (simp; done) | (simp [*]; done)), H', ⟨by first | omega | exact Nat.le_refl _⟩, by repeat (first | exact Drawn0.refl _ | apply Drawn0.step)⟩
   ·rw [if_neg c6] at H
    have c6b0 : (a2 == 0) = false := beq_eq_false_iff_ne.mpr c6
    have c6b1 : (a2 != 0) = true := bne_iff_ne.mpr c6
    (first | rw [c6b0] | (simp only [i64_w, i32_w]; rw [c6b0]) | skip)
    replace H := Option.bind_eq_some_iff.mp H
    obtain ⟨t111, A70, H⟩ := H
    replace H : (spec_l2Product.j0 k a1 a2 (!t111)) = some r := H
    have A7 := Aside0.mk A70
    clear A70
    have H' := Aside0.mk H
    clear H
    go_wp2_with (first | (go_at_call 164; (with_reducible refine (spec_l1Square.calls k a2 t111 _ A7.out).mono ?_); rintro e w' ⟨rfl, ⟨nd, rfl⟩⟩))
    go_meet
    case rel => exact ⟨_, (!t111), (by first | rfl | (simp; done) | (simp [*]; done)), H', ⟨by first | omega | exact Nat.le_refl _⟩, by repeat (first | exact Drawn0.refl _ | apply Drawn0.step)⟩
  case rest =>
   clear HC5
   try clear c1
   try clear p2
   try clear c4
   try clear c4b0
   try clear c4b1
   try clear c6
   try clear c6b0
   try clear c6b1
   obtain ⟨kq, x16_4, rfl, HA, HJ4, ⟨mc4, rfl⟩⟩ := hcut
   cases kq with
   | zero => exact absurd HA.out (by simp [spec_l2Product.j0])
   | succ kj4 =>
    have H := HA.out
    clear HA
    simp only [spec_l2Product.j0] at H
    by_cases c8 : x16_4 = true
    ·subst c8
     have H1 : ((spec_l1Cube.f a1).bind fun t112 => ((spec_l1Times.f t112 a2).bind fun t113 => (some t113))) = some r := by rw [if_pos rfl] at H; exact H
     clear H
     have H := H1
     clear H1
     replace H := Option.bind_eq_some_iff.mp H
     obtain ⟨t112, A90, H⟩ := H
     replace H : ((spec_l1Times.f t112 a2).bind fun t113 => (some t113)) = some r := H
     have A9 := Aside0.mk A90
     clear A90
     replace H := Option.bind_eq_some_iff.mp H
     obtain ⟨t113, A100, H⟩ := H
     replace H : (some t113) = some r := H
     have A10 := Aside0.mk A100
     clear A100
     obtain rfl := Option.some.inj H
     go_wp2_with (first | (refine goesL_ (some 18) rfl rfl Try.func165 (by kernel_rfl) rfl #[.int .i64 a1] rfl ll_ ?_; (with_reducible refine (spec_l1Cube.calls a1 t112 _ A9.out).mono ?_); rintro e w' ⟨rfl, ⟨nd, rfl⟩⟩; refine ⟨_, rfl, ?_⟩) | (refine goesL_ (some 20) rfl rfl Try.func113 (by kernel_rfl) rfl #[.int .i64 t112, .int .i64 a2] rfl ll_ ?_; (with_reducible refine (spec_l1Times.calls t112 a2 t113 _ A10.out).mono ?_); rintro e w' ⟨rfl, ⟨nd, rfl⟩⟩; refine ⟨_, rfl, ?_⟩))
     go_ret
     exact ⟨by first | rfl | (simp; done) | (simp [*]; done), by repeat (first | exact Drawn0.refl _ | apply Drawn0.step)⟩
    ·replace c8 := Bool.eq_false_iff.mpr c8
     subst c8
     have H1 : ((spec_l1Times.f a1 a2).bind fun t114 => (some t114)) = some r := by rw [if_neg (show ¬ (false = true) by decide)] at H; exact H
     clear H
     have H := H1
     clear H1
     replace H := Option.bind_eq_some_iff.mp H
     obtain ⟨t114, A110, H⟩ := H
     replace H : (some t114) = some r := H
     have A11 := Aside0.mk A110
     clear A110
     obtain rfl := Option.some.inj H
     go_wp2_with (first | (refine goesL_ (some 38) rfl rfl Try.func113 (by kernel_rfl) rfl #[.int .i64 a1, .int .i64 a2] rfl ll_ ?_; (with_reducible refine (spec_l1Times.calls a1 a2 t114 _ A11.out).mono ?_); rintro e w' ⟨rfl, ⟨nd, rfl⟩⟩; refine ⟨_, rfl, ?_⟩))
     go_ret
     exact ⟨by first | rfl | (simp; done) | (simp [*]; done), by repeat (first | exact Drawn0.refl _ | apply Drawn0.step)⟩
 ·rw [if_neg c4] at H
  have c4b0 : (a0 == 1) = false := beq_eq_false_iff_ne.mpr c4
  have c4b1 : (a0 != 1) = true := bne_iff_ne.mpr c4
  by_cases c12 : a0 = 2
  ·rw [if_pos c12] at H
   have c12b0 : (a0 == 2) = true := beq_iff_eq.mpr c12
   have c12b1 : (a0 != 2) = false := bne_eq_false_iff_eq.mpr c12
   clear c12
   replace H := Option.bind_eq_some_iff.mp H
   obtain ⟨t115, A130, H⟩ := H
   replace H : (some t115) = some r := H
   have A13 := Aside0.mk A130
   clear A130
   obtain rfl := Option.some.inj H
   go_enter Try.func143, Try.ntmps143
   go_wp2_with (first | (refine goesL_ (some 25) rfl rfl Try.func166 (by kernel_rfl) rfl #[.int .i64 a1, .int .i64 a2, .int .i64 0, .int .i64 2] rfl ll_ ?_; (with_reducible refine (spec_l2Hall.calls a1 a2 0 2 t115 _ A13.out).mono ?_); rintro e w' ⟨rfl, ⟨nd, rfl⟩⟩; refine ⟨_, rfl, ?_⟩))
   go_ret
   exact ⟨by first | rfl | (simp; done) | (simp [*]; done), by repeat (first | exact Drawn0.refl _ | apply Drawn0.step)⟩
  ·rw [if_neg c12] at H
   have c12b0 : (a0 == 2) = false := beq_eq_false_iff_ne.mpr c12
   have c12b1 : (a0 != 2) = true := bne_iff_ne.mpr c12
   by_cases c14 : a0 = 3
   ·rw [if_pos c14] at H
    have c14b0 : (a0 == 3) = true := beq_iff_eq.mpr c14
    have c14b1 : (a0 != 3) = false := bne_eq_false_iff_eq.mpr c14
    clear c14
    replace H := Option.bind_eq_some_iff.mp H
    obtain ⟨t116, A150, H⟩ := H
    replace H : (some t116) = some r := H
    have A15 := Aside0.mk A150
    clear A150
    obtain rfl := Option.some.inj H
    go_enter Try.func143, Try.ntmps143
    go_wp2_with (first | (refine goesL_ (some 30) rfl rfl Try.func166 (by kernel_rfl) rfl #[.int .i64 a1, .int .i64 a2, .int .i64 1, .int .i64 1] rfl ll_ ?_; (with_reducible refine (spec_l2Hall.calls a1 a2 1 1 t116 _ A15.out).mono ?_); rintro e w' ⟨rfl, ⟨nd, rfl⟩⟩; refine ⟨_, rfl, ?_⟩))
    go_ret
    exact ⟨by first | rfl | (simp; done) | (simp [*]; done), by repeat (first | exact Drawn0.refl _ | apply Drawn0.step)⟩
   ·rw [if_neg c14] at H
    have c14b0 : (a0 == 3) = false := beq_eq_false_iff_ne.mpr c14
    have c14b1 : (a0 != 3) = true := bne_iff_ne.mpr c14
    by_cases c16 : a0 = 4
    ·rw [if_pos c16] at H
     have c16b0 : (a0 == 4) = true := beq_iff_eq.mpr c16
     have c16b1 : (a0 != 4) = false := bne_eq_false_iff_eq.mpr c16
     clear c16
     replace H := Option.bind_eq_some_iff.mp H
     obtain ⟨t117, A170, H⟩ := H
     replace H : (some t117) = some r := H
     have A17 := Aside0.mk A170
     clear A170
     obtain rfl := Option.some.inj H
     go_enter Try.func143, Try.ntmps143
     go_wp2_with (first | (refine goesL_ (some 35) rfl rfl Try.func166 (by kernel_rfl) rfl #[.int .i64 a1, .int .i64 a2, .int .i64 2, .int .i64 1] rfl ll_ ?_; (with_reducible refine (spec_l2Hall.calls a1 a2 2 1 t117 _ A17.out).mono ?_); rintro e w' ⟨rfl, ⟨nd, rfl⟩⟩; refine ⟨_, rfl, ?_⟩))
     go_ret
     exact ⟨by first | rfl | (simp; done) | (simp [*]; done), by repeat (first | exact Drawn0.refl _ | apply Drawn0.step)⟩
    ·rw [if_neg c16] at H
     have c16b0 : (a0 == 4) = false := beq_eq_false_iff_ne.mpr c16
     have c16b1 : (a0 != 4) = true := bne_iff_ne.mpr c16
     replace H := Option.bind_eq_some_iff.mp H
     obtain ⟨t118, A180, H⟩ := H
     replace H : (some t118) = some r := H
     have A18 := Aside0.mk A180
     clear A180
     obtain rfl := Option.some.inj H
     go_enter Try.func143, Try.ntmps143
     go_wp2_with (first | (refine goesL_ (some 38) rfl rfl Try.func113 (by kernel_rfl) rfl #[.int .i64 a1, .int .i64 a2] rfl ll_ ?_; (with_reducible refine (spec_l1Times.calls a1 a2 t118 _ A18.out).mono ?_); rintro e w' ⟨rfl, ⟨nd, rfl⟩⟩; refine ⟨_, rfl, ?_⟩))
     go_ret
     exact ⟨by first | rfl | (simp; done) | (simp [*]; done), by repeat (first | exact Drawn0.refl _ | apply Drawn0.step)⟩
end Go.Proofs.Ytbfafjejmljcpaa.P

namespace Go.Proofs.Ytbfafjejmljcpaa.P
open Go.RowKit Go.Proofs.YtbfafjejmljcpaaW.PrintWords Go.Proofs.YtbfafjejmljcpaaW.PrintLast
set_option linter.unusedVariables false
set_option linter.unusedSimpArgs false

mutual
def spec_l2Of.l0 : Nat → Int → List Int → Int → Option (List Int)
 | 0, _, _, _ => none
 | k + 1, x0, x3, x4 => if x4 < 9 then (spec_l2Of.l1 k x0 x3 x4 0) else (some x3)
def spec_l2Of.l1 : Nat → Int → List Int → Int → Int → Option (List Int)
 | 0, _, _, _, _ => none
 | k + 1, x0, x3, x4, x5 => if x5 < 9 then ((spec_l2Product.f k x0 x4 x5).bind fun t122 => (if x3.length < 17592186044416 then (spec_l2Of.l1 k x0 (x3 ++ [t122]) x4 (wrap64 (x5 + 1))) else (none))) else (spec_l2Of.l0 k x0 x3 (wrap64 (x4 + 1)))
end
def spec_l2Of.f (k : Nat) (a0 : Int) : Option (List Int) := spec_l2Of.l0 k a0 (([] : List Int)) 0
theorem spec_l2Of.mono_l : ∀ k, (∀ y0 y1 y2, LeO (spec_l2Of.l0 k y0 y1 y2) (spec_l2Of.l0 (k + 1) y0 y1 y2)) ∧ (∀ y0 y1 y2 y3, LeO (spec_l2Of.l1 k y0 y1 y2 y3) (spec_l2Of.l1 (k + 1) y0 y1 y2 y3))
 | 0 => ⟨fun _ _ _ r h => by simp [spec_l2Of.l0] at h, fun _ _ _ _ r h => by simp [spec_l2Of.l1] at h⟩
 | k + 1 => by
  obtain ⟨ih0, ih1⟩ := spec_l2Of.mono_l k
  refine ⟨?_, ?_⟩
  ·intro y0 y1 y2
   unfold spec_l2Of.l0
   repeat' first
   | (with_reducible exact ih0 _ _ _)
   | (with_reducible exact ih1 _ _ _ _)
   | (with_reducible exact spec_l2Product.mono _ _ _ _)
   | (with_reducible exact LeO.refl _)
   | (with_reducible exact LeO.none _)
   | (with_reducible refine LeO.ite ?_ ?_)
   | (with_reducible refine LeO.bind ?_ (fun _ => ?_))
   | exact ih0 _ _ _
   | exact ih1 _ _ _ _
   | exact spec_l2Product.mono _ _ _ _
   | exact LeO.none _
   | refine LeO.ite ?_ ?_
   | refine LeO.bind ?_ (fun _ => ?_)
  ·intro y0 y1 y2 y3
   unfold spec_l2Of.l1
   repeat' first
   | (with_reducible exact ih0 _ _ _)
   | (with_reducible exact ih1 _ _ _ _)
   | (with_reducible exact spec_l2Product.mono _ _ _ _)
   | (with_reducible exact LeO.refl _)
   | (with_reducible exact LeO.none _)
   | (with_reducible refine LeO.ite ?_ ?_)
   | (with_reducible refine LeO.bind ?_ (fun _ => ?_))
   | exact ih0 _ _ _
   | exact ih1 _ _ _ _
   | exact spec_l2Product.mono _ _ _ _
   | exact LeO.none _
   | refine LeO.ite ?_ ?_
   | refine LeO.bind ?_ (fun _ => ?_)
theorem spec_l2Of.mono : ∀ a0 k, LeO (spec_l2Of.f k a0) (spec_l2Of.f (k + 1) a0) := by
 intro a0 k
 obtain ⟨ih0, ih1⟩ := spec_l2Of.mono_l k
 unfold spec_l2Of.f
 repeat' first
   | (with_reducible exact ih0 _ _ _)
   | (with_reducible exact ih1 _ _ _ _)
   | (with_reducible exact spec_l2Product.mono _ _ _ _)
   | (with_reducible exact LeO.refl _)
   | (with_reducible exact LeO.none _)
   | (with_reducible refine LeO.ite ?_ ?_)
   | (with_reducible refine LeO.bind ?_ (fun _ => ?_))
   | exact ih0 _ _ _
   | exact ih1 _ _ _ _
   | exact spec_l2Product.mono _ _ _ _
   | exact LeO.none _
   | refine LeO.ite ?_ ?_
   | refine LeO.bind ?_ (fun _ => ?_)
set_option maxHeartbeats 8000000 in
set_option maxRecDepth 100000 in
theorem spec_l2Of.calls (k : Nat) (a0 : Int) (r : List Int) (w : World) (h : spec_l2Of.f k a0 = some r) :
  Calls Try.prog 112 #[.int .i64 a0] w fun e w' => ∃ v0_ : Value, e = .returned (v0_) ∧ Kd.R (Kd.int .i64) 3 w' w.heap.size (fun _ => True) v0_ r ∧ Below w.heap.size w w' := by
 have HB := Aside0.mk (Below.refl w.heap.size w)
 have H : (spec_l2Of.l0 k a0 (([] : List Int)) 0) = some r := h
 clear h
 obtain ⟨y119, hy119⟩ : ∃ y_ : List Int, y_ = (([] : List Int)) := ⟨_, rfl⟩
 replace H : (spec_l2Of.l0 k a0 y119 0) = some r := by first | (rw [hy119]; with_reducible exact H) | (have H2_ := (Option.bind_some _ _).symm.trans H; rw [hy119]; with_reducible exact H2_) | (have H2_ := (Option.bind_some _ _).symm.trans H; with_reducible exact H2_) | with_reducible exact H | (rw [hy119]; exact H) | exact H
 have Ny119 := Aside0.mk hy119
 clear hy119
 have H' := Aside0.mk H
 clear H
 go_enter Try.func112, Try.ntmps112
 go_wp2_with (first | ((with_reducible refine gate_dst (N := 6) rfl ?_); refine Kd.R_lit (Kd.int .i64) _ 3 ?hg (N := 6) ?hd (xs := ([] : List Int)) (inner := []) (ok := fun _ => True) (okp := fun _ => True) ?hr ?hp (fun _ hk => hk) trivial (Below.refl _ _) (Nat.le_refl _) (by simp) ?_; (case hd => rfl); (case hg => rfl); (case hr => first | (go_simp; done) | (go_simp; rfl)); (case hp => exact (Reps.none _ _)); intro v120 w2 ho3 hb hg_ hnew_; clear hg_ hnew_; (first | rw [← Ny119.out] at ho3 | (simp only [Int.reduceToNat] at ho3; rw [← Ny119.out] at ho3)); have n0_ := Aside0.mk (Kd.R_lower ho3 (below_size (bb_ HB))); have n1_ := Aside0.mk (below_step (bb_ HB) hb); clear HB; have HO121 := n0_; have HB := n1_; clear n0_ n1_; clear hb ho3))
 go_loopg [3, 4] k (fun kq v3 v4 w' => ∃ (x3_1 : List Int) (x4_1 : Int), v4 = .int .i64 x4_1 ∧ Aside0 (spec_l2Of.l0 kq a0 x3_1 x4_1 = some r) ∧ Aside0 (kq ≤ k) ∧ Aside0 (Kd.R (Kd.int .i64) 3 w' w.heap.size (fun _ => True) v3 x3_1) ∧ Aside0 (Below w.heap.size w w'))
 case atStart => exact ⟨(y119), (0), (by first | rfl | (simp; done) | (simp [*]; done)), H', ⟨Nat.le_refl _⟩, ⟨rr_ HO121⟩, ⟨by repeat (first | (with_reducible first | exact HB.out | apply below_alloc | apply pw_below_drewN | apply below_drew1) | exact HB.out)⟩⟩
 case round =>
  clear H'
  try clear c1
  try clear p2
  obtain ⟨x3_1, x4_1, rfl, HA, HK1, HO_3, HB⟩ := hrel
  cases gk with
  | zero => exact absurd HA.out (by simp [spec_l2Of.l0])
  | succ k1 =>
   have H := HA.out
   clear HA
   simp only [spec_l2Of.l0] at H
   by_cases c4 : x4_1 < 9
   ·rw [if_pos c4] at H
    have c4b0 : decide (x4_1 < 9) = true := decide_eq_true c4
    clear c4
    have H' := Aside0.mk H
    clear H
    go_wp2
    go_loopg [3, 5] k1 (fun kq v3 v5 w' => ∃ (x3_2 : List Int) (x5_2 : Int), v5 = .int .i64 x5_2 ∧ Aside0 (spec_l2Of.l1 kq a0 x3_2 x4_1 x5_2 = some r) ∧ Aside0 (kq ≤ k1) ∧ Aside0 (Kd.R (Kd.int .i64) 3 w' w.heap.size (fun _ => True) v3 x3_2) ∧ Aside0 (Below w.heap.size w w'))
    case atStart => exact ⟨(x3_1), (0), (by first | rfl | (simp; done) | (simp [*]; done)), H', ⟨Nat.le_refl _⟩, ⟨rr_ HO_3⟩, ⟨by repeat (first | (with_reducible first | exact HB.out | apply below_alloc | apply pw_below_drewN | apply below_drew1) | exact HB.out)⟩⟩
    case round =>
     clear H'
     try clear c1
     try clear p2
     try clear c4
     try clear c4b0
     try clear p2
     obtain ⟨x3_2, x5_2, rfl, HA, HK2, HO_3, HB⟩ := hrel
     cases gk with
     | zero => exact absurd HA.out (by simp [spec_l2Of.l1])
     | succ k2 =>
      have H := HA.out
      clear HA
      simp only [spec_l2Of.l1] at H
      by_cases c5 : x5_2 < 9
      ·rw [if_pos c5] at H
       have c5b0 : decide (x5_2 < 9) = true := decide_eq_true c5
       clear c5
       replace H := Option.bind_eq_some_iff.mp H
       obtain ⟨t122, A60, H⟩ := H
       replace H : (if x3_2.length < 17592186044416 then (spec_l2Of.l1 k2 a0 (x3_2 ++ [t122]) x4_1 (wrap64 (x5_2 + 1))) else (none)) = some r := H
       have A6 := Aside0.mk A60
       clear A60
       by_cases c7 : x3_2.length < 17592186044416
       ·rw [if_pos c7] at H
        have LMc7 := Aside0.mk c7
        clear c7
        obtain ⟨y123, hy123⟩ : ∃ y_ : List Int, y_ = (x3_2 ++ [t122]) := ⟨_, rfl⟩
        replace H : (spec_l2Of.l1 k2 a0 y123 x4_1 (wrap64 (x5_2 + 1))) = some r := by first | (rw [hy123]; with_reducible exact H) | (have H2_ := (Option.bind_some _ _).symm.trans H; rw [hy123]; with_reducible exact H2_) | (have H2_ := (Option.bind_some _ _).symm.trans H; with_reducible exact H2_) | with_reducible exact H | (rw [hy123]; exact H) | exact H
        have Ny123 := Aside0.mk hy123
        clear hy123
        have H' := Aside0.mk H
        clear H
        go_wp2_with (first | (refine goesL_ (some 19) rfl rfl Try.func143 (by kernel_rfl) rfl #[.int .i64 a0, .int .i64 x4_1, .int .i64 x5_2] rfl ll_ ?_; (with_reducible refine (spec_l2Product.calls k2 a0 x4_1 x5_2 t122 _ A6.out).mono ?_); rintro e w' ⟨rfl, ⟨nd, rfl⟩⟩; refine ⟨_, rfl, ?_⟩) | (at_builtin; refine Kd.R_append (Kd.int .i64) (w0 := w) w.heap.size rfl (.tmp 15) (.tmp 20) 23 3 (.int .i64 0) 8 rfl Try.underlying23 info3 rfl (by decide) (by omega) u3 x3_2 t122 [.int .i64 t122] (fun _ => True) (fun _ => False) rfl rfl ?aP (fun _ hk => hk.elim) ?aF ?aO ?aB ?aS ?aL ?_; (case aP => exact rfl); (case aB => exact (bb_ HB)); (case aF => exact (fun _ _ => trivial)); (case aO => exact (rr_ HO_3)); (case aS => exact (below_size (bb_ HB))); (case aL => have := LMc7.out; omega); intro v124 w8 ho hb hg hat; rw [← Ny123.out] at ho; have n0_ := Aside0.mk (hb); have n1_ := Aside0.mk (ho); clear HB; clear HO_3; have HB := n0_; have HO125 := n1_; clear n0_ n1_; clear ho hb hg hat))
        go_roundg k2
        case measure => have := HK1.out; have := HK2.out; omega
        case rel => exact ⟨(y123), (wrap64 (x5_2 + 1)), (by first | rfl | (simp; done) | (simp [*]; done)), H', ⟨by have := HK1.out; have := HK2.out; omega⟩, ⟨rr_ HO125⟩, ⟨by repeat (first | (with_reducible first | exact HB.out | apply below_alloc | apply pw_below_drewN | apply below_drew1) | exact HB.out)⟩⟩
       ·rw [if_neg c7] at H
        exact absurd H (by simp)
      ·rw [if_neg c5] at H
       have c5b0 : decide (x5_2 < 9) = false := decide_eq_false c5
       clear c5
       have H' := Aside0.mk H
       clear H
       go_wp2
       go_roundg k2
       case measure => have := HK1.out; have := HK2.out; omega
       case rel => exact ⟨(x3_2), (wrap64 (x4_1 + 1)), (by first | rfl | (simp; done) | (simp [*]; done)), H', ⟨by have := HK1.out; have := HK2.out; omega⟩, ⟨rr_ HO_3⟩, ⟨by repeat (first | (with_reducible first | exact HB.out | apply below_alloc | apply pw_below_drewN | apply below_drew1) | exact HB.out)⟩⟩
   ·rw [if_neg c4] at H
    have c4b0 : decide (x4_1 < 9) = false := decide_eq_false c4
    clear c4
    obtain rfl := Option.some.inj H
    go_wp2
    go_ret
    exact ⟨_, ee_, by (with_reducible repeat (first | apply Kd.R_alloc | apply Kd.R_drewN | apply Kd.R_drew)); exact HO_3.out, bb_ HB⟩
end Go.Proofs.Ytbfafjejmljcpaa.P

namespace Go.Proofs.Ytbfafjejmljcpaa.P
open Go.RowKit Go.Proofs.YtbfafjejmljcpaaW.PrintWords Go.Proofs.YtbfafjejmljcpaaW.PrintLast
set_option linter.unusedVariables false
set_option linter.unusedSimpArgs false

def spec_l91System.f (k : Nat) (s0_0 : List Int) (s0_1 : Int) : Option (List Int × Int) := (spec_l6Rd_pick.f k s0_0 s0_1 5).bind fun bt126 => ((spec_l2Of.f k bt126.1).bind fun t128 => ((spec_l6Rd_pick.f k s0_0 bt126.2 30).bind fun bt131 => (if bt131.1 = 0 then ((spec_l6Rd_pick.f k s0_0 bt131.2 9).bind fun bt133 => ((spec_l6Rd_pick.f k s0_0 bt133.2 9).bind fun bt135 => ((spec_l6Rd_pick.f k s0_0 bt135.2 9).bind fun bt137 => (if 0 ≤ (wrap64 ((wrap64 (9 * bt133.1)) + bt135.1)) then (if (wrap64 ((wrap64 (9 * bt133.1)) + bt135.1)) < (t128.length : Int) then (some ((t128.set ((wrap64 ((wrap64 (9 * bt133.1)) + bt135.1)) : Int).toNat bt137.1), bt137.2)) else (none)) else (none))))) else (if bt131.1 = 1 then (if 80 ≤ (t128.length : Int) then (some ((t128.take (80 : Int).toNat), bt131.2)) else (none)) else (some (t128, bt131.2))))))
set_option maxHeartbeats 8000000 in
set_option maxRecDepth 100000 in
theorem spec_l91System.calls (k : Nat) (g : Nat) (s0_0 : List Int) (s0_1 : Int) (r1 : List Int) (r2 : Int) (w0 w : World) (hI : IsS76 w0 w g s0_0 s0_1) (hB : Below w0.heap.size w0 w) (h : spec_l91System.f k s0_0 s0_1 = some (r1, r2)) :
  Calls Try.prog 69 #[.pointer (some ⟨g, 0, none⟩)] w fun e w' => ∃ v0_ : Value, e = .returned (v0_) ∧ Kd.R (Kd.int .i64) 3 w' w.heap.size (fun _ => True) v0_ r1 ∧ IsS76 w0 w' g s0_0 r2 ∧ Below w0.heap.size w0 w' ∧ KeepBut w w' g none := by
 have HI0 := Aside0.mk hI
 have HK := Aside0.mk (KeepBut.refl w g none)
 have HL := Aside0.mk hB.size
 clear hI
 have HW0 := Aside0.mk hB.size
 have HB := Aside0.mk hB
 clear hB
 have H : ((spec_l6Rd_pick.f k s0_0 s0_1 5).bind fun bt126 => ((spec_l2Of.f k bt126.1).bind fun t128 => ((spec_l6Rd_pick.f k s0_0 bt126.2 30).bind fun bt131 => (if bt131.1 = 0 then ((spec_l6Rd_pick.f k s0_0 bt131.2 9).bind fun bt133 => ((spec_l6Rd_pick.f k s0_0 bt133.2 9).bind fun bt135 => ((spec_l6Rd_pick.f k s0_0 bt135.2 9).bind fun bt137 => (if 0 ≤ (wrap64 ((wrap64 (9 * bt133.1)) + bt135.1)) then (if (wrap64 ((wrap64 (9 * bt133.1)) + bt135.1)) < (t128.length : Int) then (some ((t128.set ((wrap64 ((wrap64 (9 * bt133.1)) + bt135.1)) : Int).toNat bt137.1), bt137.2)) else (none)) else (none))))) else (if bt131.1 = 1 then (if 80 ≤ (t128.length : Int) then (some ((t128.take (80 : Int).toNat), bt131.2)) else (none)) else (some (t128, bt131.2))))))) = some (r1, r2) := h
 clear h
 replace H := Option.bind_eq_some_iff.mp H
 obtain ⟨⟨t126, t127⟩, A20, H⟩ := H
 replace H : ((spec_l2Of.f k t126).bind fun t128 => ((spec_l6Rd_pick.f k s0_0 t127 30).bind fun bt131 => (if bt131.1 = 0 then ((spec_l6Rd_pick.f k s0_0 bt131.2 9).bind fun bt133 => ((spec_l6Rd_pick.f k s0_0 bt133.2 9).bind fun bt135 => ((spec_l6Rd_pick.f k s0_0 bt135.2 9).bind fun bt137 => (if 0 ≤ (wrap64 ((wrap64 (9 * bt133.1)) + bt135.1)) then (if (wrap64 ((wrap64 (9 * bt133.1)) + bt135.1)) < (t128.length : Int) then (some ((t128.set ((wrap64 ((wrap64 (9 * bt133.1)) + bt135.1)) : Int).toNat bt137.1), bt137.2)) else (none)) else (none))))) else (if bt131.1 = 1 then (if 80 ≤ (t128.length : Int) then (some ((t128.take (80 : Int).toNat), bt131.2)) else (none)) else (some (t128, bt131.2)))))) = some (r1, r2) := H
 have A2 := Aside0.mk A20
 clear A20
 replace H := Option.bind_eq_some_iff.mp H
 obtain ⟨t128, A30, H⟩ := H
 replace H : ((spec_l6Rd_pick.f k s0_0 t127 30).bind fun bt131 => (if bt131.1 = 0 then ((spec_l6Rd_pick.f k s0_0 bt131.2 9).bind fun bt133 => ((spec_l6Rd_pick.f k s0_0 bt133.2 9).bind fun bt135 => ((spec_l6Rd_pick.f k s0_0 bt135.2 9).bind fun bt137 => (if 0 ≤ (wrap64 ((wrap64 (9 * bt133.1)) + bt135.1)) then (if (wrap64 ((wrap64 (9 * bt133.1)) + bt135.1)) < (t128.length : Int) then (some ((t128.set ((wrap64 ((wrap64 (9 * bt133.1)) + bt135.1)) : Int).toNat bt137.1), bt137.2)) else (none)) else (none))))) else (if bt131.1 = 1 then (if 80 ≤ (t128.length : Int) then (some ((t128.take (80 : Int).toNat), bt131.2)) else (none)) else (some (t128, bt131.2))))) = some (r1, r2) := H
 have A3 := Aside0.mk A30
 clear A30
 replace H := Option.bind_eq_some_iff.mp H
 obtain ⟨⟨t131, t132⟩, A40, H⟩ := H
 replace H : (if t131 = 0 then ((spec_l6Rd_pick.f k s0_0 t132 9).bind fun bt133 => ((spec_l6Rd_pick.f k s0_0 bt133.2 9).bind fun bt135 => ((spec_l6Rd_pick.f k s0_0 bt135.2 9).bind fun bt137 => (if 0 ≤ (wrap64 ((wrap64 (9 * bt133.1)) + bt135.1)) then (if (wrap64 ((wrap64 (9 * bt133.1)) + bt135.1)) < (t128.length : Int) then (some ((t128.set ((wrap64 ((wrap64 (9 * bt133.1)) + bt135.1)) : Int).toNat bt137.1), bt137.2)) else (none)) else (none))))) else (if t131 = 1 then (if 80 ≤ (t128.length : Int) then (some ((t128.take (80 : Int).toNat), t132)) else (none)) else (some (t128, t132)))) = some (r1, r2) := H
 have A4 := Aside0.mk A40
 clear A40
 by_cases c5 : t131 = 0
 ·rw [if_pos c5] at H
  have c5b0 : (t131 == 0) = true := beq_iff_eq.mpr c5
  have c5b1 : (t131 != 0) = false := bne_eq_false_iff_eq.mpr c5
  clear c5
  replace H := Option.bind_eq_some_iff.mp H
  obtain ⟨⟨t133, t134⟩, A60, H⟩ := H
  replace H : ((spec_l6Rd_pick.f k s0_0 t134 9).bind fun bt135 => ((spec_l6Rd_pick.f k s0_0 bt135.2 9).bind fun bt137 => (if 0 ≤ (wrap64 ((wrap64 (9 * t133)) + bt135.1)) then (if (wrap64 ((wrap64 (9 * t133)) + bt135.1)) < (t128.length : Int) then (some ((t128.set ((wrap64 ((wrap64 (9 * t133)) + bt135.1)) : Int).toNat bt137.1), bt137.2)) else (none)) else (none)))) = some (r1, r2) := H
  have A6 := Aside0.mk A60
  clear A60
  replace H := Option.bind_eq_some_iff.mp H
  obtain ⟨⟨t135, t136⟩, A70, H⟩ := H
  replace H : ((spec_l6Rd_pick.f k s0_0 t136 9).bind fun bt137 => (if 0 ≤ (wrap64 ((wrap64 (9 * t133)) + t135)) then (if (wrap64 ((wrap64 (9 * t133)) + t135)) < (t128.length : Int) then (some ((t128.set ((wrap64 ((wrap64 (9 * t133)) + t135)) : Int).toNat bt137.1), bt137.2)) else (none)) else (none))) = some (r1, r2) := H
  have A7 := Aside0.mk A70
  clear A70
  replace H := Option.bind_eq_some_iff.mp H
  obtain ⟨⟨t137, t138⟩, A80, H⟩ := H
  replace H : (if 0 ≤ (wrap64 ((wrap64 (9 * t133)) + t135)) then (if (wrap64 ((wrap64 (9 * t133)) + t135)) < (t128.length : Int) then (some ((t128.set ((wrap64 ((wrap64 (9 * t133)) + t135)) : Int).toNat t137), t138)) else (none)) else (none)) = some (r1, r2) := H
  have A8 := Aside0.mk A80
  clear A80
  obtain ⟨ji9, hji9⟩ : ∃ j_ : Int, (wrap64 ((wrap64 (9 * t133)) + t135)) = j_ := ⟨_, rfl⟩
  replace H : (if 0 ≤ (ji9) then (if (ji9) < (t128.length : Int) then (some ((t128.set ((ji9) : Int).toNat t137), t138)) else (none)) else (none)) = some (r1, r2) := by first | (rw [hji9] at H; exact H) | (simp only [hji9] at H ⊢; exact H)
  (try rw [hji9] at A2)
  (try rw [hji9] at A3)
  (try rw [hji9] at A4)
  (try rw [hji9] at A6)
  (try rw [hji9] at A7)
  (try rw [hji9] at A8)
  have hji9w : (IntKind.i64.wrap ((wrap64 (9 * t133)) + t135)) = ji9 := (i64_w _).trans hji9
  by_cases c10 : 0 ≤ (ji9)
  ·rw [if_pos c10] at H
   have c10b0 : decide (0 ≤ (ji9)) = true := decide_eq_true c10
   clear c10
   by_cases c11 : (ji9) < (t128.length : Int)
   ·rw [if_pos c11] at H
    have c11b0 : decide ((ji9) < (t128.length : Int)) = true := decide_eq_true c11
    clear c11
    obtain ⟨y139, hy139⟩ : ∃ y_ : List Int, y_ = (t128.set ((ji9) : Int).toNat t137) := ⟨_, rfl⟩
    replace H : (some (y139, t138)) = some (r1, r2) := by first | (rw [hy139]; with_reducible exact H) | (have H2_ := (Option.bind_some _ _).symm.trans H; rw [hy139]; with_reducible exact H2_) | (have H2_ := (Option.bind_some _ _).symm.trans H; with_reducible exact H2_) | with_reducible exact H | (rw [hy139]; exact H) | exact H
    have Ny139 := Aside0.mk hy139
    clear hy139
    simp only [Option.some.injEq, Prod.mk.injEq] at H
    obtain ⟨rfl, rfl⟩ := H
    go_enter Try.func69, Try.ntmps69
    go_wp2_with (first | (refine goesL_ (some 5) rfl rfl Try.func92 (by kernel_rfl) rfl #[.pointer (some ⟨g, 0, none⟩), .int .i64 5] rfl ll_ ?_; (with_reducible refine (spec_l6Rd_pick.calls k g s0_0 s0_1 5 t126 t127 w0 _ ?side1 ?side2 A2.out).mono ?_); (case side1 => repeat (first | (with_reducible first | exact HI0.out | apply IsS76.alloc | apply IsS76.drewN | apply IsS76.drew | apply IsS76.set_1) | exact HI0.out)); (case side2 => repeat (first | (with_reducible first | exact HB.out | apply below_alloc | apply pw_below_drewN | apply below_drew1 | refine below_set ?_ (IsS76.ge HI0.out)) | exact HB.out)); rintro e w13 ⟨rfl, hi, hb, hk⟩; refine ⟨_, rfl, ?_⟩; have n0_ := Aside0.mk (KeepBut.trans (by repeat (first | (with_reducible first | exact HK.out | apply KeepBut.set_ | apply keep_drewN | apply keep_drew | apply keep_alloc) | exact HK.out)) hk (.inl rfl)); have n1_ := Aside0.mk (hb); have n2_ := Aside0.mk (hi); clear HK; clear HB; clear HI0; have HK := n0_; have HB := n1_; have HI0 := n2_; clear n0_ n1_ n2_; (try clear hb); (try clear hb2); (try clear hk); (try clear hi)) | (refine goesL_ (some 6) rfl rfl Try.func112 (by kernel_rfl) rfl #[.int .i64 t126] rfl ll_ ?_; (with_reducible refine (spec_l2Of.calls k t126 t128 _ A3.out).mono ?_); rintro e w14 ⟨v129, rfl, ho0, hb⟩; refine ⟨_, rfl, ?_⟩; have n0_ := Aside0.mk (Kd.R_lower ho0 (keep_size (w := w) (g := g) (row := none) (by repeat (first | (with_reducible first | exact HK.out | apply KeepBut.set_ | apply keep_drewN | apply keep_drew | apply keep_alloc) | exact HK.out)))); have n1_ := Aside0.mk (IsS76.below (by repeat (first | (with_reducible first | exact HI0.out | apply IsS76.alloc | apply IsS76.drewN | apply IsS76.drew | apply IsS76.set_1) | exact HI0.out)) hb); have n2_ := Aside0.mk (KeepBut.trans (by repeat (first | (with_reducible first | exact HK.out | apply KeepBut.set_ | apply keep_drewN | apply keep_drew | apply keep_alloc) | exact HK.out)) (KeepBut.of_below hb g none) (.inl rfl)); have n3_ := Aside0.mk (below_step (by repeat (first | (with_reducible first | exact HB.out | apply below_alloc | apply pw_below_drewN | apply below_drew1 | refine below_set ?_ (IsS76.ge HI0.out)) | exact HB.out)) hb); clear HI0; clear HK; clear HB; have HO130 := n0_; have HI0 := n1_; have HK := n2_; have HB := n3_; clear n0_ n1_ n2_ n3_; (try clear hb); (try clear hb2); (try clear hk); (try clear hi); (try clear ho0)) | (refine goesL_ (some 8) rfl rfl Try.func92 (by kernel_rfl) rfl #[.pointer (some ⟨g, 0, none⟩), .int .i64 30] rfl ll_ ?_; (with_reducible refine (spec_l6Rd_pick.calls k g s0_0 t127 30 t131 t132 w0 _ ?side1 ?side2 A4.out).mono ?_); (case side1 => repeat (first | (with_reducible first | exact HI0.out | apply IsS76.alloc | apply IsS76.drewN | apply IsS76.drew | apply IsS76.set_1) | exact HI0.out)); (case side2 => repeat (first | (with_reducible first | exact HB.out | apply below_alloc | apply pw_below_drewN | apply below_drew1 | refine below_set ?_ (IsS76.ge HI0.out)) | exact HB.out)); rintro e w15 ⟨rfl, hi, hb, hk⟩; refine ⟨_, rfl, ?_⟩; have n0_ := Aside0.mk (Kd.R_mono (Kd.R_keep (IsS76.apart (show IsS76 w0 _ g s0_0 t127 from by repeat (first | (with_reducible first | exact HI0.out | apply IsS76.alloc | apply IsS76.drewN | apply IsS76.drew | apply IsS76.set_1) | exact HI0.out)) (rr_ HO130) (by decide)) hk (fun _ h => h.2)) (fun _ h => h.1)); have n1_ := Aside0.mk (KeepBut.trans (by repeat (first | (with_reducible first | exact HK.out | apply KeepBut.set_ | apply keep_drewN | apply keep_drew | apply keep_alloc) | exact HK.out)) hk (.inl rfl)); have n2_ := Aside0.mk (hb); have n3_ := Aside0.mk (hi); clear HO130; clear HK; clear HB; clear HI0; have HO130 := n0_; have HK := n1_; have HB := n2_; have HI0 := n3_; clear n0_ n1_ n2_ n3_; (try clear hb); (try clear hb2); (try clear hk); (try clear hi)) | (refine goesL_ (some 13) rfl rfl Try.func92 (by kernel_rfl) rfl #[.pointer (some ⟨g, 0, none⟩), .int .i64 9] rfl ll_ ?_; (with_reducible refine (spec_l6Rd_pick.calls k g s0_0 t132 9 t133 t134 w0 _ ?side1 ?side2 A6.out).mono ?_); (case side1 => repeat (first | (with_reducible first | exact HI0.out | apply IsS76.alloc | apply IsS76.drewN | apply IsS76.drew | apply IsS76.set_1) | exact HI0.out)); (case side2 => repeat (first | (with_reducible first | exact HB.out | apply below_alloc | apply pw_below_drewN | apply below_drew1 | refine below_set ?_ (IsS76.ge HI0.out)) | exact HB.out)); rintro e w16 ⟨rfl, hi, hb, hk⟩; refine ⟨_, rfl, ?_⟩; have n0_ := Aside0.mk (Kd.R_mono (Kd.R_keep (IsS76.apart (show IsS76 w0 _ g s0_0 t132 from by repeat (first | (with_reducible first | exact HI0.out | apply IsS76.alloc | apply IsS76.drewN | apply IsS76.drew | apply IsS76.set_1) | exact HI0.out)) (rr_ HO130) (by decide)) hk (fun _ h => h.2)) (fun _ h => h.1)); have n1_ := Aside0.mk (KeepBut.trans (by repeat (first | (with_reducible first | exact HK.out | apply KeepBut.set_ | apply keep_drewN | apply keep_drew | apply keep_alloc) | exact HK.out)) hk (.inl rfl)); have n2_ := Aside0.mk (hb); have n3_ := Aside0.mk (hi); clear HO130; clear HK; clear HB; clear HI0; have HO130 := n0_; have HK := n1_; have HB := n2_; have HI0 := n3_; clear n0_ n1_ n2_ n3_; (try clear hb); (try clear hb2); (try clear hk); (try clear hi)) | (refine goesL_ (some 16) rfl rfl Try.func92 (by kernel_rfl) rfl #[.pointer (some ⟨g, 0, none⟩), .int .i64 9] rfl ll_ ?_; (with_reducible refine (spec_l6Rd_pick.calls k g s0_0 t134 9 t135 t136 w0 _ ?side1 ?side2 A7.out).mono ?_); (case side1 => repeat (first | (with_reducible first | exact HI0.out | apply IsS76.alloc | apply IsS76.drewN | apply IsS76.drew | apply IsS76.set_1) | exact HI0.out)); (case side2 => repeat (first | (with_reducible first | exact HB.out | apply below_alloc | apply pw_below_drewN | apply below_drew1 | refine below_set ?_ (IsS76.ge HI0.out)) | exact HB.out)); rintro e w17 ⟨rfl, hi, hb, hk⟩; refine ⟨_, rfl, ?_⟩; have n0_ := Aside0.mk (Kd.R_mono (Kd.R_keep (IsS76.apart (show IsS76 w0 _ g s0_0 t134 from by repeat (first | (with_reducible first | exact HI0.out | apply IsS76.alloc | apply IsS76.drewN | apply IsS76.drew | apply IsS76.set_1) | exact HI0.out)) (rr_ HO130) (by decide)) hk (fun _ h => h.2)) (fun _ h => h.1)); have n1_ := Aside0.mk (KeepBut.trans (by repeat (first | (with_reducible first | exact HK.out | apply KeepBut.set_ | apply keep_drewN | apply keep_drew | apply keep_alloc) | exact HK.out)) hk (.inl rfl)); have n2_ := Aside0.mk (hb); have n3_ := Aside0.mk (hi); clear HO130; clear HK; clear HB; clear HI0; have HO130 := n0_; have HK := n1_; have HB := n2_; have HI0 := n3_; clear n0_ n1_ n2_ n3_; (try clear hb); (try clear hb2); (try clear hk); (try clear hi)) | (refine goesL_ (some 19) rfl rfl Try.func92 (by kernel_rfl) rfl #[.pointer (some ⟨g, 0, none⟩), .int .i64 9] rfl ll_ ?_; (with_reducible refine (spec_l6Rd_pick.calls k g s0_0 t136 9 t137 t138 w0 _ ?side1 ?side2 A8.out).mono ?_); (case side1 => repeat (first | (with_reducible first | exact HI0.out | apply IsS76.alloc | apply IsS76.drewN | apply IsS76.drew | apply IsS76.set_1) | exact HI0.out)); (case side2 => repeat (first | (with_reducible first | exact HB.out | apply below_alloc | apply pw_below_drewN | apply below_drew1 | refine below_set ?_ (IsS76.ge HI0.out)) | exact HB.out)); rintro e w18 ⟨rfl, hi, hb, hk⟩; refine ⟨_, rfl, ?_⟩; have n0_ := Aside0.mk (Kd.R_mono (Kd.R_keep (IsS76.apart (show IsS76 w0 _ g s0_0 t136 from by repeat (first | (with_reducible first | exact HI0.out | apply IsS76.alloc | apply IsS76.drewN | apply IsS76.drew | apply IsS76.set_1) | exact HI0.out)) (rr_ HO130) (by decide)) hk (fun _ h => h.2)) (fun _ h => h.1)); have n1_ := Aside0.mk (KeepBut.trans (by repeat (first | (with_reducible first | exact HK.out | apply KeepBut.set_ | apply keep_drewN | apply keep_drew | apply keep_alloc) | exact HK.out)) hk (.inl rfl)); have n2_ := Aside0.mk (hb); have n3_ := Aside0.mk (hi); clear HO130; clear HK; clear HB; clear HI0; have HO130 := n0_; have HK := n1_; have HB := n2_; have HI0 := n3_; clear n0_ n1_ n2_ n3_; (try clear hb); (try clear hb2); (try clear hk); (try clear hi); have p12 : 0 ≤ ((ji9) : Int) := dd_; have q12 : ((ji9) : Int) < ((t128.length : Int) : Int) := dd_; obtain ⟨go12, co12, eo12, gb12, gl12, cl12, HG12⟩ := Kd.R_form HO130.out (by omega); (first | cases eo12 | (injection eo12 with ea_ en_ ec_; (first | subst ea_ | (injection ea_ with ea_; subst ea_)); subst ec_; clear en_)); have GB12 := Aside0.mk gb12; have GG12 := Aside0.mk HG12; clear gb12 gl12 HG12; obtain ⟨hx12_0, hf12_0⟩ := Kd.R_celln 0 HO130.out ((ji9) : Int) p12 q12; replace p12 := eq_true p12; replace q12 := eq_true q12; obtain ⟨hy19_, hz19_⟩ := Kd.R_celln 0 HO130.out ((ji9) : Int) (dd_) (dd_); have HP19 := Kd.R_putg HO130.out ((ji9) : Int) t137) | ((with_reducible refine gate_store (t := 3) (p := 20) rfl ?_); refine store_event (t := 3) (p := 20) (v := ?vo_w20) (w1 := (w18.setCell ⟨go12, ((ji9) : Int).toNat, none⟩ (.int .i64 t137))) ?hg ?ho ?hn ?hr ?_; (case ho => rfl); (case hg => rfl); (case hn => rfl); (case hr => first | (go_simp; done) | (go_simp; rfl)); intro w20 hw; have hg : w18.grownBy w20 (some go12) := (by rw [hw]; exact HP19.2); have hp_ : Kd.R (Kd.int .i64) 3 w20 w.heap.size (fun _ => True) (.slice (some ⟨go12, 0, none⟩) t128.length co12) y139 := (by rw [hw, Ny139.out]; exact HP19.1); clear HP19; have n0_ := Aside0.mk (IsS76.grown (by repeat (first | (with_reducible first | exact HI0.out | apply IsS76.alloc | apply IsS76.drewN | apply IsS76.drew | apply IsS76.set_1) | exact HI0.out)) hg (IsS76.own_ne HI0.out HO130.out (by decide))); have n1_ := Aside0.mk (hp_); have n2_ := Aside0.mk ((by rw [hw]; exact below_set (HB.out) (Nat.le_trans HL.out GB12.out) : Below w0.heap.size w0 w20)); have n3_ := Aside0.mk (KeepBut.trans (by repeat (first | (with_reducible first | exact HK.out | apply KeepBut.set_ | apply keep_drewN | apply keep_drew | apply keep_alloc) | exact HK.out)) (KeepBut.of_grown hg g) (Kd.R_base2 HO130.out)); clear HI0; clear HO130; clear HB; clear HK; have HI0 := n0_; have HO130 := n1_; have HB := n2_; have HK := n3_; clear n0_ n1_ n2_ n3_; clear hg hw hp_))
    go_ret
    exact ⟨_, by first | rfl | (simp [errW_none, errW_some] <;> rfl) | (simp only [← hji9]; first | rfl | (simp [errW_none, errW_some] <;> rfl)) | (simp [*, errW_none, errW_some] <;> rfl), by (with_reducible repeat (first | apply Kd.R_alloc | apply Kd.R_drewN | apply Kd.R_drew)); exact HO130.out, by repeat (first | (with_reducible first | exact HI0.out | apply IsS76.alloc | apply IsS76.drewN | apply IsS76.drew | apply IsS76.set_1) | exact HI0.out), by repeat (first | (with_reducible first | exact HB.out | apply below_alloc | apply pw_below_drewN | apply below_drew1 | refine below_set ?_ (IsS76.ge HI0.out)) | exact HB.out), by repeat (first | (with_reducible first | exact HK.out | apply KeepBut.set_ | apply keep_drewN | apply keep_drew | apply keep_alloc) | exact HK.out)⟩
   ·rw [if_neg c11] at H
    exact absurd H (by simp)
  ·rw [if_neg c10] at H
   exact absurd H (by simp)
 ·rw [if_neg c5] at H
  have c5b0 : (t131 == 0) = false := beq_eq_false_iff_ne.mpr c5
  have c5b1 : (t131 != 0) = true := bne_iff_ne.mpr c5
  by_cases c21 : t131 = 1
  ·rw [if_pos c21] at H
   have c21b0 : (t131 == 1) = true := beq_iff_eq.mpr c21
   have c21b1 : (t131 != 1) = false := bne_eq_false_iff_eq.mpr c21
   clear c21
   by_cases c22 : 80 ≤ (t128.length : Int)
   ·rw [if_pos c22] at H
    have c22b0 := eq_true c22
    have c22b1 : decide (80 ≤ (t128.length : Int)) = true := decide_eq_true c22
    clear c22
    obtain ⟨y140, hy140⟩ : ∃ y_ : List Int, y_ = (t128.take (80 : Int).toNat) := ⟨_, rfl⟩
    replace H : (some (y140, t132)) = some (r1, r2) := by first | (rw [hy140]; with_reducible exact H) | (have H2_ := (Option.bind_some _ _).symm.trans H; rw [hy140]; with_reducible exact H2_) | (have H2_ := (Option.bind_some _ _).symm.trans H; with_reducible exact H2_) | with_reducible exact H | (rw [hy140]; exact H) | exact H
    have Ny140 := Aside0.mk hy140
    clear hy140
    simp only [Option.some.injEq, Prod.mk.injEq] at H
    obtain ⟨rfl, rfl⟩ := H
    go_enter Try.func69, Try.ntmps69
    go_wp2_with (first | (refine goesL_ (some 5) rfl rfl Try.func92 (by kernel_rfl) rfl #[.pointer (some ⟨g, 0, none⟩), .int .i64 5] rfl ll_ ?_; (with_reducible refine (spec_l6Rd_pick.calls k g s0_0 s0_1 5 t126 t127 w0 _ ?side1 ?side2 A2.out).mono ?_); (case side1 => repeat (first | (with_reducible first | exact HI0.out | apply IsS76.alloc | apply IsS76.drewN | apply IsS76.drew | apply IsS76.set_1) | exact HI0.out)); (case side2 => repeat (first | (with_reducible first | exact HB.out | apply below_alloc | apply pw_below_drewN | apply below_drew1 | refine below_set ?_ (IsS76.ge HI0.out)) | exact HB.out)); rintro e w23 ⟨rfl, hi, hb, hk⟩; refine ⟨_, rfl, ?_⟩; have n0_ := Aside0.mk (KeepBut.trans (by repeat (first | (with_reducible first | exact HK.out | apply KeepBut.set_ | apply keep_drewN | apply keep_drew | apply keep_alloc) | exact HK.out)) hk (.inl rfl)); have n1_ := Aside0.mk (hb); have n2_ := Aside0.mk (hi); clear HK; clear HB; clear HI0; have HK := n0_; have HB := n1_; have HI0 := n2_; clear n0_ n1_ n2_; (try clear hb); (try clear hb2); (try clear hk); (try clear hi)) | (refine goesL_ (some 6) rfl rfl Try.func112 (by kernel_rfl) rfl #[.int .i64 t126] rfl ll_ ?_; (with_reducible refine (spec_l2Of.calls k t126 t128 _ A3.out).mono ?_); rintro e w24 ⟨v129, rfl, ho0, hb⟩; refine ⟨_, rfl, ?_⟩; have n0_ := Aside0.mk (Kd.R_lower ho0 (keep_size (w := w) (g := g) (row := none) (by repeat (first | (with_reducible first | exact HK.out | apply KeepBut.set_ | apply keep_drewN | apply keep_drew | apply keep_alloc) | exact HK.out)))); have n1_ := Aside0.mk (IsS76.below (by repeat (first | (with_reducible first | exact HI0.out | apply IsS76.alloc | apply IsS76.drewN | apply IsS76.drew | apply IsS76.set_1) | exact HI0.out)) hb); have n2_ := Aside0.mk (KeepBut.trans (by repeat (first | (with_reducible first | exact HK.out | apply KeepBut.set_ | apply keep_drewN | apply keep_drew | apply keep_alloc) | exact HK.out)) (KeepBut.of_below hb g none) (.inl rfl)); have n3_ := Aside0.mk (below_step (by repeat (first | (with_reducible first | exact HB.out | apply below_alloc | apply pw_below_drewN | apply below_drew1 | refine below_set ?_ (IsS76.ge HI0.out)) | exact HB.out)) hb); clear HI0; clear HK; clear HB; have HO130 := n0_; have HI0 := n1_; have HK := n2_; have HB := n3_; clear n0_ n1_ n2_ n3_; (try clear hb); (try clear hb2); (try clear hk); (try clear hi); (try clear ho0)) | (refine goesL_ (some 8) rfl rfl Try.func92 (by kernel_rfl) rfl #[.pointer (some ⟨g, 0, none⟩), .int .i64 30] rfl ll_ ?_; (with_reducible refine (spec_l6Rd_pick.calls k g s0_0 t127 30 t131 t132 w0 _ ?side1 ?side2 A4.out).mono ?_); (case side1 => repeat (first | (with_reducible first | exact HI0.out | apply IsS76.alloc | apply IsS76.drewN | apply IsS76.drew | apply IsS76.set_1) | exact HI0.out)); (case side2 => repeat (first | (with_reducible first | exact HB.out | apply below_alloc | apply pw_below_drewN | apply below_drew1 | refine below_set ?_ (IsS76.ge HI0.out)) | exact HB.out)); rintro e w25 ⟨rfl, hi, hb, hk⟩; refine ⟨_, rfl, ?_⟩; have n0_ := Aside0.mk (Kd.R_mono (Kd.R_keep (IsS76.apart (show IsS76 w0 _ g s0_0 t127 from by repeat (first | (with_reducible first | exact HI0.out | apply IsS76.alloc | apply IsS76.drewN | apply IsS76.drew | apply IsS76.set_1) | exact HI0.out)) (rr_ HO130) (by decide)) hk (fun _ h => h.2)) (fun _ h => h.1)); have n1_ := Aside0.mk (KeepBut.trans (by repeat (first | (with_reducible first | exact HK.out | apply KeepBut.set_ | apply keep_drewN | apply keep_drew | apply keep_alloc) | exact HK.out)) hk (.inl rfl)); have n2_ := Aside0.mk (hb); have n3_ := Aside0.mk (hi); clear HO130; clear HK; clear HB; clear HI0; have HO130 := n0_; have HK := n1_; have HB := n2_; have HI0 := n3_; clear n0_ n1_ n2_ n3_; (try clear hb); (try clear hb2); (try clear hk); (try clear hi); obtain ⟨Ao26, co26, eo26⟩ := Kd.R_slice HO130.out; subst eo26; have q27 : (80 : Int) ≤ ((t128.length : Int) : Int) := dd_; obtain ⟨i027, hi027, _, hsz27, _⟩ := info_parts info3; have hcut27 := cut_to (P := Try.prog) 23 3 .i64 Try.underlying23 hi027 Ao26 t128.length co26 80 (by omega) q27 (Kd.R_reads' HO130.out).2.1; have hr27 := Kd.R_take (m := (80 : Int).toNat) HO130.out (by omega); have hy27 : y140.length = (80 : Int).toNat := (by rw [Ny140.out, List.length_take]; omega); rw [← Ny140.out] at hr27; rw [← hy27] at hr27 hcut27; clear hy27 hi027 hsz27 HO130; have HO142 := Aside0.mk hr27; clear hr27; replace q27 := eq_true q27))
    go_ret
    exact ⟨_, ee_, by (with_reducible repeat (first | apply Kd.R_alloc | apply Kd.R_drewN | apply Kd.R_drew)); exact HO142.out, by repeat (first | (with_reducible first | exact HI0.out | apply IsS76.alloc | apply IsS76.drewN | apply IsS76.drew | apply IsS76.set_1) | exact HI0.out), by repeat (first | (with_reducible first | exact HB.out | apply below_alloc | apply pw_below_drewN | apply below_drew1 | refine below_set ?_ (IsS76.ge HI0.out)) | exact HB.out), by repeat (first | (with_reducible first | exact HK.out | apply KeepBut.set_ | apply keep_drewN | apply keep_drew | apply keep_alloc) | exact HK.out)⟩
   ·rw [if_neg c22] at H
    exact absurd H (by simp)
  ·rw [if_neg c21] at H
   have c21b0 : (t131 == 1) = false := beq_eq_false_iff_ne.mpr c21
   have c21b1 : (t131 != 1) = true := bne_iff_ne.mpr c21
   simp only [Option.some.injEq, Prod.mk.injEq] at H
   obtain ⟨rfl, rfl⟩ := H
   go_enter Try.func69, Try.ntmps69
   go_wp2_with (first | (refine goesL_ (some 5) rfl rfl Try.func92 (by kernel_rfl) rfl #[.pointer (some ⟨g, 0, none⟩), .int .i64 5] rfl ll_ ?_; (with_reducible refine (spec_l6Rd_pick.calls k g s0_0 s0_1 5 t126 t127 w0 _ ?side1 ?side2 A2.out).mono ?_); (case side1 => repeat (first | (with_reducible first | exact HI0.out | apply IsS76.alloc | apply IsS76.drewN | apply IsS76.drew | apply IsS76.set_1) | exact HI0.out)); (case side2 => repeat (first | (with_reducible first | exact HB.out | apply below_alloc | apply pw_below_drewN | apply below_drew1 | refine below_set ?_ (IsS76.ge HI0.out)) | exact HB.out)); rintro e w28 ⟨rfl, hi, hb, hk⟩; refine ⟨_, rfl, ?_⟩; have n0_ := Aside0.mk (KeepBut.trans (by repeat (first | (with_reducible first | exact HK.out | apply KeepBut.set_ | apply keep_drewN | apply keep_drew | apply keep_alloc) | exact HK.out)) hk (.inl rfl)); have n1_ := Aside0.mk (hb); have n2_ := Aside0.mk (hi); clear HK; clear HB; clear HI0; have HK := n0_; have HB := n1_; have HI0 := n2_; clear n0_ n1_ n2_; (try clear hb); (try clear hb2); (try clear hk); (try clear hi)) | (refine goesL_ (some 6) rfl rfl Try.func112 (by kernel_rfl) rfl #[.int .i64 t126] rfl ll_ ?_; (with_reducible refine (spec_l2Of.calls k t126 t128 _ A3.out).mono ?_); rintro e w29 ⟨v129, rfl, ho0, hb⟩; refine ⟨_, rfl, ?_⟩; have n0_ := Aside0.mk (Kd.R_lower ho0 (keep_size (w := w) (g := g) (row := none) (by repeat (first | (with_reducible first | exact HK.out | apply KeepBut.set_ | apply keep_drewN | apply keep_drew | apply keep_alloc) | exact HK.out)))); have n1_ := Aside0.mk (IsS76.below (by repeat (first | (with_reducible first | exact HI0.out | apply IsS76.alloc | apply IsS76.drewN | apply IsS76.drew | apply IsS76.set_1) | exact HI0.out)) hb); have n2_ := Aside0.mk (KeepBut.trans (by repeat (first | (with_reducible first | exact HK.out | apply KeepBut.set_ | apply keep_drewN | apply keep_drew | apply keep_alloc) | exact HK.out)) (KeepBut.of_below hb g none) (.inl rfl)); have n3_ := Aside0.mk (below_step (by repeat (first | (with_reducible first | exact HB.out | apply below_alloc | apply pw_below_drewN | apply below_drew1 | refine below_set ?_ (IsS76.ge HI0.out)) | exact HB.out)) hb); clear HI0; clear HK; clear HB; have HO130 := n0_; have HI0 := n1_; have HK := n2_; have HB := n3_; clear n0_ n1_ n2_ n3_; (try clear hb); (try clear hb2); (try clear hk); (try clear hi); (try clear ho0)) | (refine goesL_ (some 8) rfl rfl Try.func92 (by kernel_rfl) rfl #[.pointer (some ⟨g, 0, none⟩), .int .i64 30] rfl ll_ ?_; (with_reducible refine (spec_l6Rd_pick.calls k g s0_0 t127 30 t131 t132 w0 _ ?side1 ?side2 A4.out).mono ?_); (case side1 => repeat (first | (with_reducible first | exact HI0.out | apply IsS76.alloc | apply IsS76.drewN | apply IsS76.drew | apply IsS76.set_1) | exact HI0.out)); (case side2 => repeat (first | (with_reducible first | exact HB.out | apply below_alloc | apply pw_below_drewN | apply below_drew1 | refine below_set ?_ (IsS76.ge HI0.out)) | exact HB.out)); rintro e w30 ⟨rfl, hi, hb, hk⟩; refine ⟨_, rfl, ?_⟩; have n0_ := Aside0.mk (Kd.R_mono (Kd.R_keep (IsS76.apart (show IsS76 w0 _ g s0_0 t127 from by repeat (first | (with_reducible first | exact HI0.out | apply IsS76.alloc | apply IsS76.drewN | apply IsS76.drew | apply IsS76.set_1) | exact HI0.out)) (rr_ HO130) (by decide)) hk (fun _ h => h.2)) (fun _ h => h.1)); have n1_ := Aside0.mk (KeepBut.trans (by repeat (first | (with_reducible first | exact HK.out | apply KeepBut.set_ | apply keep_drewN | apply keep_drew | apply keep_alloc) | exact HK.out)) hk (.inl rfl)); have n2_ := Aside0.mk (hb); have n3_ := Aside0.mk (hi); clear HO130; clear HK; clear HB; clear HI0; have HO130 := n0_; have HK := n1_; have HB := n2_; have HI0 := n3_; clear n0_ n1_ n2_ n3_; (try clear hb); (try clear hb2); (try clear hk); (try clear hi)))
   go_ret
   exact ⟨_, ee_, by (with_reducible repeat (first | apply Kd.R_alloc | apply Kd.R_drewN | apply Kd.R_drew)); exact HO130.out, by repeat (first | (with_reducible first | exact HI0.out | apply IsS76.alloc | apply IsS76.drewN | apply IsS76.drew | apply IsS76.set_1) | exact HI0.out), by repeat (first | (with_reducible first | exact HB.out | apply below_alloc | apply pw_below_drewN | apply below_drew1 | refine below_set ?_ (IsS76.ge HI0.out)) | exact HB.out), by repeat (first | (with_reducible first | exact HK.out | apply KeepBut.set_ | apply keep_drewN | apply keep_drew | apply keep_alloc) | exact HK.out)⟩
end Go.Proofs.Ytbfafjejmljcpaa.P

namespace Go.Proofs.Ytbfafjejmljcpaa.P
open Go.RowKit Go.Proofs.YtbfafjejmljcpaaW.PrintWords Go.Proofs.YtbfafjejmljcpaaW.PrintLast Go.Proofs.YtbfafjejmljcpaaW.PrintMore
set_option linter.unusedVariables false
set_option linter.unusedSimpArgs false

def spec_l91Moved.f (k : Nat) (l0 : List Int) : Option (List Int × List Int) := (spec_l6Open.f l0).bind fun bt279 => ((spec_l91System.f k bt279.1 bt279.2).bind fun bt282 => ((spec_l91Move.f k bt279.1 bt282.2 bt282.1).bind fun bt286 => (some (bt282.1, bt286.1))))
set_option maxHeartbeats 8000000 in
set_option maxRecDepth 100000 in
theorem spec_l91Moved.calls (k : Nat) (A0 : Option Addr) (c0 : Nat) (l0 : List Int) (r1 : List Int) (r2 : List Int) (w : World) (hr0 : Kd.C (Kd.int .u8) w A0 l0.length l0) (hc0 : l0.length ≤ c0) (h : spec_l91Moved.f k l0 = some (r1, r2)) :
  Calls Try.prog 43 #[.slice A0 l0.length c0] w fun e w' => ∃ v0_ v1_ : Value, e = .returned (.tuple #[v0_, v1_]) ∧ Kd.R (Kd.int .i64) 3 w' w.heap.size (fun k_ => some k_ ≠ (v1_ : Value).ownBlock) v0_ r1 ∧ Kd.R (Kd.int .i64) 3 w' w.heap.size (fun k_ => some k_ ≠ (v0_ : Value).ownBlock) v1_ r2 ∧ Below w.heap.size w w' := by
 have HR0 := Aside0.mk hr0
 have HC0 := Aside0.mk hc0
 clear hr0 hc0
 have HB := Aside0.mk (Below.refl w.heap.size w)
 have H : ((spec_l6Open.f l0).bind fun bt279 => ((spec_l91System.f k bt279.1 bt279.2).bind fun bt282 => ((spec_l91Move.f k bt279.1 bt282.2 bt282.1).bind fun bt286 => (some (bt282.1, bt286.1))))) = some (r1, r2) := h
 clear h
 replace H := Option.bind_eq_some_iff.mp H
 obtain ⟨⟨t279, t280⟩, A20, H⟩ := H
 replace H : ((spec_l91System.f k t279 t280).bind fun bt282 => ((spec_l91Move.f k t279 bt282.2 bt282.1).bind fun bt286 => (some (bt282.1, bt286.1)))) = some (r1, r2) := H
 have A2 := Aside0.mk A20
 clear A20
 replace H := Option.bind_eq_some_iff.mp H
 obtain ⟨⟨t282, t285⟩, A30, H⟩ := H
 replace H : ((spec_l91Move.f k t279 t285 t282).bind fun bt286 => (some (t282, bt286.1))) = some (r1, r2) := H
 have A3 := Aside0.mk A30
 clear A30
 replace H := Option.bind_eq_some_iff.mp H
 obtain ⟨⟨t286, t289⟩, A40, H⟩ := H
 replace H : (some (t282, t286)) = some (r1, r2) := H
 have A4 := Aside0.mk A40
 clear A40
 simp only [Option.some.injEq, Prod.mk.injEq] at H
 obtain ⟨rfl, rfl⟩ := H
 go_enter Try.func43, Try.ntmps43
 go_wp2_with (first | (refine goesL_ (some 7) rfl rfl Try.func49 (by kernel_rfl) rfl #[.slice A0 l0.length c0] rfl ll_ ?_; (with_reducible refine (spec_l6Open.calls _ _ l0 t279 t280 w _ ?side1 ?side2 ?side3 A2.out).mono ?_); (case side1 => repeat (first | (with_reducible first | exact HB.out | apply below_alloc | apply pw_below_drewN | apply below_drew1) | exact HB.out)); (case side2 => exact HR0.out); (case side3 => exact HC0.out); rintro e w5 ⟨g281, rfl, hi, hb, hb2⟩; refine ⟨_, rfl, ?_⟩; have n0_ := Aside0.mk (hb); have n1_ := Aside0.mk (hi); clear HB; have HB := n0_; have HI281 := n1_; clear n0_ n1_; (try clear hb); (try clear hb2); (try clear hk); (try clear hi)) | (refine goesL_ (some 9) rfl rfl Try.func69 (by kernel_rfl) rfl #[.pointer (some ⟨g281, 0, none⟩)] rfl ll_ ?_; (with_reducible refine (spec_l91System.calls k g281 t279 t280 t282 t285 w _ ?side1 ?side2 A3.out).mono ?_); (case side1 => repeat (first | (with_reducible first | exact HI281.out | apply IsS76.alloc | apply IsS76.drewN | apply IsS76.drew | apply IsS76.set_1) | exact HI281.out)); (case side2 => repeat (first | (with_reducible first | exact HB.out | apply below_alloc | apply pw_below_drewN | apply below_drew1 | refine below_set ?_ (IsS76.ge HI281.out)) | exact HB.out)); rintro e w6 ⟨v283, rfl, ho0, hi, hb, hk⟩; refine ⟨_, rfl, ?_⟩; have n0_ := Aside0.mk (Kd.R_lower ho0 (below_size (by repeat (first | (with_reducible first | exact HB.out | apply below_alloc | apply pw_below_drewN | apply below_drew1 | refine below_set ?_ (IsS76.ge HI281.out)) | exact HB.out)))); have n1_ := Aside0.mk (hb); have n2_ := Aside0.mk (hi); clear HB; clear HI281; have HO284 := n0_; have HB := n1_; have HI281 := n2_; clear n0_ n1_ n2_; (try clear hb); (try clear hb2); (try clear hk); (try clear hi); (try clear ho0); obtain ⟨Ao7, co7, eo7⟩ := Kd.R_slice HO284.out; subst eo7) | (refine goesL_ (some 13) rfl rfl Try.func85 (by kernel_rfl) rfl #[.pointer (some ⟨g281, 0, none⟩), .slice Ao7 t282.length co7] rfl ll_ ?_; (with_reducible refine (spec_l91Move.calls k g281 t279 t285 _ _ t282 t286 t289 w _ ?side1 ?side2 ?side3 ?side4 ?side5 A4.out).mono ?_); (case side1 => repeat (first | (with_reducible first | exact HI281.out | apply IsS76.alloc | apply IsS76.drewN | apply IsS76.drew | apply IsS76.set_1) | exact HI281.out)); (case side2 => repeat (first | (with_reducible first | exact HB.out | apply below_alloc | apply pw_below_drewN | apply below_drew1 | refine below_set ?_ (IsS76.ge HI281.out)) | exact HB.out)); (case side3 => exact cc_ HO284); (case side4 => exact (Kd.R_reads' HO284.out).2.1); (case side5 => exact far_slice (IsS76.own_ne HI281.out HO284.out (by decide))); rintro e w8 ⟨v287, rfl, ho0, hi, hb, hk⟩; refine ⟨_, rfl, ?_⟩; have n0_ := Aside0.mk (Kd.R_mono (Kd.R_told (Kd.R_oldK (IsS76.apart (show IsS76 w _ g281 t279 t285 from by repeat (first | (with_reducible first | exact HI281.out | apply IsS76.alloc | apply IsS76.drewN | apply IsS76.drew | apply IsS76.set_1) | exact HI281.out)) (rr_ HO284) (by decide)) hk) (Kd.R_base ho0)) (fun _ h_ => h_.1)); have n1_ := Aside0.mk (Kd.R_lower (Kd.R_new' ho0 (Kd.R_lt (rr_ HO284))) (below_size (by repeat (first | (with_reducible first | exact HB.out | apply below_alloc | apply pw_below_drewN | apply below_drew1 | refine below_set ?_ (IsS76.ge HI281.out)) | exact HB.out)))); have n2_ := Aside0.mk (hb); have n3_ := Aside0.mk (hi); clear HO284; clear HB; clear HI281; have HO284 := n0_; have HO288 := n1_; have HB := n2_; have HI281 := n3_; clear n0_ n1_ n2_ n3_; (try clear hb); (try clear hb2); (try clear hk); (try clear hi); (try clear ho0)))
 go_ret2
 exact ⟨_, _, ee_, by (with_reducible repeat (first | apply Kd.R_alloc | apply Kd.R_drewN | apply Kd.R_drew)); exact Kd.R_mono HO284.out (fun _ hk => hk.2), by (with_reducible repeat (first | apply Kd.R_alloc | apply Kd.R_drewN | apply Kd.R_drew)); exact Kd.R_mono HO288.out (fun _ hk => hk.2), by repeat (first | (with_reducible first | exact HB.out | apply below_alloc | apply pw_below_drewN | apply below_drew1 | refine below_set ?_ (IsS76.ge HI281.out)) | exact HB.out)⟩
end Go.Proofs.Ytbfafjejmljcpaa.P

namespace Go.Proofs.Ytbfafjejmljcpaa.P
open Go.RowKit Go.Proofs.YtbfafjejmljcpaaW.PrintWords Go.Proofs.YtbfafjejmljcpaaW.PrintLast
set_option linter.unusedVariables false
set_option linter.unusedSimpArgs false

def spec_DrawMoveOrder.f (k : Nat) (l0 : List Int) : Option (List Int × List Int) := (spec_l91Moved.f k l0).bind fun bt290 => (some (bt290.1, bt290.2))
set_option maxHeartbeats 8000000 in
set_option maxRecDepth 100000 in
theorem spec_DrawMoveOrder.calls (k : Nat) (A0 : Option Addr) (c0 : Nat) (l0 : List Int) (r1 : List Int) (r2 : List Int) (w : World) (hr0 : Kd.C (Kd.int .u8) w A0 l0.length l0) (hc0 : l0.length ≤ c0) (h : spec_DrawMoveOrder.f k l0 = some (r1, r2)) :
  Calls Try.prog 11 #[.slice A0 l0.length c0] w fun e w' => ∃ v0_ v1_ : Value, e = .returned (.tuple #[v0_, v1_]) ∧ Kd.R (Kd.int .i64) 3 w' w.heap.size (fun k_ => some k_ ≠ (v1_ : Value).ownBlock) v0_ r1 ∧ Kd.R (Kd.int .i64) 3 w' w.heap.size (fun k_ => some k_ ≠ (v0_ : Value).ownBlock) v1_ r2 ∧ Below w.heap.size w w' := by
 have HR0 := Aside0.mk hr0
 have HC0 := Aside0.mk hc0
 clear hr0 hc0
 have HB := Aside0.mk (Below.refl w.heap.size w)
 have H : ((spec_l91Moved.f k l0).bind fun bt290 => (some (bt290.1, bt290.2))) = some (r1, r2) := h
 clear h
 replace H := Option.bind_eq_some_iff.mp H
 obtain ⟨⟨t290, t291⟩, A20, H⟩ := H
 replace H : (some (t290, t291)) = some (r1, r2) := H
 have A2 := Aside0.mk A20
 clear A20
 simp only [Option.some.injEq, Prod.mk.injEq] at H
 obtain ⟨rfl, rfl⟩ := H
 go_enter Try.func11, Try.ntmps11
 go_wp2_with (first | (refine goesL_ (some 5) rfl rfl Try.func43 (by kernel_rfl) rfl #[.slice A0 l0.length c0] rfl ll_ ?_; (with_reducible refine (spec_l91Moved.calls k _ _ l0 t290 t291 _ ?side1 ?side2 A2.out).mono ?_); (case side1 => exact ss_ HR0); (case side2 => exact HC0.out); rintro e w3 ⟨v292, v294, rfl, ho0, ho1, hb⟩; refine ⟨_, rfl, ?_⟩; have n0_ := Aside0.mk (Kd.R_lower ho0 (below_size (bb_ HB))); have n1_ := Aside0.mk (Kd.R_lower ho1 (below_size (bb_ HB))); have n2_ := Aside0.mk (below_step (bb_ HB) hb); clear HB; have HO293 := n0_; have HO295 := n1_; have HB := n2_; clear n0_ n1_ n2_; (try clear hb); (try clear hb2); (try clear hk); (try clear hi); (try clear ho0); (try clear ho1)))
 go_ret2
 exact ⟨_, _, ee_, by (with_reducible repeat (first | apply Kd.R_alloc | apply Kd.R_drewN | apply Kd.R_drew)); exact HO293.out, by (with_reducible repeat (first | apply Kd.R_alloc | apply Kd.R_drewN | apply Kd.R_drew)); exact HO295.out, bb_ HB⟩
end Go.Proofs.Ytbfafjejmljcpaa.P

namespace Go.Proofs.Ytbfafjejmljcpaa.P
open Go.RowKit Go.Proofs.YtbfafjejmljcpaaW.PrintWords Go.Proofs.YtbfafjejmljcpaaW.PrintLast
set_option linter.unusedVariables false
set_option linter.unusedSimpArgs false

def spec_l5Gcd.l0 : Nat → Int → Int → Option (Int)
 | 0, _, _ => none
 | k + 1, x0, x1 => if x1 = 0 then (some x0) else (spec_l5Gcd.l0 k x1 (Int.tmod x0 x1))
def spec_l5Gcd.f (k : Nat) (a0 : Int) (a1 : Int) : Option (Int) := spec_l5Gcd.l0 k a0 a1
set_option maxHeartbeats 8000000 in
set_option maxRecDepth 100000 in
theorem spec_l5Gcd.calls (k : Nat) (a0 : Int) (a1 : Int) (r : Int) (w : World) (h : spec_l5Gcd.f k a0 a1 = some r) :
  Calls Try.prog 48 #[.int .i64 a0, .int .i64 a1] w fun e w' => e = .returned (.int .i64 r) ∧ Drawn0 w w' := by
 have H : (spec_l5Gcd.l0 k a0 a1) = some r := h
 clear h
 have H' := Aside0.mk H
 clear H
 go_enter Try.func48, Try.ntmps48
 go_wp2
 go_loopg [0, 1] k (fun kq v0 v1 w' => ∃ (x0_1 : Int) (x1_1 : Int), v0 = .int .i64 x0_1 ∧ v1 = .int .i64 x1_1 ∧ Aside0 (spec_l5Gcd.l0 kq x0_1 x1_1 = some r) ∧ Aside0 (kq ≤ k) ∧ Drawn0 w w')
 case atStart => exact ⟨(a0), (a1), (by first | rfl | (simp; done) | (simp [*]; done)), (by first | rfl | (simp; done) | (simp [*]; done)), H', ⟨Nat.le_refl _⟩, by repeat (first | exact Drawn0.refl _ | apply Drawn0.step)⟩
 case round =>
  clear H'
  try clear p2
  obtain ⟨x0_1, x1_1, rfl, rfl, HA, HK1, ⟨m1, rfl⟩⟩ := hrel
  cases gk with
  | zero => exact absurd HA.out (by simp [spec_l5Gcd.l0])
  | succ k1 =>
   have H := HA.out
   clear HA
   simp only [spec_l5Gcd.l0] at H
   by_cases c3 : x1_1 = 0
   ·rw [if_pos c3] at H
    have c3b0 : (x1_1 == 0) = true := beq_iff_eq.mpr c3
    have c3b1 : (x1_1 != 0) = false := bne_eq_false_iff_eq.mpr c3
    clear c3
    obtain rfl := Option.some.inj H
    go_wp2
    go_ret
    exact ⟨by first | rfl | (simp; done) | (simp [*]; done), by repeat (first | exact Drawn0.refl _ | apply Drawn0.step)⟩
   ·rw [if_neg c3] at H
    have c3b0 : (x1_1 == 0) = false := beq_eq_false_iff_ne.mpr c3
    have c3b1 : (x1_1 != 0) = true := bne_iff_ne.mpr c3
    have H' := Aside0.mk H
    clear H
    go_wp2
    go_roundg k1
    case measure => have := HK1.out; omega
    case rel => exact ⟨(x1_1), (Int.tmod x0_1 x1_1), (by first | rfl | (simp; done) | (simp [*]; done)), (by first | rfl | (simp; done) | (simp [*]; done)), H', ⟨by have := HK1.out; omega⟩, by repeat (first | exact Drawn0.refl _ | apply Drawn0.step)⟩
end Go.Proofs.Ytbfafjejmljcpaa.P

namespace Go.Proofs.Ytbfafjejmljcpaa.P
open Go.RowKit Go.Proofs.YtbfafjejmljcpaaW.PrintWords Go.Proofs.YtbfafjejmljcpaaW.PrintLast
set_option linter.unusedVariables false
set_option linter.unusedSimpArgs false

mutual
def spec_MoveOrder.l0 : Nat → List Int → Int → List Bool → Int → Option (Int × Bool)
 | 0, _, _, _, _ => none
 | k + 1, x1, x6, x7, x8 => if x8 < 91 then (spec_MoveOrder.l1 k x1 x6 x7 x8 0 x8) else (some (x6, true))
def spec_MoveOrder.l1 : Nat → List Int → Int → List Bool → Int → Int → Int → Option (Int × Bool)
 | 0, _, _, _, _, _, _ => none
 | k + 1, x1, x6, x7, x8, x9, x10 => if 0 ≤ x10 then (if x10 < (x7.length : Int) then (if rdOf false x7 x10 = true then (if x9 > 0 then ((spec_l5Gcd.f k x6 x9).bind fun t326 => (if t326 = 0 then (none) else (spec_MoveOrder.l0 k x1 (wrap64 ((wrap64 (Int.tdiv x6 t326)) * x9)) x7 (wrap64 (x8 + 1))))) else (spec_MoveOrder.l0 k x1 x6 x7 (wrap64 (x8 + 1)))) else (if x10 < (x1.length : Int) then (spec_MoveOrder.l1 k x1 x6 (x7.set (x10 : Int).toNat true) x8 (wrap64 (x9 + 1)) (rd x1 x10)) else (none))) else (none)) else (none)
end
def spec_MoveOrder.f (k : Nat) (l0 : List Int) (l1 : List Int) : Option (Int × Bool) := (spec_MoveIn.f k l0 l1).bind fun t321 => (if t321 = true then (if 91 ≤ 281474976710656 then (spec_MoveOrder.l0 k l1 1 (List.replicate 91 false) 0) else (none)) else (some (0, false)))
set_option maxHeartbeats 8000000 in
set_option maxRecDepth 100000 in
theorem spec_MoveOrder.calls (k : Nat) (A0 : Option Addr) (c0 : Nat) (l0 : List Int) (A1 : Option Addr) (c1 : Nat) (l1 : List Int) (r1 : Int) (r2 : Bool) (w : World) (hr0 : Kd.C (Kd.int .i64) w A0 l0.length l0) (hc0 : l0.length ≤ c0) (hr1 : Kd.C (Kd.int .i64) w A1 l1.length l1) (hc1 : l1.length ≤ c1) (h : spec_MoveOrder.f k l0 l1 = some (r1, r2)) :
  Calls Try.prog 13 #[.slice A0 l0.length c0, .slice A1 l1.length c1] w fun e w' => e = .returned (.tuple #[.int .i64 r1, .bool r2]) ∧ Below w.heap.size w w' := by
 have HR0 := Aside0.mk hr0
 have HC0 := Aside0.mk hc0
 clear hr0 hc0
 have HR1 := Aside0.mk hr1
 have HC1 := Aside0.mk hc1
 clear hr1 hc1
 have HB := Aside0.mk (Below.refl w.heap.size w)
 have H : ((spec_MoveIn.f k l0 l1).bind fun t321 => (if t321 = true then (if 91 ≤ 281474976710656 then (spec_MoveOrder.l0 k l1 1 (List.replicate 91 false) 0) else (none)) else (some (0, false)))) = some (r1, r2) := h
 clear h
 replace H := Option.bind_eq_some_iff.mp H
 obtain ⟨t321, A30, H⟩ := H
 replace H : (if t321 = true then (if 91 ≤ 281474976710656 then (spec_MoveOrder.l0 k l1 1 (List.replicate 91 false) 0) else (none)) else (some (0, false))) = some (r1, r2) := H
 have A3 := Aside0.mk A30
 clear A30
 by_cases c4 : t321 = true
 ·subst c4
  have H1 : (if 91 ≤ 281474976710656 then (spec_MoveOrder.l0 k l1 1 (List.replicate 91 false) 0) else (none)) = some (r1, r2) := by rw [if_pos rfl] at H; exact H
  clear H
  have H := H1
  clear H1
  by_cases c5 : 91 ≤ 281474976710656
  ·rw [if_pos c5] at H
   have c5b0 := eq_true c5
   have c5b1 : decide (91 ≤ 281474976710656) = true := decide_eq_true c5
   clear c5
   obtain ⟨y322, hy322⟩ : ∃ y_ : List Bool, y_ = (List.replicate 91 false) := ⟨_, rfl⟩
   replace H : (spec_MoveOrder.l0 k l1 1 y322 0) = some (r1, r2) := by first | (rw [hy322]; with_reducible exact H) | (have H2_ := (Option.bind_some _ _).symm.trans H; rw [hy322]; with_reducible exact H2_) | (have H2_ := (Option.bind_some _ _).symm.trans H; with_reducible exact H2_) | with_reducible exact H | (rw [hy322]; exact H) | exact H
   have Ny322 := Aside0.mk hy322
   clear hy322
   have H' := Aside0.mk H
   clear H
   go_enter Try.func13, Try.ntmps13
   go_wp2_with (first | (refine goesL_ (some 13) rfl rfl Try.func47 (by kernel_rfl) rfl #[.slice A0 l0.length c0, .slice A1 l1.length c1] rfl ll_ ?_; (with_reducible refine (spec_MoveIn.calls k _ _ l0 _ _ l1 true _ ?side1 ?side2 ?side3 ?side4 A3.out).mono ?_); (case side1 => exact ss_ HR0); (case side2 => exact HC0.out); (case side3 => exact ss_ HR1); (case side4 => exact HC1.out); rintro e w6 ⟨rfl, hb⟩; refine ⟨_, rfl, ?_⟩; have n0_ := Aside0.mk (below_step (bb_ HB) hb); clear HB; have HB := n0_; clear n0_; (try clear hb); (try clear hb2); (try clear hk); (try clear hi)) | ((with_reducible refine gate_dst (N := 15) rfl ?_); refine Kd.R_make Kd.bool _ 4 rfl (N := 15) rfl 52 _ _ rfl 91 rfl rfl Try.underlying52 (.bool false) 1 info4 rfl (by decide) (by omega) false (ok := fun _ => True) (okp := fun _ => True) rfl (fun _ hk => hk) trivial (by omega) (by omega) (Below.refl _ _) (Nat.le_refl _) ?_; intro v323 w7 ho8 hb hg_ hnew_; clear hg_ hnew_; (first | rw [← Ny322.out] at ho8 | (simp only [Int.reduceToNat] at ho8; rw [← Ny322.out] at ho8)); have n0_ := Aside0.mk (Kd.R_lower ho8 (below_size (bb_ HB))); have n1_ := Aside0.mk (below_step (bb_ HB) hb); clear HB; have HO324 := n0_; have HB := n1_; clear n0_ n1_; clear hb ho8))
   go_loopg [6, 8] k (fun kq v6 v8 w' => ∃ (x6_1 : Int) (x7_1 : List Bool) (x8_1 : Int), v6 = .int .i64 x6_1 ∧ v8 = .int .i64 x8_1 ∧ Aside0 (spec_MoveOrder.l0 kq l1 x6_1 x7_1 x8_1 = some (r1, r2)) ∧ Aside0 (kq ≤ k) ∧ Aside0 (Kd.R Kd.bool 4 w' w.heap.size (fun _ => True) v323 x7_1) ∧ Aside0 (Below w.heap.size w w'))
   case atStart => exact ⟨(1), (y322), (0), (by first | rfl | (simp; done) | (simp [*]; done)), (by first | rfl | (simp; done) | (simp [*]; done)), H', ⟨Nat.le_refl _⟩, ⟨rr_ HO324⟩, ⟨by repeat (first | (with_reducible first | exact HB.out | apply below_alloc | apply pw_below_drewN | apply below_drew1) | exact HB.out)⟩⟩
   case round =>
    clear H'
    try clear c1
    try clear p2
    try clear c4
    try clear c5
    try clear c5b0
    try clear c5b1
    obtain ⟨x6_1, x7_1, x8_1, rfl, rfl, HA, HK1, HO_7, HB⟩ := hrel
    cases gk with
    | zero => exact absurd HA.out (by simp [spec_MoveOrder.l0])
    | succ k1 =>
     have H := HA.out
     clear HA
     simp only [spec_MoveOrder.l0] at H
     by_cases c9 : x8_1 < 91
     ·rw [if_pos c9] at H
      have c9b0 : decide (x8_1 < 91) = true := decide_eq_true c9
      clear c9
      have H' := Aside0.mk H
      clear H
      go_wp2
      go_loopg [9, 10] k1 (fun kq v9 v10 w' => ∃ (x7_2 : List Bool) (x9_2 : Int) (x10_2 : Int), v9 = .int .i64 x9_2 ∧ v10 = .int .i64 x10_2 ∧ Aside0 (spec_MoveOrder.l1 kq l1 x6_1 x7_2 x8_1 x9_2 x10_2 = some (r1, r2)) ∧ Aside0 (kq ≤ k1) ∧ Aside0 (Kd.R Kd.bool 4 w' w.heap.size (fun _ => True) v323 x7_2) ∧ Aside0 (Below w.heap.size w w'))
      case atStart => exact ⟨(x7_1), (0), (x8_1), (by first | rfl | (simp; done) | (simp [*]; done)), (by first | rfl | (simp; done) | (simp [*]; done)), H', ⟨Nat.le_refl _⟩, ⟨rr_ HO_7⟩, ⟨by repeat (first | (with_reducible first | exact HB.out | apply below_alloc | apply pw_below_drewN | apply below_drew1) | exact HB.out)⟩⟩
      case round =>
       clear H'
       try clear c1
       try clear p2
       try clear c4
       try clear c5
       try clear c5b0
       try clear c5b1
       try clear c9
       try clear c9b0
       try clear p2
       obtain ⟨x7_2, x9_2, x10_2, rfl, rfl, HA, HK2, HO_7, HB⟩ := hrel
       cases gk with
       | zero => exact absurd HA.out (by simp [spec_MoveOrder.l1])
       | succ k2 =>
        have H := HA.out
        clear HA
        simp only [spec_MoveOrder.l1] at H
        by_cases c10 : 0 ≤ x10_2
        ·rw [if_pos c10] at H
         have c10b0 : decide (0 ≤ x10_2) = true := decide_eq_true c10
         clear c10
         by_cases c11 : x10_2 < (x7_2.length : Int)
         ·rw [if_pos c11] at H
          have c11b0 : decide (x10_2 < (x7_2.length : Int)) = true := decide_eq_true c11
          clear c11
          obtain ⟨bq12, hbq12⟩ : ∃ b_ : Bool, b_ = (rdOf false x7_2 x10_2) := ⟨_, rfl⟩
          replace H : (if bq12 = true then (if x9_2 > 0 then ((spec_l5Gcd.f k2 x6_1 x9_2).bind fun t326 => (if t326 = 0 then (none) else (spec_MoveOrder.l0 k2 l1 (wrap64 ((wrap64 (Int.tdiv x6_1 t326)) * x9_2)) x7_2 (wrap64 (x8_1 + 1))))) else (spec_MoveOrder.l0 k2 l1 x6_1 x7_2 (wrap64 (x8_1 + 1)))) else (if x10_2 < (l1.length : Int) then (spec_MoveOrder.l1 k2 l1 x6_1 (x7_2.set (x10_2 : Int).toNat true) x8_1 (wrap64 (x9_2 + 1)) (rd l1 x10_2)) else (none))) = some (r1, r2) := by rw [← hbq12] at H; exact H
          have Nbq12 := Aside0.mk hbq12
          clear hbq12
          by_cases c13 : bq12 = true
          ·subst c13
           have H1 : (if x9_2 > 0 then ((spec_l5Gcd.f k2 x6_1 x9_2).bind fun t326 => (if t326 = 0 then (none) else (spec_MoveOrder.l0 k2 l1 (wrap64 ((wrap64 (Int.tdiv x6_1 t326)) * x9_2)) x7_2 (wrap64 (x8_1 + 1))))) else (spec_MoveOrder.l0 k2 l1 x6_1 x7_2 (wrap64 (x8_1 + 1)))) = some (r1, r2) := by rw [if_pos rfl] at H; exact H
           clear H
           have H := H1
           clear H1
           by_cases c14 : x9_2 > 0
           ·rw [if_pos c14] at H
            have c14b0 : decide (0 < x9_2) = true := decide_eq_true c14
            clear c14
            replace H := Option.bind_eq_some_iff.mp H
            obtain ⟨t326, A150, H⟩ := H
            replace H : (if t326 = 0 then (none) else (spec_MoveOrder.l0 k2 l1 (wrap64 ((wrap64 (Int.tdiv x6_1 t326)) * x9_2)) x7_2 (wrap64 (x8_1 + 1)))) = some (r1, r2) := H
            have A15 := Aside0.mk A150
            clear A150
            by_cases c16 : t326 = 0
            ·rw [if_pos c16] at H
             exact absurd H (by simp)
            ·rw [if_neg c16] at H
             have c16b0 : (t326 == 0) = false := beq_eq_false_iff_ne.mpr c16
             have c16b1 : (t326 != 0) = true := bne_iff_ne.mpr c16
             have H' := Aside0.mk H
             clear H
             obtain ⟨Ao17, co17, eo17⟩ := Kd.R_slice HO_7.out
             subst eo17
             have p325 : 0 ≤ (x10_2 : Int) := dd_
             have q325 : x10_2 < (x7_2.length : Int) := dd_
             obtain ⟨ad325, e325, hx325_0⟩ := Kd.at_bool (Kd.R_reads' HO_7.out).2.2 x10_2 p325 q325
             (try rw [← Nbq12.out] at hx325_0)
             cases e325
             replace p325 := eq_true p325
             replace q325 := eq_true q325
             go_wp2_with (first | (refine goesL_ (some 40) rfl rfl Try.func48 (by kernel_rfl) rfl #[.int .i64 x6_1, .int .i64 x9_2] rfl ll_ ?_; (with_reducible refine (spec_l5Gcd.calls k2 x6_1 x9_2 t326 _ A15.out).mono ?_); rintro e w' ⟨rfl, ⟨nd, rfl⟩⟩; refine ⟨_, rfl, ?_⟩))
             go_roundg k2
             case measure => have := HK1.out; have := HK2.out; omega
             case rel => exact ⟨(wrap64 ((wrap64 (Int.tdiv x6_1 t326)) * x9_2)), (x7_2), (wrap64 (x8_1 + 1)), (by first | rfl | (simp; done) | (simp [*]; done)), (by first | rfl | (simp; done) | (simp [*]; done)), H', ⟨by have := HK1.out; have := HK2.out; omega⟩, ⟨rr_ HO_7⟩, ⟨by repeat (first | (with_reducible first | exact HB.out | apply below_alloc | apply pw_below_drewN | apply below_drew1) | exact HB.out)⟩⟩
           ·rw [if_neg c14] at H
            have c14b0 : decide (0 < x9_2) = false := decide_eq_false c14
            clear c14
            have H' := Aside0.mk H
            clear H
            obtain ⟨Ao18, co18, eo18⟩ := Kd.R_slice HO_7.out
            subst eo18
            have p325 : 0 ≤ (x10_2 : Int) := dd_
            have q325 : x10_2 < (x7_2.length : Int) := dd_
            obtain ⟨ad325, e325, hx325_0⟩ := Kd.at_bool (Kd.R_reads' HO_7.out).2.2 x10_2 p325 q325
            (try rw [← Nbq12.out] at hx325_0)
            cases e325
            replace p325 := eq_true p325
            replace q325 := eq_true q325
            go_wp2
            go_roundg k2
            case measure => have := HK1.out; have := HK2.out; omega
            case rel => exact ⟨(x6_1), (x7_2), (wrap64 (x8_1 + 1)), (by first | rfl | (simp; done) | (simp [*]; done)), (by first | rfl | (simp; done) | (simp [*]; done)), H', ⟨by have := HK1.out; have := HK2.out; omega⟩, ⟨rr_ HO_7⟩, ⟨by repeat (first | (with_reducible first | exact HB.out | apply below_alloc | apply pw_below_drewN | apply below_drew1) | exact HB.out)⟩⟩
          ·replace c13 := Bool.eq_false_iff.mpr c13
           subst c13
           have H1 : (if x10_2 < (l1.length : Int) then (spec_MoveOrder.l1 k2 l1 x6_1 (x7_2.set (x10_2 : Int).toNat true) x8_1 (wrap64 (x9_2 + 1)) (rd l1 x10_2)) else (none)) = some (r1, r2) := by rw [if_neg (show ¬ (false = true) by decide)] at H; exact H
           clear H
           have H := H1
           clear H1
           obtain ⟨y327, hy327⟩ : ∃ y_ : List Bool, y_ = (x7_2.set (x10_2 : Int).toNat true) := ⟨_, rfl⟩
           replace H : (if x10_2 < (l1.length : Int) then (spec_MoveOrder.l1 k2 l1 x6_1 y327 x8_1 (wrap64 (x9_2 + 1)) (rd l1 x10_2)) else (none)) = some (r1, r2) := by first | (rw [hy327]; with_reducible exact H) | (have H2_ := (Option.bind_some _ _).symm.trans H; rw [hy327]; with_reducible exact H2_) | (have H2_ := (Option.bind_some _ _).symm.trans H; with_reducible exact H2_) | with_reducible exact H | (rw [hy327]; exact H) | exact H
           have Ny327 := Aside0.mk hy327
           clear hy327
           by_cases c20 : x10_2 < (l1.length : Int)
           ·rw [if_pos c20] at H
            have c20b0 : decide (x10_2 < (l1.length : Int)) = true := decide_eq_true c20
            clear c20
            have H' := Aside0.mk H
            clear H
            obtain ⟨Ao21, co21, eo21⟩ := Kd.R_slice HO_7.out
            subst eo21
            have p325 : 0 ≤ (x10_2 : Int) := dd_
            have q325 : x10_2 < (x7_2.length : Int) := dd_
            obtain ⟨ad325, e325, hx325_0⟩ := Kd.at_bool (Kd.R_reads' HO_7.out).2.2 x10_2 p325 q325
            (try rw [← Nbq12.out] at hx325_0)
            cases e325
            replace p325 := eq_true p325
            replace q325 := eq_true q325
            have p19 : 0 ≤ (x10_2 : Int) := dd_
            have q19 : (x10_2 : Int) < ((x7_2.length : Int) : Int) := dd_
            obtain ⟨go19, co19, eo19, gb19, gl19, cl19, HG19⟩ := Kd.R_form HO_7.out (by omega)
            (first | cases eo19 | (injection eo19 with ea_ en_ ec_; (first | subst ea_ | (injection ea_ with ea_; subst ea_)); subst ec_; clear en_))
            have GB19 := Aside0.mk gb19
            have GG19 := Aside0.mk HG19
            clear gb19 gl19 HG19
            (first | simp only [add_plain] at hx325_0 | skip)
            obtain ⟨hx19_0, hf19_0⟩ := Kd.R_celln false HO_7.out (x10_2 : Int) p19 q19
            replace p19 := eq_true p19
            replace q19 := eq_true q19
            have HP22 := Kd.R_putg HO_7.out (x10_2 : Int) true
            go_wp2_with (first | ((with_reducible refine gate_store (t := 4) (p := 28) rfl ?_); refine store_event (t := 4) (p := 28) (v := ?vo_w23) (w1 := (wr.setCell ⟨go19, (x10_2 : Int).toNat, none⟩ (.bool true))) ?hg ?ho ?hn ?hr ?_; (case ho => rfl); (case hg => rfl); (case hn => rfl); (case hr => first | (go_simp; done) | (go_simp; rfl)); intro w23 hw; have hg : wr.grownBy w23 (some go19) := (by rw [hw]; exact HP22.2); have hp_ : Kd.R Kd.bool 4 w23 w.heap.size (fun _ => True) (.slice (some ⟨go19, 0, none⟩) x7_2.length co21) y327 := (by rw [hw, Ny327.out]; exact HP22.1); clear HP22; have n0_ := Aside0.mk (hp_); have n1_ := Aside0.mk ((by rw [hw]; exact below_set (HB.out) GB19.out : Below w.heap.size w w23)); clear HO_7; clear HB; have HO_7 := n0_; have HB := n1_; clear n0_ n1_; clear hg hw hp_; have p328 : 0 ≤ (x10_2 : Int) := dd_; have q328 : x10_2 < (l1.length : Int) := dd_; obtain ⟨ad328, e328, hx328_0⟩ := Kd.at_int HR1.out x10_2 p328 q328; cases e328; replace hx328_0 := hc_ HB hx328_0; replace p328 := eq_true p328; replace q328 := eq_true q328))
            go_roundg k2
            case measure => have := HK1.out; have := HK2.out; omega
            case rel => exact ⟨(y327), (wrap64 (x9_2 + 1)), (rd l1 x10_2), (by first | rfl | (simp; done) | (simp [*]; done)), (by first | rfl | (simp; done) | (simp [*]; done)), H', ⟨by have := HK1.out; have := HK2.out; omega⟩, ⟨rr_ HO_7⟩, ⟨by repeat (first | (with_reducible first | exact HB.out | apply below_alloc | apply pw_below_drewN | apply below_drew1) | exact HB.out)⟩⟩
           ·rw [if_neg c20] at H
            exact absurd H (by simp)
         ·rw [if_neg c11] at H
          exact absurd H (by simp)
        ·rw [if_neg c10] at H
         exact absurd H (by simp)
     ·rw [if_neg c9] at H
      have c9b0 : decide (x8_1 < 91) = false := decide_eq_false c9
      clear c9
      simp only [Option.some.injEq, Prod.mk.injEq] at H
      obtain ⟨rfl, rfl⟩ := H
      go_wp2
      go_ret2
      exact ⟨ee_, bb_ HB⟩
  ·rw [if_neg c5] at H
   exact absurd H (by simp)
 ·replace c4 := Bool.eq_false_iff.mpr c4
  subst c4
  have H1 : (some (0, false)) = some (r1, r2) := by rw [if_neg (show ¬ (false = true) by decide)] at H; exact H
  clear H
  have H := H1
  clear H1
  simp only [Option.some.injEq, Prod.mk.injEq] at H
  obtain ⟨rfl, rfl⟩ := H
  go_enter Try.func13, Try.ntmps13
  go_wp2_with (first | (refine goesL_ (some 13) rfl rfl Try.func47 (by kernel_rfl) rfl #[.slice A0 l0.length c0, .slice A1 l1.length c1] rfl ll_ ?_; (with_reducible refine (spec_MoveIn.calls k _ _ l0 _ _ l1 false _ ?side1 ?side2 ?side3 ?side4 A3.out).mono ?_); (case side1 => exact ss_ HR0); (case side2 => exact HC0.out); (case side3 => exact ss_ HR1); (case side4 => exact HC1.out); rintro e w24 ⟨rfl, hb⟩; refine ⟨_, rfl, ?_⟩; have n0_ := Aside0.mk (below_step (bb_ HB) hb); clear HB; have HB := n0_; clear n0_; (try clear hb); (try clear hb2); (try clear hk); (try clear hi)))
  go_ret2
  exact ⟨ee_, bb_ HB⟩
end Go.Proofs.Ytbfafjejmljcpaa.P

namespace Go.Proofs.Ytbfafjejmljcpaa.P
open Go.RowKit Go.Proofs.YtbfafjejmljcpaaW.PrintWords Go.Proofs.YtbfafjejmljcpaaW.PrintLast Go.Proofs.YtbfafjejmljcpaaW.PrintMore
set_option linter.unusedVariables false
set_option linter.unusedSimpArgs false

mutual
def laws_FnMoveOrder.j0 : Nat → List Int → Int → Bool → Int → Bool → Bool → Option (Bool)
 | 0, _, _, _, _, _, _ => none
 | k + 1, x4, x5, x6, x7, x8, x43 => if x43 = true then (if (x6 == x8) = true then (some (x5 == x7)) else (some false)) else (laws_FnMoveOrder.l0 k x4 x5 0)
def laws_FnMoveOrder.l0 : Nat → List Int → Int → Int → Option (Bool)
 | 0, _, _, _ => none
 | k + 1, x4, x5, x9 => if x9 < 91 then (laws_FnMoveOrder.l1 k x4 x5 x9 x9 0) else (some (decide (x5 ≥ 1)))
def laws_FnMoveOrder.l1 : Nat → List Int → Int → Int → Int → Int → Option (Bool)
 | 0, _, _, _, _, _ => none
 | k + 1, x4, x5, x9, x10, x11 => if x11 < x5 then (if x11 < 1000 then (if 0 ≤ x10 then (if x10 < (x4.length : Int) then (laws_FnMoveOrder.l1 k x4 x5 x9 (rd x4 x10) (wrap64 (x11 + 1))) else (none)) else (none)) else (if x10 = x9 then (laws_FnMoveOrder.l0 k x4 x5 (wrap64 (x9 + 1))) else (if x5 ≤ 1000 then (some false) else (laws_FnMoveOrder.l0 k x4 x5 (wrap64 (x9 + 1)))))) else (if x10 = x9 then (laws_FnMoveOrder.l0 k x4 x5 (wrap64 (x9 + 1))) else (if x5 ≤ 1000 then (some false) else (laws_FnMoveOrder.l0 k x4 x5 (wrap64 (x9 + 1)))))
end
def laws_FnMoveOrder.f (k : Nat) (l0 : List Int) : Option (Bool) := if (l0.length : Int) > 1048576 then (some true) else ((spec_DrawMoveOrder.f k l0).bind fun bt329 => ((impl_MoveOrder.f k bt329.1 bt329.2).bind fun bt335 => ((spec_MoveOrder.f k bt329.1 bt329.2).bind fun bt337 => (if (bt335.2 != bt337.2) = true then (laws_FnMoveOrder.j0 k bt329.2 bt335.1 bt335.2 bt337.1 bt337.2 true) else (if bt335.1 = bt337.1 then (laws_FnMoveOrder.j0 k bt329.2 bt335.1 bt335.2 bt337.1 bt337.2 (!bt335.2)) else (laws_FnMoveOrder.j0 k bt329.2 bt335.1 bt335.2 bt337.1 bt337.2 true))))))
set_option maxHeartbeats 8000000 in
set_option maxRecDepth 100000 in
theorem laws_FnMoveOrder.calls (k : Nat) (A0 : Option Addr) (c0 : Nat) (l0 : List Int) (r : Bool) (w : World) (hr0 : Kd.C (Kd.int .u8) w A0 l0.length l0) (hc0 : l0.length ≤ c0) (h : laws_FnMoveOrder.f k l0 = some r) :
  Calls Try.prog 3 #[.slice A0 l0.length c0] w fun e w' => e = .returned (.bool r) ∧ Below w.heap.size w w' := by
 have HR0 := Aside0.mk hr0
 have HC0 := Aside0.mk hc0
 clear hr0 hc0
 have HB := Aside0.mk (Below.refl w.heap.size w)
 have H : (if (l0.length : Int) > 1048576 then (some true) else ((spec_DrawMoveOrder.f k l0).bind fun bt329 => ((impl_MoveOrder.f k bt329.1 bt329.2).bind fun bt335 => ((spec_MoveOrder.f k bt329.1 bt329.2).bind fun bt337 => (if (bt335.2 != bt337.2) = true then (laws_FnMoveOrder.j0 k bt329.2 bt335.1 bt335.2 bt337.1 bt337.2 true) else (if bt335.1 = bt337.1 then (laws_FnMoveOrder.j0 k bt329.2 bt335.1 bt335.2 bt337.1 bt337.2 (!bt335.2)) else (laws_FnMoveOrder.j0 k bt329.2 bt335.1 bt335.2 bt337.1 bt337.2 true))))))) = some r := h
 clear h
 by_cases c2 : (l0.length : Int) > 1048576
 ·rw [if_pos c2] at H
  have c2b0 : decide (1048576 < (l0.length : Int)) = true := decide_eq_true c2
  have c2b1 : decide (1048576 < l0.length) = true := decide_eq_true (by omega)
  clear c2
  obtain rfl := Option.some.inj H
  go_enter Try.func3, Try.ntmps3
  go_wp2
  go_ret
  exact ⟨ee_, bb_ HB⟩
 ·rw [if_neg c2] at H
  have c2b0 : decide (1048576 < (l0.length : Int)) = false := decide_eq_false c2
  have c2b1 : decide (1048576 < l0.length) = false := decide_eq_false (by omega)
  clear c2
  replace H := Option.bind_eq_some_iff.mp H
  obtain ⟨⟨t329, t330⟩, A30, H⟩ := H
  replace H : ((impl_MoveOrder.f k t329 t330).bind fun bt335 => ((spec_MoveOrder.f k t329 t330).bind fun bt337 => (if (bt335.2 != bt337.2) = true then (laws_FnMoveOrder.j0 k t330 bt335.1 bt335.2 bt337.1 bt337.2 true) else (if bt335.1 = bt337.1 then (laws_FnMoveOrder.j0 k t330 bt335.1 bt335.2 bt337.1 bt337.2 (!bt335.2)) else (laws_FnMoveOrder.j0 k t330 bt335.1 bt335.2 bt337.1 bt337.2 true))))) = some r := H
  have A3 := Aside0.mk A30
  clear A30
  replace H := Option.bind_eq_some_iff.mp H
  obtain ⟨⟨t335, t336⟩, A40, H⟩ := H
  replace H : ((spec_MoveOrder.f k t329 t330).bind fun bt337 => (if (t336 != bt337.2) = true then (laws_FnMoveOrder.j0 k t330 t335 t336 bt337.1 bt337.2 true) else (if t335 = bt337.1 then (laws_FnMoveOrder.j0 k t330 t335 t336 bt337.1 bt337.2 (!t336)) else (laws_FnMoveOrder.j0 k t330 t335 t336 bt337.1 bt337.2 true)))) = some r := H
  have A4 := Aside0.mk A40
  clear A40
  replace H := Option.bind_eq_some_iff.mp H
  obtain ⟨⟨t337, t338⟩, A50, H⟩ := H
  replace H : (if (t336 != t338) = true then (laws_FnMoveOrder.j0 k t330 t335 t336 t337 t338 true) else (if t335 = t337 then (laws_FnMoveOrder.j0 k t330 t335 t336 t337 t338 (!t336)) else (laws_FnMoveOrder.j0 k t330 t335 t336 t337 t338 true))) = some r := H
  have A5 := Aside0.mk A50
  clear A50
  have HC6 := Aside0.mk H
  clear H
  go_enter Try.func3, Try.ntmps3
  go_upto_region 6 with (first | (refine goesL_ (some 17) rfl rfl Try.func11 (by kernel_rfl) rfl #[.slice A0 l0.length c0] rfl ll_ ?_; (with_reducible refine (spec_DrawMoveOrder.calls k _ _ l0 t329 t330 _ ?side1 ?side2 A3.out).mono ?_); (case side1 => exact ss_ HR0); (case side2 => exact HC0.out); rintro e w7 ⟨v331, v333, rfl, ho0, ho1, hb⟩; refine ⟨_, rfl, ?_⟩; have n0_ := Aside0.mk (Kd.R_lower ho0 (below_size (bb_ HB))); have n1_ := Aside0.mk (Kd.R_lower ho1 (below_size (bb_ HB))); have n2_ := Aside0.mk (below_step (bb_ HB) hb); clear HB; have HO332 := n0_; have HO334 := n1_; have HB := n2_; clear n0_ n1_ n2_; (try clear hb); (try clear hb2); (try clear hk); (try clear hi); (try clear ho0); (try clear ho1); obtain ⟨Ao8, co8, eo8⟩ := Kd.R_slice HO332.out; subst eo8; obtain ⟨Ao9, co9, eo9⟩ := Kd.R_slice HO334.out; subst eo9) | (refine goesL_ (some 23) rfl rfl Try.func12 (by kernel_rfl) rfl #[.slice Ao8 t329.length co8, .slice Ao9 t330.length co9] rfl ll_ ?_; (with_reducible refine (impl_MoveOrder.calls k _ _ t329 (fun k_ => some k_ = (.slice Ao9 t330.length co9 : Value).ownBlock) _ _ t330 t335 t336 _ ?side1 ?side2 ?side3 A4.out).mono ?_); (case side1 => exact cc_ HO332); (case side2 => exact (Kd.R_reads' HO332.out).2.1); (case side3 => exact Kd.R_V (Kd.R_tight rfl (HO334.out))); rintro e w10 ⟨rfl, hb⟩; refine ⟨_, rfl, ?_⟩; have n0_ := Aside0.mk (Kd.R_below (rr_ HO332) hb); have n1_ := Aside0.mk (Kd.R_below (rr_ HO334) hb); have n2_ := Aside0.mk (below_step (bb_ HB) hb); clear HO332; clear HO334; clear HB; have HO332 := n0_; have HO334 := n1_; have HB := n2_; clear n0_ n1_ n2_; (try clear hb); (try clear hb2); (try clear hk); (try clear hi)) | (refine goesL_ (some 29) rfl rfl Try.func13 (by kernel_rfl) rfl #[.slice Ao8 t329.length co8, .slice Ao9 t330.length co9] rfl ll_ ?_; (with_reducible refine (spec_MoveOrder.calls k _ _ t329 _ _ t330 t337 t338 _ ?side1 ?side2 ?side3 ?side4 A5.out).mono ?_); (case side1 => exact cc_ HO332); (case side2 => exact (Kd.R_reads' HO332.out).2.1); (case side3 => exact cc_ HO334); (case side4 => exact (Kd.R_reads' HO334.out).2.1); rintro e w11 ⟨rfl, hb⟩; refine ⟨_, rfl, ?_⟩; have n0_ := Aside0.mk (Kd.R_below (rr_ HO332) hb); have n1_ := Aside0.mk (Kd.R_below (rr_ HO334) hb); have n2_ := Aside0.mk (below_step (bb_ HB) hb); clear HO332; clear HO334; clear HB; have HO332 := n0_; have HO334 := n1_; have HB := n2_; clear n0_ n1_ n2_; (try clear hb); (try clear hb2); (try clear hk); (try clear hi)))
  (try simp only [Act.put, List.setIfInBounds_toArray, List.set_cons_zero, List.set_cons_succ])
  go_cut [43] (fun v43 wc => ∃ (kq : Nat) (x43_5 : Bool), v43 = .bool x43_5 ∧ Aside0 (laws_FnMoveOrder.j0 kq t330 t335 t336 t337 t338 x43_5 = some r) ∧ Aside0 (kq ≤ k) ∧ Aside0 (Kd.R (Kd.int .i64) 3 wc w.heap.size (fun _ => True) (.slice Ao9 t330.length co9) t330) ∧ Aside0 (Below w.heap.size w wc))
  case first =>
   have H := HC6.out
   clear HC6
   by_cases c12 : (t336 != t338) = true
   ·rw [if_pos c12] at H
    have c12b0 : (t336 != t338) = true := c12
    (try (have c12b1 : decide (t336 = t338) = false := by simpa using c12))
    (try (have c12b2 : (t336 == t338) = false := by simpa using c12))
    (try (have c12b3 : ¬ (t336 = t338) := by simpa using c12))
    clear c12
    (first | rw [c12b0] | (simp only [i64_w, i32_w]; rw [c12b0]) | skip)
    have H' := Aside0.mk H
    clear H
    go_wp2
    go_meet
    case rel => exact ⟨_, (true), (by first | rfl | (simp; done) | (simp [*]; done)), H', ⟨by first | omega | exact Nat.le_refl _⟩, ⟨by (with_reducible repeat (first | apply Kd.R_alloc | apply Kd.R_drewN | apply Kd.R_drew)); exact Kd.R_mono HO334.out (fun _ hk => trivial)⟩, ⟨by repeat (first | (with_reducible first | exact HB.out | apply below_alloc | apply pw_below_drewN | apply below_drew1) | exact HB.out)⟩⟩
   ·rw [if_neg c12] at H
    have c12b0 : (t336 != t338) = false := by simpa using c12
    (try (have c12b1 : decide (t336 = t338) = true := by simpa using c12))
    (try (have c12b2 : (t336 == t338) = true := by simpa using c12))
    clear c12
    (first | rw [c12b0] | (simp only [i64_w, i32_w]; rw [c12b0]) | skip)
    by_cases c13 : t335 = t337
    ·rw [if_pos c13] at H
     have c13b0 : (t335 == t337) = true := beq_iff_eq.mpr c13
     have c13b1 : (t335 != t337) = false := bne_eq_false_iff_eq.mpr c13
     clear c13
     have H' := Aside0.mk H
     clear H
     go_wp2
     go_meet
     case rel => exact ⟨_, (!t336), (by first | rfl | (simp; done) | (simp [*]; done)), H', ⟨by first | omega | exact Nat.le_refl _⟩, ⟨by (with_reducible repeat (first | apply Kd.R_alloc | apply Kd.R_drewN | apply Kd.R_drew)); exact Kd.R_mono HO334.out (fun _ hk => trivial)⟩, ⟨by repeat (first | (with_reducible first | exact HB.out | apply below_alloc | apply pw_below_drewN | apply below_drew1) | exact HB.out)⟩⟩
    ·rw [if_neg c13] at H
     have c13b0 : (t335 == t337) = false := beq_eq_false_iff_ne.mpr c13
     have c13b1 : (t335 != t337) = true := bne_iff_ne.mpr c13
     have H' := Aside0.mk H
     clear H
     go_wp2
     go_meet
     case rel => exact ⟨_, (true), (by first | rfl | (simp; done) | (simp [*]; done)), H', ⟨by first | omega | exact Nat.le_refl _⟩, ⟨by (with_reducible repeat (first | apply Kd.R_alloc | apply Kd.R_drewN | apply Kd.R_drew)); exact Kd.R_mono HO334.out (fun _ hk => trivial)⟩, ⟨by repeat (first | (with_reducible first | exact HB.out | apply below_alloc | apply pw_below_drewN | apply below_drew1) | exact HB.out)⟩⟩
  case rest =>
   clear HC6
   try clear c1
   try clear c2
   try clear c2b0
   try clear c2b1
   try clear p2
   try clear c3
   try clear c11
   try clear c12
   try clear c12b0
   try clear c12b1
   try clear c12b2
   try clear c13
   try clear c13b0
   try clear c13b1
   obtain ⟨kq, x43_5, rfl, HA, HJ5, HO_4, HB⟩ := hcut
   cases kq with
   | zero => exact absurd HA.out (by simp [laws_FnMoveOrder.j0])
   | succ kj5 =>
    have H := HA.out
    clear HA
    simp only [laws_FnMoveOrder.j0] at H
    by_cases c14 : x43_5 = true
    ·subst c14
     have H1 : (if (t336 == t338) = true then (some (t335 == t337)) else (some false)) = some r := by rw [if_pos rfl] at H; exact H
     clear H
     have H := H1
     clear H1
     by_cases c15 : (t336 == t338) = true
     ·rw [if_pos c15] at H
      have c15b0 : (t336 == t338) = true := c15
      (try (have c15b1 : decide (t336 = t338) = true := by simpa using c15))
      (try (have c15b2 : (t336 == t338) = true := by simpa using c15))
      clear c15
      obtain rfl := Option.some.inj H
      go_wp2
      go_ret
      exact ⟨ee_, bb_ HB⟩
     ·rw [if_neg c15] at H
      have c15b0 : (t336 == t338) = false := by simpa using c15
      (try (have c15b1 : decide (t336 = t338) = false := by simpa using c15))
      (try (have c15b2 : (t336 == t338) = false := by simpa using c15))
      (try (have c15b3 : ¬ (t336 = t338) := by simpa using c15))
      clear c15
      obtain rfl := Option.some.inj H
      go_wp2
      go_ret
      exact ⟨ee_, bb_ HB⟩
    ·replace c14 := Bool.eq_false_iff.mpr c14
     subst c14
     have H1 : (laws_FnMoveOrder.l0 kj5 t330 t335 0) = some r := by rw [if_neg (show ¬ (false = true) by decide)] at H; exact H
     clear H
     have H := H1
     clear H1
     have H' := Aside0.mk H
     clear H
     go_wp2
     go_loopg [9] kj5 (fun kq v9 w' => ∃ (x9_2 : Int), v9 = .int .i64 x9_2 ∧ Aside0 (laws_FnMoveOrder.l0 kq t330 t335 x9_2 = some r) ∧ Aside0 (kq ≤ kj5) ∧ Aside0 (Kd.R (Kd.int .i64) 3 w' w.heap.size (fun _ => True) (.slice Ao9 t330.length co9) t330) ∧ Aside0 (Below w.heap.size w w'))
     case atStart => exact ⟨(0), (by first | rfl | (simp; done) | (simp [*]; done)), H', ⟨Nat.le_refl _⟩, ⟨rr_ HO_4⟩, ⟨by repeat (first | (with_reducible first | exact HB.out | apply below_alloc | apply pw_below_drewN | apply below_drew1) | exact HB.out)⟩⟩
     case round =>
      clear H'
      try clear c1
      try clear c2
      try clear c2b0
      try clear c2b1
      try clear p2
      try clear c3
      try clear c11
      try clear c12
      try clear c12b0
      try clear c12b1
      try clear c12b2
      try clear c13
      try clear c13b0
      try clear c13b1
      try clear c14
      try clear c15
      try clear c15b0
      try clear c15b1
      try clear c15b2
      try clear p2
      obtain ⟨x9_2, rfl, HA, HK2, HO_4, HB⟩ := hrel
      cases gk with
      | zero => exact absurd HA.out (by simp [laws_FnMoveOrder.l0])
      | succ k2 =>
       have H := HA.out
       clear HA
       simp only [laws_FnMoveOrder.l0] at H
       by_cases c16 : x9_2 < 91
       ·rw [if_pos c16] at H
        have c16b0 : decide (x9_2 < 91) = true := decide_eq_true c16
        clear c16
        have H' := Aside0.mk H
        clear H
        go_wp2
        go_loopg [10, 11] k2 (fun kq v10 v11 w' => ∃ (x10_3 : Int) (x11_3 : Int), v10 = .int .i64 x10_3 ∧ v11 = .int .i64 x11_3 ∧ Aside0 (laws_FnMoveOrder.l1 kq t330 t335 x9_2 x10_3 x11_3 = some r) ∧ Aside0 (kq ≤ k2) ∧ Aside0 (Kd.R (Kd.int .i64) 3 w' w.heap.size (fun _ => True) (.slice Ao9 t330.length co9) t330) ∧ Aside0 (Below w.heap.size w w'))
        case atStart => exact ⟨(x9_2), (0), (by first | rfl | (simp; done) | (simp [*]; done)), (by first | rfl | (simp; done) | (simp [*]; done)), H', ⟨Nat.le_refl _⟩, ⟨rr_ HO_4⟩, ⟨by repeat (first | (with_reducible first | exact HB.out | apply below_alloc | apply pw_below_drewN | apply below_drew1) | exact HB.out)⟩⟩
        case round =>
         clear H'
         try clear c1
         try clear c2
         try clear c2b0
         try clear c2b1
         try clear p2
         try clear c3
         try clear c11
         try clear c12
         try clear c12b0
         try clear c12b1
         try clear c12b2
         try clear c13
         try clear c13b0
         try clear c13b1
         try clear c14
         try clear c15
         try clear c15b0
         try clear c15b1
         try clear c15b2
         try clear c16
         try clear c16b0
         try clear p2
         obtain ⟨x10_3, x11_3, rfl, rfl, HA, HK3, HO_4, HB⟩ := hrel
         cases gk with
         | zero => exact absurd HA.out (by simp [laws_FnMoveOrder.l1])
         | succ k3 =>
          have H := HA.out
          clear HA
          simp only [laws_FnMoveOrder.l1] at H
          by_cases c17 : x11_3 < t335
          ·rw [if_pos c17] at H
           have c17b0 : decide (x11_3 < t335) = true := decide_eq_true c17
           clear c17
           by_cases c18 : x11_3 < 1000
           ·rw [if_pos c18] at H
            have c18b0 : decide (x11_3 < 1000) = true := decide_eq_true c18
            clear c18
            by_cases c19 : 0 ≤ x10_3
            ·rw [if_pos c19] at H
             have c19b0 : decide (0 ≤ x10_3) = true := decide_eq_true c19
             clear c19
             by_cases c20 : x10_3 < (t330.length : Int)
             ·rw [if_pos c20] at H
              have c20b0 : decide (x10_3 < (t330.length : Int)) = true := decide_eq_true c20
              clear c20
              have H' := Aside0.mk H
              clear H
              have p339 : 0 ≤ (x10_3 : Int) := dd_
              have q339 : x10_3 < (t330.length : Int) := dd_
              obtain ⟨ad339, e339, hx339_0⟩ := Kd.at_int (Kd.R_reads' HO_4.out).2.2 x10_3 p339 q339
              cases e339
              replace p339 := eq_true p339
              replace q339 := eq_true q339
              go_wp2
              go_roundg k3
              case measure => have := HJ5.out; have := HK2.out; have := HK3.out; omega
              case rel => exact ⟨(rd t330 x10_3), (wrap64 (x11_3 + 1)), (by first | rfl | (simp; done) | (simp [*]; done)), (by first | rfl | (simp; done) | (simp [*]; done)), H', ⟨by have := HJ5.out; have := HK2.out; have := HK3.out; omega⟩, ⟨rr_ HO_4⟩, ⟨by repeat (first | (with_reducible first | exact HB.out | apply below_alloc | apply pw_below_drewN | apply below_drew1) | exact HB.out)⟩⟩
             ·rw [if_neg c20] at H
              exact absurd H (by simp)
            ·rw [if_neg c19] at H
             exact absurd H (by simp)
           ·rw [if_neg c18] at H
            have c18b0 : decide (x11_3 < 1000) = false := decide_eq_false c18
            clear c18
            by_cases c21 : x10_3 = x9_2
            ·rw [if_pos c21] at H
             have c21b0 : (x10_3 == x9_2) = true := beq_iff_eq.mpr c21
             have c21b1 : (x10_3 != x9_2) = false := bne_eq_false_iff_eq.mpr c21
             clear c21
             have H' := Aside0.mk H
             clear H
             go_wp2
             go_roundg k3
             case measure => have := HJ5.out; have := HK2.out; have := HK3.out; omega
             case rel => exact ⟨(wrap64 (x9_2 + 1)), (by first | rfl | (simp; done) | (simp [*]; done)), H', ⟨by have := HJ5.out; have := HK2.out; have := HK3.out; omega⟩, ⟨rr_ HO_4⟩, ⟨by repeat (first | (with_reducible first | exact HB.out | apply below_alloc | apply pw_below_drewN | apply below_drew1) | exact HB.out)⟩⟩
            ·rw [if_neg c21] at H
             have c21b0 : (x10_3 == x9_2) = false := beq_eq_false_iff_ne.mpr c21
             have c21b1 : (x10_3 != x9_2) = true := bne_iff_ne.mpr c21
             by_cases c22 : t335 ≤ 1000
             ·rw [if_pos c22] at H
              have c22b0 : decide (t335 ≤ 1000) = true := decide_eq_true c22
              clear c22
              obtain rfl := Option.some.inj H
              go_wp2
              go_ret
              exact ⟨ee_, bb_ HB⟩
             ·rw [if_neg c22] at H
              have c22b0 : decide (t335 ≤ 1000) = false := decide_eq_false c22
              clear c22
              have H' := Aside0.mk H
              clear H
              go_wp2
              go_roundg k3
              case measure => have := HJ5.out; have := HK2.out; have := HK3.out; omega
              case rel => exact ⟨(wrap64 (x9_2 + 1)), (by first | rfl | (simp; done) | (simp [*]; done)), H', ⟨by have := HJ5.out; have := HK2.out; have := HK3.out; omega⟩, ⟨rr_ HO_4⟩, ⟨by repeat (first | (with_reducible first | exact HB.out | apply below_alloc | apply pw_below_drewN | apply below_drew1) | exact HB.out)⟩⟩
          ·rw [if_neg c17] at H
           have c17b0 : decide (x11_3 < t335) = false := decide_eq_false c17
           clear c17
           by_cases c23 : x10_3 = x9_2
           ·rw [if_pos c23] at H
            have c23b0 : (x10_3 == x9_2) = true := beq_iff_eq.mpr c23
            have c23b1 : (x10_3 != x9_2) = false := bne_eq_false_iff_eq.mpr c23
            clear c23
            have H' := Aside0.mk H
            clear H
            go_wp2
            go_roundg k3
            case measure => have := HJ5.out; have := HK2.out; have := HK3.out; omega
            case rel => exact ⟨(wrap64 (x9_2 + 1)), (by first | rfl | (simp; done) | (simp [*]; done)), H', ⟨by have := HJ5.out; have := HK2.out; have := HK3.out; omega⟩, ⟨rr_ HO_4⟩, ⟨by repeat (first | (with_reducible first | exact HB.out | apply below_alloc | apply pw_below_drewN | apply below_drew1) | exact HB.out)⟩⟩
           ·rw [if_neg c23] at H
            have c23b0 : (x10_3 == x9_2) = false := beq_eq_false_iff_ne.mpr c23
            have c23b1 : (x10_3 != x9_2) = true := bne_iff_ne.mpr c23
            by_cases c24 : t335 ≤ 1000
            ·rw [if_pos c24] at H
             have c24b0 : decide (t335 ≤ 1000) = true := decide_eq_true c24
             clear c24
             obtain rfl := Option.some.inj H
             go_wp2
             go_ret
             exact ⟨ee_, bb_ HB⟩
            ·rw [if_neg c24] at H
             have c24b0 : decide (t335 ≤ 1000) = false := decide_eq_false c24
             clear c24
             have H' := Aside0.mk H
             clear H
             go_wp2
             go_roundg k3
             case measure => have := HJ5.out; have := HK2.out; have := HK3.out; omega
             case rel => exact ⟨(wrap64 (x9_2 + 1)), (by first | rfl | (simp; done) | (simp [*]; done)), H', ⟨by have := HJ5.out; have := HK2.out; have := HK3.out; omega⟩, ⟨rr_ HO_4⟩, ⟨by repeat (first | (with_reducible first | exact HB.out | apply below_alloc | apply pw_below_drewN | apply below_drew1) | exact HB.out)⟩⟩
       ·rw [if_neg c16] at H
        have c16b0 : decide (x9_2 < 91) = false := decide_eq_false c16
        clear c16
        obtain rfl := Option.some.inj H
        go_wp2
        go_ret
        exact ⟨ee_, bb_ HB⟩
def laws_FnMoveOrder.Pure : Prop := ∀ (l0 : List Int), l0.length ≤ maxLen → l0.length * 1 ≤ 140737488351232 → (∀ x ∈ l0, (Lit.int .u8 x).wf = true) → ∃ k, laws_FnMoveOrder.f k l0 = some true
theorem laws_FnMoveOrder.walk (P : laws_FnMoveOrder.Pure) (a0 : Option Addr) (len0 cap0 : Nat) (z0 : List Int) (w : World) (w0 : (a0 = none ∧ len0 = 0 ∧ cap0 = 0 ∧ z0 = []) ∨ ∃ x, a0 = some x ∧ len0 ≤ cap0 ∧ cap0 ≤ maxLen ∧ z0.length = cap0 ∧ (∀ i, i < z0.length → w.cell? (x.add i) = some (.int .u8 (z0.getD i 0))) ∧ ∀ n ∈ z0, (Lit.int .u8 n).wf = true) (y0 : len0 * 1 ≤ 140737488351232) :
  Calls Try.prog 3 #[.slice a0 len0 cap0] w fun e w' => e = .returned (.bool true) ∧ Below w.heap.size w w' := by
 obtain ⟨l0, rfl, hr0, hm0, hw0, hc0⟩ := ReadsInt.ofRowC w0
 obtain ⟨k, h⟩ := P l0 hm0 y0 hw0
 refine (laws_FnMoveOrder.calls k _ _ l0 true w (Kd.C_of_reads (d := (0 : Int)) (h1 := fun _ => rfl) hr0) hc0 h).mono ?_
 rintro e w' ⟨rfl, hd⟩
 exact ⟨rfl, hd⟩
end Go.Proofs.Ytbfafjejmljcpaa.P

set_option linter.unusedVariables false
set_option linter.unusedSimpArgs false
namespace Go.Proofs.Ytbfafjejmljcpaa.X
open Go.RowKit Go.Proofs.YtbfafjejmljcpaaW.PrintWords Go.Proofs.YtbfafjejmljcpaaW.PrintLast Go.Proofs.Ytbfafjejmljcpaa.P

theorem l6In_eq (a b c : Int) : spec_l6In.f a b c = some (decide (b ≤ a) && decide (a ≤ c)) := by
  unfold spec_l6In.f
  by_cases h : a ≥ b
  · rw [if_pos h, decide_eq_true h]; simp
  · rw [if_neg h, decide_eq_false h]; simp
theorem l1In_eq (a : Int) : spec_l1In.f a = some (isN a) := by
  unfold spec_l1In.f isN
  rw [l6In_eq]
  show some _ = _
  rw [show decide (a ≤ 8) = decide (a < 9) from decide_eq_decide.2 (by omega)]
theorem l2Table_loop (l : List Int) (hl : l.length ≤ 1048576) (d : Nat) : ∀ (i : Int), 0 ≤ i → i + d = l.length → (∀ j : Nat, (j : Int) < i → isN (rd l j) = true) → Ev (fun k => spec_l2Table.l0 k l i) (ninesB l 81) := by
  induction d with
  | zero =>
    intro i h0 h1 h
    refine Ev.step (fun k => by rw [spec_l2Table.l0]) ?_
    refine Ev.neg (by omega) (Ev.done ?_)
    have ha : l.all isN = true := by
      rw [List.all_eq_true]
      intro x hx
      obtain ⟨j, hj, rfl⟩ := List.mem_iff_getElem.1 hx
      rw [← rd_cast l j hj]
      exact h j (by omega)
    unfold ninesB
    rw [ha, Bool.and_true]
    congr 1
    rw [Bool.eq_iff_iff]; simp; omega
  | succ d ih =>
    intro i h0 h1 h
    refine Ev.step (fun k => by rw [spec_l2Table.l0]) ?_
    simp (disch := omega) only [w64, l1In_eq, Option.bind_some]
    refine Ev.pos (by omega) (Ev.pos (by omega) ?_)
    by_cases e : isN (rd l i) = true
    · refine Ev.pos e (ih (i + 1) (by omega) (by omega) fun j hj => ?_)
      by_cases ej : (j : Int) = i
      · rw [ej]; exact e
      · exact h j (by omega)
    · refine Ev.neg e (Ev.done ?_)
      have : l.all isN = false := by
        rw [List.all_eq_false]
        exact ⟨rd l i, rd_mem (by omega) h0, e⟩
      unfold ninesB
      rw [this, Bool.and_false]
theorem l2Table_ev (l : List Int) (hl : l.length ≤ 1048576) : Ev (fun k => spec_l2Table.f k l) (ninesB l 81) :=
  l2Table_loop l hl l.length 0 (by omega) (by omega) (fun j h => by omega)
theorem l2Units_loop (t : List Int) (hl : t.length = 81) (d : Nat) : ∀ (i : Int), 0 ≤ i → i + d = 9 → (∀ x : Int, 0 ≤ x → x < i → unitB t x = true) → Ev (fun k => spec_l2Units.l0 k t i) (unitsB t) := by
  induction d with
  | zero =>
    intro i h0 h1 h
    refine Ev.step (fun k => by rw [spec_l2Units.l0]) ?_
    refine Ev.neg (by omega) (Ev.done ?_)
    rw [unitsB_iff.2 fun x x0 x1 => h x x0 (by omega)]
  | succ d ih =>
    intro i h0 h1 h
    have hu : unitB t i = (decide (rd t i = 0) && decide (rd t (9 * i) = 0) && decide (rd t (9 + i) = i) && decide (rd t (9 * i + 1) = i)) := rfl
    refine Ev.step (fun k => by rw [spec_l2Units.l0]) ?_
    have z1 : wrap64 (9 * i) = 9 * i := w64 (by omega) (by omega)
    have z2 : wrap64 (9 + i) = 9 + i := w64 (by omega) (by omega)
    have z3 : wrap64 (9 * i + 1) = 9 * i + 1 := w64 (by omega) (by omega)
    have z4 : wrap64 (i + 1) = i + 1 := w64 (by omega) (by omega)
    simp only [z1, z2, z3, z4]
    refine Ev.pos (by omega) (Ev.pos (by omega) (Ev.pos (by omega) ?_))
    by_cases e1 : rd t i = 0
    case neg => exact Ev.neg e1 (Ev.done (by rw [unitsB_hit h0 (by omega) (by rw [hu, decide_eq_false e1]; rfl)]))
    refine Ev.pos e1 (Ev.pos (by omega) (Ev.pos (by omega) ?_))
    by_cases e2 : rd t (9 * i) = 0
    case neg => exact Ev.neg e2 (Ev.done (by rw [unitsB_hit h0 (by omega) (by rw [hu, decide_eq_false e2, Bool.and_false]; rfl)]))
    refine Ev.pos e2 (Ev.pos (by omega) (Ev.pos (by omega) ?_))
    by_cases e3 : rd t (9 + i) = i
    case neg => exact Ev.neg e3 (Ev.done (by rw [unitsB_hit h0 (by omega) (by rw [hu, decide_eq_false e3, Bool.and_false]; rfl)]))
    refine Ev.pos e3 (Ev.pos (by omega) (Ev.pos (by omega) ?_))
    by_cases e4 : rd t (9 * i + 1) = i
    case neg => exact Ev.neg e4 (Ev.done (by rw [unitsB_hit h0 (by omega) (by rw [hu, decide_eq_false e4, Bool.and_false])]))
    refine Ev.pos e4 (ih (i + 1) (by omega) (by omega) fun x x0 x1 => ?_)
    by_cases e : x = i
    · rw [e, hu, decide_eq_true e1, decide_eq_true e2, decide_eq_true e3, decide_eq_true e4]; rfl
    · exact h x x0 (by omega)
theorem l2Units_ev (t : List Int) (hl : t.length = 81) : Ev (fun k => spec_l2Units.f k t) (unitsB t) :=
  l2Units_loop t hl 9 0 (by omega) (by omega) (fun x h0 h1 => by omega)
theorem SystemIn_l1 (t : List Int) (hn : ninesB t 81 = true) (c : Int) (hc : In9 c) (hr : (∀ d : Int, 0 ≤ d → d < c → gapsB t c d = true) → Ev (fun k => spec_SystemIn.l0 k t (c + 1)) (solvesB t)) (n : Nat) :
    ∀ (d : Int), 0 ≤ d → d + n = c → (∀ x : Int, 0 ≤ x → x < d → gapsB t c x = true) → Ev (fun k => spec_SystemIn.l1 k t c d) (solvesB t) := by
  obtain ⟨c0, c1⟩ := hc
  induction n with
  | zero =>
    intro d h0 h1 h
    refine Ev.step (fun k => by rw [spec_SystemIn.l1]) ?_
    simp (disch := omega) only [w64]
    exact Ev.neg (by omega) (hr fun x x0 x1 => h x x0 (by omega))
  | succ n ih =>
    intro d h0 h1 h
    refine Ev.step (fun k => by rw [spec_SystemIn.l1]) ?_
    have hs : spec_l2Solves.f t c d = some (gapsB t c d) := by unfold spec_l2Solves.f; exact if_pos ⟨hn, ⟨c0, c1⟩, ⟨h0, by omega⟩⟩
    simp (disch := omega) only [w64, hs, Option.bind_some]
    refine Ev.pos (by omega) ?_
    by_cases e : gapsB t c d = true
    · refine Ev.pos e (ih (d + 1) (by omega) (by omega) fun x x0 x1 => ?_)
      by_cases ex : x = d
      · rw [ex]; exact e
      · exact h x x0 (by omega)
    · refine Ev.neg e (Ev.done ?_)
      rw [solvesB_hit h0 (by omega) c1 (Bool.eq_false_iff.2 e)]
theorem SystemIn_l0 (t : List Int) (hn : ninesB t 81 = true) (n : Nat) : ∀ (c : Int), 0 ≤ c → c + n = 9 → (∀ x y : Int, 0 ≤ y → y < x → x < c → gapsB t x y = true) → Ev (fun k => spec_SystemIn.l0 k t c) (solvesB t) := by
  induction n with
  | zero =>
    intro c h0 h1 h
    refine Ev.step (fun k => by rw [spec_SystemIn.l0]) ?_
    refine Ev.neg (by omega) (Ev.done ?_)
    rw [solvesB_all fun x y y0 yx x9 => h x y y0 yx (by omega)]
  | succ n ih =>
    intro c h0 h1 h
    refine Ev.step (fun k => by rw [spec_SystemIn.l0]) ?_
    refine Ev.pos (by omega) ?_
    refine SystemIn_l1 t hn c ⟨h0, by omega⟩ (fun hg => ih (c + 1) (by omega) (by omega) fun x y y0 yx x1 => ?_) c.toNat 0 (by omega) (by omega) (fun x x0 x1 => by omega)
    by_cases e : x = c
    · subst e; exact hg y y0 yx
    · exact h x y y0 yx (by omega)
theorem SystemIn_ev (t : List Int) (hl : t.length ≤ 1048576) : Ev (fun k => spec_SystemIn.f k t) (sysB t) := by
  unfold spec_SystemIn.f
  refine Ev.bind (l2Table_ev t hl) ?_
  by_cases hn : ninesB t 81 = true
  case neg =>
    refine Ev.neg hn (Ev.step (fun k => by rw [spec_SystemIn.j0]) (Ev.pos rfl (Ev.done ?_)))
    unfold sysB; rw [Bool.eq_false_iff.2 hn]; rfl
  refine Ev.pos hn (Ev.bind (l2Units_ev t (ninesB_iff.1 hn).1) ?_)
  by_cases hu : unitsB t = true
  case neg =>
    refine Ev.neg hu (Ev.step (fun k => by rw [spec_SystemIn.j0]) (Ev.pos rfl (Ev.done ?_)))
    rw [sysB_of hn, Bool.eq_false_iff.2 hu]; rfl
  have hs : spec_l2Shares.f t = some (sharesB t) := by unfold spec_l2Shares.f; exact if_pos hn
  refine Ev.pos hu (Ev.fix hs ?_)
  rw [sysB_of hn, hu]
  by_cases h : sharesB t = true
  · rw [h]
    refine Ev.step (fun k => by rw [spec_SystemIn.j0]) ?_
    refine Ev.neg (by simp) ?_
    exact SystemIn_l0 t hn 9 0 (by omega) (by omega) (fun x y h0 h1 h2 => by omega)
  · rw [Bool.eq_false_iff.2 h]
    refine Ev.step (fun k => by rw [spec_SystemIn.j0]) ?_
    exact Ev.pos rfl (Ev.done rfl)
end Go.Proofs.Ytbfafjejmljcpaa.X

set_option linter.unusedVariables false
set_option linter.unusedSimpArgs false
namespace Go.Proofs.Ytbfafjejmljcpaa.X
open Go.RowKit Go.Proofs.YtbfafjejmljcpaaW.PrintWords Go.Proofs.YtbfafjejmljcpaaW.PrintLast Go.Proofs.Ytbfafjejmljcpaa.P

def RdS (s : List Int) : Prop := s.length ≤ 2000 ∧ ∀ x ∈ s, 0 ≤ x ∧ x ≤ 255
theorem u8_range {x : Int} (h : (Lit.int .u8 x).wf = true) : 0 ≤ x ∧ x ≤ 255 := by
  simp [Lit.wf, IntKind.min, IntKind.max, IntKind.signed, IntKind.bits] at h
  omega
theorem open_ev (l : List Int) (h : ∀ x ∈ l, (Lit.int .u8 x).wf = true) : ∃ s, RdS s ∧ spec_l6Open.f l = some (s, 0) := by
  unfold spec_l6Open.f
  by_cases hl : (l.length : Int) > 2000
  · rw [if_pos hl, if_pos (by omega)]
    exact ⟨_, ⟨by rw [List.length_take]; omega, fun x hx => u8_range (h x (List.mem_of_mem_take hx))⟩, rfl⟩
  · rw [if_neg hl]
    exact ⟨_, ⟨by omega, fun x hx => u8_range (h x hx)⟩, rfl⟩
theorem xor_nn {a b : Int} (h0 : 0 ≤ a) (h1 : a < 9223372036854775808) (h2 : 0 ≤ b) (h3 : b < 9223372036854775808) : 0 ≤ Go.bits .xor .i64 a b := by
  obtain ⟨x, rfl⟩ := Int.eq_ofNat_of_zero_le h0
  obtain ⟨y, rfl⟩ := Int.eq_ofNat_of_zero_le h2
  have hx : x ^^^ y < 2 ^ 63 := Nat.xor_lt_two_pow (by omega) (by omega)
  have e1 : (BitVec.ofInt 64 (x : Int)).toNat = x := by
    rw [BitVec.ofInt_natCast, BitVec.toNat_ofNat]; exact Nat.mod_eq_of_lt (by omega)
  have e2 : (BitVec.ofInt 64 (y : Int)).toNat = y := by
    rw [BitVec.ofInt_natCast, BitVec.toNat_ofNat]; exact Nat.mod_eq_of_lt (by omega)
  have e : Go.bits .xor .i64 (x : Int) (y : Int) = IntKind.i64.wrap ((BitVec.ofInt 64 (x : Int) ^^^ BitVec.ofInt 64 (y : Int)).toNat : Int) := rfl
  rw [e, BitVec.toNat_xor, e1, e2]
  generalize x ^^^ y = z at hx
  simp [IntKind.wrap, IntKind.bits, IntKind.signed]
  omega
theorem tmod_range {a n : Int} (h : 0 ≤ a) (hn : 1 ≤ n) : 0 ≤ Int.tmod a n ∧ Int.tmod a n < n := by
  rw [tmod_nn h]
  exact ⟨Int.emod_nonneg _ (by omega), Int.emod_lt_of_pos _ (by omega)⟩
theorem rd_byte {s : List Int} (hs : RdS s) {i : Int} (h0 : 0 ≤ i) (h1 : i < s.length) : 0 ≤ rd s i ∧ rd s i ≤ 255 := hs.2 _ (rd_mem h1 h0)
theorem pick_j0 (s : List Int) (hs : RdS s) (p : Int) (h0 : 0 ≤ p) (h1 : p ≤ 1099511627776) (n : Int) (n0 : 1 ≤ n) (n1 : n ≤ 1000000) :
    ∃ v, (0 ≤ v ∧ v < n) ∧ Ev (fun k => spec_l6Rd_pick.j0 k n ((s.length : Int) == 0) s (p + 1)) (v, p + 1) := by
  have hl := hs.1
  by_cases e : s.length = 0
  · refine ⟨0, by omega, ?_⟩
    refine Ev.step (fun k => by rw [spec_l6Rd_pick.j0]) ?_
    refine Ev.pos (by rw [e]; rfl) (Ev.done rfl)
  have ez : wrap64 (p + 1 - 1) = p := by rw [w64 (by omega) (by omega)]; omega
  have er : ∀ i : Int, 0 ≤ i → i < s.length → wrap64 (rd s i) = rd s i := fun i i0 i1 => by
    have := rd_byte hs i0 i1; exact w64 (by omega) (by omega)
  by_cases hp : p < s.length
  · obtain ⟨b0, b1⟩ := rd_byte hs h0 hp
    refine ⟨Int.tmod (rd s p) n, tmod_range b0 n0, ?_⟩
    refine Ev.step (fun k => by rw [spec_l6Rd_pick.j0]) ?_
    rw [ez]
    refine Ev.neg (by simp; intro hh; apply e; simp [hh]) (Ev.pos hp (Ev.pos h0 (Ev.neg (by omega) ?_)))
    rw [er p h0 hp]
    exact Ev.done rfl
  · have hL : (1 : Int) ≤ s.length := by omega
    have ha : 0 ≤ p % (s.length : Int) ∧ p % (s.length : Int) < s.length := ⟨Int.emod_nonneg _ (by omega), Int.emod_lt_of_pos _ (by omega)⟩
    have hb : 0 ≤ (p * 7 + 3) % (s.length : Int) ∧ (p * 7 + 3) % (s.length : Int) < s.length := ⟨Int.emod_nonneg _ (by omega), Int.emod_lt_of_pos _ (by omega)⟩
    have hd : 0 ≤ p / (s.length : Int) ∧ p / (s.length : Int) ≤ p := ⟨Int.ediv_nonneg h0 (by omega), Int.ediv_le_self _ h0⟩
    obtain ⟨a0, a1⟩ := rd_byte hs ha.1 ha.2
    obtain ⟨b0, b1⟩ := rd_byte hs hb.1 hb.2
    have ea := er _ ha.1 ha.2
    have eb := er _ hb.1 hb.2
    have e7 : wrap64 (wrap64 (p * 7) + 3) = p * 7 + 3 := by rw [w64 (x := p * 7) (by omega) (by omega), w64 (by omega) (by omega)]
    have em : Int.tmod p (s.length : Int) = p % (s.length : Int) := tmod_nn h0
    have en : Int.tmod (p * 7 + 3) (s.length : Int) = (p * 7 + 3) % (s.length : Int) := tmod_nn (by omega)
    have ed : Int.tdiv p (s.length : Int) = p / (s.length : Int) := tdiv_nn h0
    generalize hA : rd s (p % (s.length : Int)) = A at *
    generalize hB : rd s ((p * 7 + 3) % (s.length : Int)) = B at *
    generalize hD : p / (s.length : Int) = D at *
    have eX : wrap64 (wrap64 (wrap64 (wrap64 (A * 131) + wrap64 (B * 1117)) + wrap64 (p * 29)) + wrap64 (wrap64 D * 53)) = A * 131 + B * 1117 + p * 29 + D * 53 := by
      rw [w64 (x := A * 131) (by omega) (by omega), w64 (x := B * 1117) (by omega) (by omega), w64 (x := A * 131 + B * 1117) (by omega) (by omega), w64 (x := p * 29) (by omega) (by omega), w64 (x := D) (by omega) (by omega), w64 (x := D * 53) (by omega) (by omega), w64 (x := A * 131 + B * 1117 + p * 29) (by omega) (by omega), w64 (by omega) (by omega)]
    have hX0 : 0 ≤ A * 131 + B * 1117 + p * 29 + D * 53 := by omega
    have hX1 : A * 131 + B * 1117 + p * 29 + D * 53 ≤ 9223372036854775807 := by omega
    generalize A * 131 + B * 1117 + p * 29 + D * 53 = X at *
    have eY : wrap64 (Int.tdiv X 64) = X / 64 := by rw [tdiv_nn hX0]; exact w64 (by omega) (by omega)
    refine ⟨Int.tmod (Go.bits .xor .i64 X (X / 64)) n, tmod_range (xor_nn hX0 (by omega) (by omega) (by omega)) n0, ?_⟩
    refine Ev.step (fun k => by rw [spec_l6Rd_pick.j0]) ?_
    rw [ez]
    refine Ev.neg (by simp; intro hh; apply e; simp [hh]) (Ev.neg hp (Ev.neg (by omega) ?_))
    rw [e7, em, en, ed, hA, hB, ea, eb, eX, eY]
    exact Ev.pos ha.1 (Ev.pos ha.2 (Ev.pos hb.1 (Ev.pos hb.2 (Ev.neg (by omega) (Ev.done rfl)))))
theorem pick_ev {s : List Int} (hs : RdS s) {p : Int} (h0 : 0 ≤ p) (h1 : p ≤ 1099511627776) {n : Int} (n0 : 1 ≤ n) (n1 : n ≤ 1000000) :
    ∃ v, (0 ≤ v ∧ v < n) ∧ Ev (fun k => spec_l6Rd_pick.f k s p n) (v, p + 1) := by
  obtain ⟨v, hv, he⟩ := pick_j0 s hs p h0 h1 n n0 n1
  refine ⟨v, hv, ?_⟩
  unfold spec_l6Rd_pick.f
  rw [w64 (by omega) (by omega)]
  exact Ev.neg (by omega) he
def kindL (c : Int) : List Int := (spec_l2Of.f 300 c).getD []
theorem five {P : Int → Prop} (h : ∀ i : Fin 5, P (i.val : Int)) (a : Int) (h0 : 0 ≤ a) (h1 : a < 5) : P a := by
  have := h ⟨a.toNat, by omega⟩
  simpa [Int.toNat_of_nonneg h0] using this
theorem kindL_some : ∀ i : Fin 5, spec_l2Of.f 300 (i.val : Int) = some (kindL (i.val : Int)) := by decide +kernel
theorem kindL_nines : ∀ i : Fin 5, ninesB (kindL (i.val : Int)) 81 = true := by decide +kernel
theorem kind_ev (c : Int) (h0 : 0 ≤ c) (h1 : c < 5) : Ev (fun k => spec_l2Of.f k c) (kindL c) :=
  Ev.of (fun k => spec_l2Of.mono c k) (five (P := fun c => spec_l2Of.f 300 c = some (kindL c)) kindL_some c h0 h1)
theorem kind_nines (c : Int) (h0 : 0 ≤ c) (h1 : c < 5) : ninesB (kindL c) 81 = true := five (P := fun c => ninesB (kindL c) 81 = true) kindL_nines c h0 h1
def DrawnT (t : List Int) : Prop := ∃ c : Int, 0 ≤ c ∧ c < 5 ∧ (t = kindL c ∨ (∃ i v : Int, 0 ≤ i ∧ i < 81 ∧ 0 ≤ v ∧ v < 9 ∧ t = (kindL c).set i.toNat v) ∨ t = (kindL c).take 80)
theorem DrawnT.len {t : List Int} (h : DrawnT t) : t.length ≤ 81 := by
  obtain ⟨c, c0, c1, h⟩ := h
  have hl := (ninesB_iff.1 (kind_nines c c0 c1)).1
  rcases h with rfl | ⟨i, v, _, _, _, _, rfl⟩ | rfl
  · omega
  · rw [List.length_set]; omega
  · rw [List.length_take]; omega
theorem system_ev {s : List Int} (hs : RdS s) {p : Int} (h0 : 0 ≤ p) (h1 : p ≤ 1099511000000) : ∃ t q, DrawnT t ∧ (p ≤ q ∧ q ≤ p + 5) ∧ Ev (fun k => spec_l91System.f k s p) (t, q) := by
  obtain ⟨c, hc, ec⟩ := pick_ev hs h0 (by omega) (n := 5) (by omega) (by omega)
  obtain ⟨a, ha, ea⟩ := pick_ev hs (p := p + 1) (by omega) (by omega) (n := 30) (by omega) (by omega)
  obtain ⟨i, hi, ei⟩ := pick_ev hs (p := p + 1 + 1) (by omega) (by omega) (n := 9) (by omega) (by omega)
  obtain ⟨j, hj, ej⟩ := pick_ev hs (p := p + 1 + 1 + 1) (by omega) (by omega) (n := 9) (by omega) (by omega)
  obtain ⟨v, hv, ev⟩ := pick_ev hs (p := p + 1 + 1 + 1 + 1) (by omega) (by omega) (n := 9) (by omega) (by omega)
  have hl := (ninesB_iff.1 (kind_nines c hc.1 hc.2)).1
  have ew : wrap64 (wrap64 (9 * i) + j) = 9 * i + j := by rw [w64 (x := 9 * i) (by omega) (by omega), w64 (by omega) (by omega)]
  by_cases e : a = 0
  · refine ⟨(kindL c).set (9 * i + j).toNat v, p + 1 + 1 + 1 + 1 + 1, ⟨c, hc.1, hc.2, .inr (.inl ⟨9 * i + j, v, by omega, by omega, hv.1, hv.2, rfl⟩)⟩, by omega, ?_⟩
    unfold spec_l91System.f
    refine Ev.bind ec (Ev.bind (kind_ev c hc.1 hc.2) (Ev.bind ea (Ev.pos e (Ev.bind ei (Ev.bind ej (Ev.bind ev ?_))))))
    dsimp only
    rw [ew]
    exact Ev.pos (by omega) (Ev.pos (by omega) (Ev.done rfl))
  by_cases e1 : a = 1
  · refine ⟨(kindL c).take 80, p + 1 + 1, ⟨c, hc.1, hc.2, .inr (.inr rfl)⟩, by omega, ?_⟩
    unfold spec_l91System.f
    refine Ev.bind ec (Ev.bind (kind_ev c hc.1 hc.2) (Ev.bind ea (Ev.neg e (Ev.pos e1 (Ev.pos ?_ (Ev.done rfl))))))
    omega
  · refine ⟨kindL c, p + 1 + 1, ⟨c, hc.1, hc.2, .inl rfl⟩, by omega, ?_⟩
    unfold spec_l91System.f
    exact Ev.bind ec (Ev.bind (kind_ev c hc.1 hc.2) (Ev.bind ea (Ev.neg e (Ev.neg e1 (Ev.done rfl)))))
end Go.Proofs.Ytbfafjejmljcpaa.X

set_option linter.unusedVariables false
set_option linter.unusedSimpArgs false
namespace Go.Proofs.Ytbfafjejmljcpaa.X
open Go.RowKit Go.Proofs.YtbfafjejmljcpaaW.PrintWords

def moveL (f : Int → Int → Int) : List Int := mapI 91 fun p => if p < 81 then f (p / 9) (p % 9) else p
def shiftF (a b x y : Int) : Int := 9 * addN x a + addN y b
def shiftL (a b : Int) : List Int := moveL (shiftF a b)
def shiftR (t : List Int) (a b : Int) : List Int × Bool := if (sysB t && (isN a && isN b)) = true then (shiftL a b, true) else ([], false)
def kerB (t : List Int) (k a b : Int) : Bool := (rd t (9 * k + rd t (9 * a + b)) == rd t (9 * rd t (9 * k + a) + b)) && (rd t (9 * k + addN a b) == addN (rd t (9 * k + a)) (rd t (9 * k + b)))
def kernelB (t : List Int) (k : Int) : Bool := all3 fun a b _ => kerB t k a b
def kernelL (t : List Int) : List Int := filI 9 (kernelB t)
def stretchF (t : List Int) (k x y : Int) : Int := 9 * rd t (9 * k + x) + rd t (9 * k + y)
def stretchL (t : List Int) (k : Int) : List Int := moveL (stretchF t k)
def stretchOk (t : List Int) (k : Int) : Bool := sysB t && (k != 0 && decide (k ∈ kernelL t))
def stretchR (t : List Int) (k : Int) : List Int × Bool := if stretchOk t k = true then (stretchL t k, true) else ([], false)
theorem kernelL_mem {t : List Int} {k : Int} (h : k ∈ kernelL t) : In9 k := by
  have := mem_filI.1 h
  exact ⟨this.1, this.2.1⟩
end Go.Proofs.Ytbfafjejmljcpaa.X

set_option linter.unusedVariables false
set_option linter.unusedSimpArgs false
namespace Go.Proofs.Ytbfafjejmljcpaa.X
open Go.RowKit Go.Proofs.YtbfafjejmljcpaaW.PrintWords Go.Proofs.YtbfafjejmljcpaaW.PrintLast Go.Proofs.Ytbfafjejmljcpaa.P

theorem l5Far_loop (g : Int → Int) (hg : ∀ p : Int, 81 ≤ p → g p = p) (n : Nat) : ∀ (i : Int), 81 ≤ i → i + n = 91 → Ev (fun k => spec_l5Far.l0 k (mapI i.toNat g) i) (mapI 91 g) := by
  induction n with
  | zero =>
    intro i h0 h1
    refine Ev.step (fun k => by rw [spec_l5Far.l0]) ?_
    refine Ev.neg (by omega) (Ev.done ?_)
    rw [show i.toNat = 91 by omega]
  | succ n ih =>
    intro i h0 h1
    have hlen : (mapI i.toNat g).length = i.toNat := mapI_length _ _
    refine Ev.step (fun k => by rw [spec_l5Far.l0]) ?_
    simp (disch := omega) only [w64]
    refine Ev.pos (by omega) (Ev.pos (by omega) ?_)
    have := ih (i + 1) (by omega) (by omega)
    rw [show (i + 1).toNat = i.toNat + 1 by omega, mapI_succ, Int.toNat_of_nonneg (by omega), hg i h0] at this
    exact this
theorem l5Far_ev (g : Int → Int) (hg : ∀ p : Int, 81 ≤ p → g p = p) : Ev (fun k => spec_l5Far.f k (mapI 81 g)) (mapI 91 g) := l5Far_loop g hg 10 81 (by omega) (by omega)
end Go.Proofs.Ytbfafjejmljcpaa.X

set_option linter.unusedVariables false
set_option linter.unusedSimpArgs false
namespace Go.Proofs.Ytbfafjejmljcpaa.X
open Go.RowKit Go.Proofs.YtbfafjejmljcpaaW.PrintWords Go.Proofs.YtbfafjejmljcpaaW.PrintLast Go.Proofs.Ytbfafjejmljcpaa.P

theorem specShift_l0 (a b : Int) (ha : In9 a) (hb : In9 b) (n : Nat) : ∀ (i : Int), 0 ≤ i → i + n = 81 →
    Ev (fun k => spec_MoveShift.l0 k a b (mapI i.toNat fun p => if p < 81 then shiftF a b (p / 9) (p % 9) else p) i) (shiftL a b, true) := by
  induction n with
  | zero =>
    intro i h0 h1
    refine Ev.step (fun k => by rw [spec_MoveShift.l0]) ?_
    refine Ev.neg (by omega) ?_
    rw [show i.toNat = 81 by omega]
    exact Ev.bind (l5Far_ev _ fun p hp => if_neg (by omega)) (Ev.done rfl)
  | succ n ih =>
    intro i h0 h1
    have hlen := mapI_length i.toNat (fun p => if p < 81 then shiftF a b (p / 9) (p % 9) else p)
    have h1a := spec_l1Add_eq (i / 9) a ⟨by omega, by omega⟩ ha
    have h1b := spec_l1Add_eq (i % 9) b ⟨by omega, by omega⟩ hb
    obtain ⟨r0, r1⟩ := addN_range (i / 9) a
    obtain ⟨s0, s1⟩ := addN_range (i % 9) b
    refine Ev.step (fun k => by rw [spec_MoveShift.l0]) ?_
    simp (disch := omega) only [w64, tdiv_nn, tmod_nn, h1a, h1b, Option.bind_some]
    refine Ev.pos (by omega) (Ev.pos (by omega) ?_)
    have := ih (i + 1) (by omega) (by omega)
    rw [show (i + 1).toNat = i.toNat + 1 by omega, mapI_succ, Int.toNat_of_nonneg (by omega), if_pos (by omega)] at this
    exact this
theorem specShift_ev (t : List Int) (hl : t.length ≤ 1048576) (a b : Int) : Ev (fun k => spec_MoveShift.f k t a b) (shiftR t a b) := by
  unfold spec_MoveShift.f shiftR
  refine Ev.fix rfl (Ev.bind (SystemIn_ev t hl) ?_)
  by_cases hs : sysB t = true
  case neg =>
    rw [Bool.eq_false_iff.2 hs]
    refine Ev.neg (by simp) ?_
    refine Ev.step (fun k => by rw [spec_MoveShift.j0]) ?_
    exact Ev.pos rfl (Ev.done rfl)
  refine Ev.pos hs (Ev.fix (l1In_eq a) ?_)
  rw [hs]
  by_cases ha : isN a = true
  case neg =>
    rw [Bool.eq_false_iff.2 ha]
    refine Ev.neg (by simp) ?_
    refine Ev.step (fun k => by rw [spec_MoveShift.j0]) ?_
    exact Ev.pos rfl (Ev.done rfl)
  refine Ev.pos ha (Ev.fix (l1In_eq b) ?_)
  rw [ha]
  by_cases hb : isN b = true
  case neg =>
    rw [Bool.eq_false_iff.2 hb]
    refine Ev.step (fun k => by rw [spec_MoveShift.j0]) ?_
    exact Ev.pos rfl (Ev.done rfl)
  rw [hb]
  refine Ev.step (fun k => by rw [spec_MoveShift.j0]) ?_
  refine Ev.neg (by simp) ?_
  exact specShift_l0 a b (isN_iff.1 ha) (isN_iff.1 hb) 81 0 (by omega) (by omega)
end Go.Proofs.Ytbfafjejmljcpaa.X

set_option linter.unusedVariables false
set_option linter.unusedSimpArgs false
namespace Go.Proofs.Ytbfafjejmljcpaa.X
open Go.RowKit Go.Proofs.YtbfafjejmljcpaaW.PrintWords Go.Proofs.YtbfafjejmljcpaaW.PrintLast Go.Proofs.Ytbfafjejmljcpaa.P

theorem kernelB_hit {t : List Int} {k a b : Int} (ha : In9 a) (hb : In9 b) (h : kerB t k a b = false) : kernelB t k = false :=
  all3_hit ha hb (⟨by omega, by omega⟩ : In9 0) h
theorem kernelB_all {t : List Int} {k : Int} (h : ∀ a b : Int, In9 a → In9 b → kerB t k a b = true) : kernelB t k = true := all3_iff.2 fun a b _ ha hb _ => h a b ha hb
theorem l2Kernel_l1 {t : List Int} (hn : ninesB t 81 = true) {k : Int} (hk : In9 k) (a : Int) (ha : In9 a) (hr : (∀ b : Int, 0 ≤ b → b < 9 → kerB t k a b = true) → Ev (fun n => spec_l2Kernel.l0 n t k (a + 1)) (kernelB t k)) (d : Nat) :
    ∀ b : Int, 0 ≤ b → b + d = 9 → (∀ y : Int, 0 ≤ y → y < b → kerB t k a y = true) → Ev (fun n => spec_l2Kernel.l1 n t k a b) (kernelB t k) := by
  have hl := (ninesB_iff.1 hn).1
  obtain ⟨a0, a1⟩ := ha
  obtain ⟨k0, k1⟩ := hk
  induction d with
  | zero =>
    intro b h0 h1 h
    refine Ev.step (fun n => by rw [spec_l2Kernel.l1]) ?_
    rw [w64 (x := a + 1) (by omega) (by omega)]
    exact Ev.neg (by omega) (hr fun y y0 y1 => h y y0 (by omega))
  | succ d ih =>
    intro b h0 h1 h
    obtain ⟨p10, p11⟩ := nines_rd hn (i := 9 * a + b) (by omega) (by omega)
    obtain ⟨p30, p31⟩ := nines_rd hn (i := 9 * k + a) (by omega) (by omega)
    obtain ⟨p60, p61⟩ := nines_rd hn (i := 9 * k + b) (by omega) (by omega)
    obtain ⟨s0, s1⟩ := addN_range a b
    have e1 := spec_l1Add_eq a b ⟨a0, a1⟩ ⟨h0, by omega⟩
    have e2 := spec_l1Add_eq (rd t (9 * k + a)) (rd t (9 * k + b)) ⟨p30, p31⟩ ⟨p60, p61⟩
    have hker : kerB t k a b = ((rd t (9 * k + rd t (9 * a + b)) == rd t (9 * rd t (9 * k + a) + b)) && (rd t (9 * k + addN a b) == addN (rd t (9 * k + a)) (rd t (9 * k + b)))) := rfl
    have z1 : wrap64 (wrap64 (9 * a) + b) = 9 * a + b := by rw [w64 (x := 9 * a) (by omega) (by omega)]; exact w64 (by omega) (by omega)
    have z2 : wrap64 (wrap64 (9 * k) + rd t (9 * a + b)) = 9 * k + rd t (9 * a + b) := by rw [w64 (x := 9 * k) (by omega) (by omega)]; exact w64 (by omega) (by omega)
    have z3 : wrap64 (wrap64 (9 * k) + a) = 9 * k + a := by rw [w64 (x := 9 * k) (by omega) (by omega)]; exact w64 (by omega) (by omega)
    have z4 : wrap64 (wrap64 (9 * rd t (9 * k + a)) + b) = 9 * rd t (9 * k + a) + b := by rw [w64 (x := 9 * rd t (9 * k + a)) (by omega) (by omega)]; exact w64 (by omega) (by omega)
    have z5 : wrap64 (wrap64 (9 * k) + addN a b) = 9 * k + addN a b := by rw [w64 (x := 9 * k) (by omega) (by omega)]; exact w64 (by omega) (by omega)
    have z6 : wrap64 (wrap64 (9 * k) + b) = 9 * k + b := by rw [w64 (x := 9 * k) (by omega) (by omega)]; exact w64 (by omega) (by omega)
    have z7 : wrap64 (b + 1) = b + 1 := w64 (by omega) (by omega)
    refine Ev.step (fun n => by rw [spec_l2Kernel.l1]) ?_
    simp only [z1, z2, z3, z4, e1, e2, Option.bind_some, z5, z6, z7]
    refine Ev.pos (by omega) (Ev.pos (by omega) (Ev.pos (by omega) (Ev.pos (by omega) (Ev.pos (by omega) (Ev.pos (by omega) (Ev.pos (by omega) (Ev.pos (by omega) (Ev.pos (by omega) ?_))))))))
    by_cases c1 : rd t (9 * k + rd t (9 * a + b)) = rd t (9 * rd t (9 * k + a) + b)
    case neg =>
      refine Ev.neg c1 (Ev.done ?_)
      rw [kernelB_hit (t := t) (k := k) (a := a) (b := b) ⟨a0, a1⟩ ⟨h0, by omega⟩ (by rw [hker, beq_eq_false_iff_ne.2 c1, Bool.false_and])]
    refine Ev.pos c1 (Ev.pos (by omega) (Ev.pos (by omega) (Ev.pos (by omega) (Ev.pos (by omega) ?_))))
    by_cases c2 : rd t (9 * k + addN a b) = addN (rd t (9 * k + a)) (rd t (9 * k + b))
    case neg =>
      refine Ev.neg c2 (Ev.done ?_)
      rw [kernelB_hit (t := t) (k := k) (a := a) (b := b) ⟨a0, a1⟩ ⟨h0, by omega⟩ (by rw [hker, beq_eq_false_iff_ne.2 c2, Bool.and_false])]
    refine Ev.pos c2 (ih (b + 1) (by omega) (by omega) fun y y0 y1 => ?_)
    by_cases e : y = b
    · rw [e, hker, beq_iff_eq.2 c1, beq_iff_eq.2 c2]; rfl
    · exact h y y0 (by omega)
theorem l2Kernel_l0 {t : List Int} (hn : ninesB t 81 = true) {k : Int} (hk : In9 k) (d : Nat) : ∀ a : Int, 0 ≤ a → a + d = 9 → (∀ x y : Int, 0 ≤ x → x < a → 0 ≤ y → y < 9 → kerB t k x y = true) → Ev (fun n => spec_l2Kernel.l0 n t k a) (kernelB t k) := by
  induction d with
  | zero =>
    intro a h0 h1 h
    refine Ev.step (fun n => by rw [spec_l2Kernel.l0]) ?_
    refine Ev.neg (by omega) (Ev.done ?_)
    rw [kernelB_all fun x y hx hy => h x y hx.1 (by have := hx.2; omega) hy.1 hy.2]
  | succ d ih =>
    intro a h0 h1 h
    refine Ev.step (fun n => by rw [spec_l2Kernel.l0]) ?_
    refine Ev.pos (by omega) (l2Kernel_l1 hn hk a ⟨h0, by omega⟩ (fun hb => ih (a + 1) (by omega) (by omega) fun x y x0 x1 y0 y1 => ?_) 9 0 (by omega) (by omega) (fun y y0 y1 => by omega))
    by_cases e : x = a
    · rw [e]; exact hb y y0 y1
    · exact h x y x0 (by omega) y0 y1
theorem l2Kernel_ev {t : List Int} (hn : ninesB t 81 = true) {k : Int} (hk : In9 k) : Ev (fun n => spec_l2Kernel.f n t k) (kernelB t k) :=
  l2Kernel_l0 hn hk 9 0 (by omega) (by omega) (fun x y x0 x1 => by omega)
theorem specStretch_l0 {t : List Int} (hn : ninesB t 81 = true) {m : Int} (hm : In9 m) (n : Nat) : ∀ (i : Int), 0 ≤ i → i + n = 81 →
    Ev (fun k => spec_MoveStretch.l0 k t m (mapI i.toNat fun p => if p < 81 then stretchF t m (p / 9) (p % 9) else p) i) (stretchL t m, true) := by
  have hl := (ninesB_iff.1 hn).1
  obtain ⟨m0, m1⟩ := hm
  induction n with
  | zero =>
    intro i h0 h1
    refine Ev.step (fun k => by rw [spec_MoveStretch.l0]) ?_
    refine Ev.neg (by omega) ?_
    rw [show i.toNat = 81 by omega]
    exact Ev.bind (l5Far_ev _ fun p hp => if_neg (by omega)) (Ev.done rfl)
  | succ n ih =>
    intro i h0 h1
    have hlen := mapI_length i.toNat (fun p => if p < 81 then stretchF t m (p / 9) (p % 9) else p)
    obtain ⟨q10, q11⟩ := nines_rd hn (i := 9 * m + i / 9) (by omega) (by omega)
    obtain ⟨q20, q21⟩ := nines_rd hn (i := 9 * m + i % 9) (by omega) (by omega)
    have d1 : Int.tdiv i 9 = i / 9 := tdiv_nn h0
    have d2 : Int.tmod i 9 = i % 9 := tmod_nn h0
    have z0 : wrap64 (9 * m) = 9 * m := w64 (by omega) (by omega)
    have z1 : wrap64 (i / 9) = i / 9 := w64 (by omega) (by omega)
    have z2 : wrap64 (9 * m + i / 9) = 9 * m + i / 9 := w64 (by omega) (by omega)
    have z3 : wrap64 (9 * m + i % 9) = 9 * m + i % 9 := w64 (by omega) (by omega)
    have z4 : wrap64 (wrap64 (9 * rd t (9 * m + i / 9)) + rd t (9 * m + i % 9)) = 9 * rd t (9 * m + i / 9) + rd t (9 * m + i % 9) := by rw [w64 (x := 9 * _) (by omega) (by omega)]; exact w64 (by omega) (by omega)
    have z5 : wrap64 (i + 1) = i + 1 := w64 (by omega) (by omega)
    refine Ev.step (fun k => by rw [spec_MoveStretch.l0]) ?_
    simp only [d1, d2, z0, z1, z2, z3, z4, z5]
    refine Ev.pos (by omega) (Ev.pos (by omega) (Ev.pos (by omega) (Ev.pos (by omega) (Ev.pos (by omega) (Ev.pos (by omega) ?_)))))
    have := ih (i + 1) (by omega) (by omega)
    rw [show (i + 1).toNat = i.toNat + 1 by omega, mapI_succ, Int.toNat_of_nonneg (by omega), if_pos (by omega)] at this
    exact this
theorem specStretch_ev (t : List Int) (hl : t.length ≤ 1048576) (m : Int) : Ev (fun k => spec_MoveStretch.f k t m) (stretchR t m) := by
  unfold spec_MoveStretch.f stretchR stretchOk
  refine Ev.fix rfl (Ev.bind (SystemIn_ev t hl) ?_)
  by_cases hs : sysB t = true
  case neg =>
    rw [Bool.eq_false_iff.2 hs]
    refine Ev.neg (by simp) (Ev.step (fun k => by rw [spec_MoveStretch.j0]) ?_)
    exact Ev.pos rfl (Ev.done rfl)
  have hn := (sysB_parts hs).1
  refine Ev.pos hs (Ev.fix (l6In_eq m 1 8) ?_)
  rw [hs]
  by_cases hm : (decide (1 ≤ m) && decide (m ≤ 8)) = true
  case neg =>
    rw [Bool.eq_false_iff.2 hm]
    have : (true && (m != 0 && decide (m ∈ kernelL t))) = false := by
      cases e : (true && (m != 0 && decide (m ∈ kernelL t))) with
      | false => rfl
      | true =>
        simp at e hm
        have := kernelL_mem e.2
        exact absurd (hm (by have := this.1; omega)) (by have := this.2; omega)
    rw [this]
    refine Ev.neg (by simp) (Ev.step (fun k => by rw [spec_MoveStretch.j0]) ?_)
    exact Ev.pos rfl (Ev.done rfl)
  have hm2 : 1 ≤ m ∧ m ≤ 8 := by simpa using hm
  have hmm : In9 m := ⟨by omega, by omega⟩
  have hne : (m != 0) = true := by rw [bne_iff_ne]; omega
  have hk : decide (m ∈ kernelL t) = kernelB t m := by
    cases e : kernelB t m with
    | true => exact decide_eq_true (mem_filI.2 ⟨hmm.1, hmm.2, e⟩)
    | false => exact decide_eq_false fun h => by have := (mem_filI.1 h).2.2; rw [e] at this; exact absurd this (by decide)
  refine Ev.pos hm (Ev.bind (l2Kernel_ev hn hmm) (Ev.step (fun k => by rw [spec_MoveStretch.j0]) ?_))
  rw [hne, hk]
  cases kernelB t m with
  | false => exact Ev.pos (by decide) (Ev.done rfl)
  | true =>
    refine Ev.neg (by decide) ?_
    exact specStretch_l0 hn hmm 81 0 (by omega) (by omega)
end Go.Proofs.Ytbfafjejmljcpaa.X

set_option linter.unusedVariables false
set_option linter.unusedSimpArgs false
namespace Go.Proofs.Ytbfafjejmljcpaa.X
open Go.RowKit Go.Proofs.YtbfafjejmljcpaaW.PrintWords

theorem perm_rd {m : List Int} (hm : permB m = true) {p : Int} (hp : In91 p) : In91 (rd m p) :=
  diffB_pt (permB_diff hm) hp.1 (by have := permB_len hm; have := hp.2; omega)
theorem perm_inj {m : List Int} (hm : permB m = true) {p q : Int} (hp : In91 p) (hq : In91 q) (e : rd m p = rd m q) : p = q :=
  diffB_inj (permB_diff hm) hp.1 (by have := permB_len hm; have := hp.2; omega) hq.1 (by have := permB_len hm; have := hq.2; omega) e
theorem permB_of {m : List Int} (hl : m.length = 91) (h : ∀ p, In91 p → In91 (rd m p)) (hi : ∀ p q, In91 p → In91 q → rd m p = rd m q → p = q) : permB m = true := by
  unfold permB
  rw [decide_eq_true hl, Bool.true_and]
  refine diffB_all fun i i0 i1 => ?_
  have hi91 : In91 i := ⟨i0, by omega⟩
  unfold newB
  rw [ptB_iff.2 (h i hi91), Bool.true_and, Bool.not_eq_true', decide_eq_false_iff_not]
  intro hm
  obtain ⟨j, hj, e⟩ := List.mem_take_iff_getElem.1 hm
  rw [← rd_cast m j (by omega)] at e
  have := hi (j : Int) i ⟨by omega, by omega⟩ hi91 e
  omega
def behL (m n : List Int) : List Int := mapI 91 fun p => rd n (rd m p)
end Go.Proofs.Ytbfafjejmljcpaa.X

set_option linter.unusedVariables false
set_option linter.unusedSimpArgs false
namespace Go.Proofs.Ytbfafjejmljcpaa.X
open Go.RowKit Go.Proofs.YtbfafjejmljcpaaW.PrintWords Go.Proofs.YtbfafjejmljcpaaW.PrintLast Go.Proofs.Ytbfafjejmljcpaa.P

theorem behind_l0 {m n : List Int} (hm : permB m = true) (hn : permB n = true) (d : Nat) : ∀ i : Nat, i + d = 91 → Ev (fun k => impl_behind.l0 k n (mapI i fun p => rd n (rd m p)) m 91 (i : Int)) (behL m n) := by
  have hl := permB_len hm
  have hl2 := permB_len hn
  induction d with
  | zero =>
    intro i h1
    have e : i = 91 := by omega
    subst e
    refine Ev.step (fun k => by rw [impl_behind.l0]) ?_
    exact Ev.neg (by omega) (Ev.done rfl)
  | succ d ih =>
    intro i h1
    obtain ⟨a0, a1⟩ := perm_rd hm (p := (i : Int)) ⟨by omega, by omega⟩
    have nx := ih (i + 1) (by omega)
    rw [mapI_succ] at nx
    have z : wrap64 ((i : Int) + 1) = ((i + 1 : Nat) : Int) := by rw [w64 (by omega) (by omega)]; rfl
    have hlm := mapI_length i fun p => rd n (rd m p)
    refine Ev.step (fun k => by rw [impl_behind.l0]) ?_
    rw [z]
    exact Ev.pos (by omega) (Ev.pos (by omega) (Ev.pos (by omega) (Ev.pos a0 (Ev.pos (by omega) (Ev.pos (by omega) nx)))))
theorem behind_ev {m n : List Int} (hm : permB m = true) (hn : permB n = true) : Ev (fun k => impl_behind.f k m n) (behL m n) := by
  have h := behind_l0 hm hn 91 0 (by omega)
  unfold impl_behind.f
  rw [permB_len hm]
  exact h
end Go.Proofs.Ytbfafjejmljcpaa.X

set_option linter.unusedVariables false
set_option linter.unusedSimpArgs false
namespace Go.Proofs.Ytbfafjejmljcpaa.X
open Go.RowKit Go.Proofs.YtbfafjejmljcpaaW.PrintWords Go.Proofs.YtbfafjejmljcpaaW.PrintLast Go.Proofs.Ytbfafjejmljcpaa.P

theorem l3In_eq (p : Int) : spec_l3In.f p = some (ptB p) := by
  unfold spec_l3In.f ptB
  rw [l6In_eq]
  show some _ = _
  rw [show decide (p ≤ 90) = decide (p < 91) from decide_eq_decide.2 (by omega)]
theorem l3On_eq {t : List Int} (hn : ninesB t 81 = true) {p l : Int} (hp : In91 p) (hl : In91 l) : spec_l3On.f t p l = some (onB t p l) := by
  obtain ⟨p0, p1⟩ := hp
  obtain ⟨l0, l1⟩ := hl
  have hlen := (ninesB_iff.1 hn).1
  unfold spec_l3On.f onB
  by_cases h90 : l = 90
  · rw [if_pos h90, if_pos h90]
  rw [if_neg h90, if_neg h90]
  by_cases h81 : l ≥ 81
  · rw [if_pos h81, if_pos h81]
    by_cases hp90 : p = 90
    · rw [if_pos hp90, decide_eq_true hp90]; rfl
    · rw [if_neg hp90, decide_eq_false hp90, Bool.false_or]
      by_cases hpn : p < 81
      · rw [if_pos hpn, decide_eq_true hpn, Bool.true_and]
        simp (disch := omega) only [w64, tdiv_nn]
        rfl
      · rw [if_neg hpn, decide_eq_false hpn, Bool.false_and]
  · rw [if_neg h81, if_neg h81]
    by_cases hpf : p ≥ 81
    · rw [if_pos hpf, if_pos hpf]
      simp (disch := omega) only [w64, tdiv_nn]
      refine congrArg some ?_
      rw [show decide (p = 81 + l / 9) = decide (p - 81 = l / 9) from decide_eq_decide.2 (by omega)]
      rfl
    · rw [if_neg hpf, if_neg hpf]
      have hr := nines_rd hn (i := 9 * (p / 9) + l / 9) (by omega) (by omega)
      have ha := spec_l1Add_eq (rd t (9 * (p / 9) + l / 9)) (l % 9) hr ⟨by omega, by omega⟩
      simp (disch := omega) only [w64, tdiv_nn, tmod_nn]
      rw [show p / 9 * 9 = 9 * (p / 9) by omega, if_pos (by omega), if_pos (by omega), ha]
      rfl
theorem l3Points_loop {t : List Int} (hn : ninesB t 81 = true) {l : Int} (hl : In91 l) (d : Nat) : ∀ (i : Nat), i + d = 91 → Ev (fun k => spec_l3Points.l0 k t l (filI i fun p => onB t p l) (i : Int)) (pointsL t l) := by
  induction d with
  | zero =>
    intro i h1
    have e : i = 91 := by omega
    subst e
    refine Ev.step (fun k => by rw [spec_l3Points.l0]) ?_
    exact Ev.neg (by omega) (Ev.done rfl)
  | succ d ih =>
    intro i h1
    have hlen := filI_length_le i fun p => onB t p l
    have e1 := l3On_eq hn (p := (i : Int)) ⟨by omega, by omega⟩ hl
    have nx := ih (i + 1) (by omega)
    rw [filI_succ] at nx
    have z : wrap64 ((i : Int) + 1) = ((i + 1 : Nat) : Int) := by rw [w64 (by omega) (by omega)]; rfl
    refine Ev.step (fun k => by rw [spec_l3Points.l0]) ?_
    rw [z]
    refine Ev.pos (by omega) (Ev.fix e1 ?_)
    by_cases a : onB t (i : Int) l = true
    · rw [if_pos a] at nx
      exact Ev.pos a (Ev.pos (by omega) nx)
    · rw [if_neg a, List.append_nil] at nx
      exact Ev.neg a nx
theorem l3Points_ev {t : List Int} (hn : ninesB t 81 = true) {l : Int} (hl : In91 l) : Ev (fun k => spec_l3Points.f k t l) (pointsL t l) :=
  l3Points_loop hn hl 91 0 (by omega)
theorem l3Join_loop {t : List Int} (hn : ninesB t 81 = true) {p q : Int} (hp : In91 p) (hq : In91 q) (hj : ∃ l : Int, 0 ≤ l ∧ l < 91 ∧ onB t p l = true ∧ onB t q l = true) (d : Nat) : ∀ (i : Int), 0 ≤ i → i + d = 91 → (∀ l : Int, 0 ≤ l → l < i → (onB t p l && onB t q l) = false) → Ev (fun k => spec_l3Join.l0 k t p q i) (joinI t p q) := by
  induction d with
  | zero =>
    intro i h0 h1 h
    obtain ⟨l, l0, l1, a, b⟩ := hj
    have := h l l0 (by omega)
    rw [a, b] at this; exact absurd this (by decide)
  | succ d ih =>
    intro i h0 h1 h
    have e1 := l3On_eq hn hp (l := i) ⟨h0, by omega⟩
    have e2 := l3On_eq hn hq (l := i) ⟨h0, by omega⟩
    refine Ev.step (fun k => by rw [spec_l3Join.l0]) ?_
    simp (disch := omega) only [w64, e1, e2, Option.bind_some]
    refine Ev.pos (by omega) ?_
    have next : (onB t p i && onB t q i) = false → Ev (fun k => spec_l3Join.l0 k t p q (i + 1)) (joinI t p q) := fun hb => ih (i + 1) (by omega) (by omega) fun l l0 l1 => by
      by_cases e : l = i
      · rw [e]; exact hb
      · exact h l l0 (by omega)
    by_cases a : onB t p i = true
    · refine Ev.pos a ?_
      by_cases b : onB t q i = true
      · refine Ev.pos b (Ev.done ?_)
        unfold joinI
        rw [firstI_some i h0 (by omega) (by rw [a, b]; rfl) h]
      · exact Ev.neg b (next (by rw [Bool.eq_false_iff.2 b, Bool.and_false]))
    · exact Ev.neg a (next (by rw [Bool.eq_false_iff.2 a, Bool.false_and]))
theorem l3Join_ev {t : List Int} (h : sysB t = true) {p q : Int} (hp : In91 p) (hq : In91 q) (hne : p ≠ q) : Ev (fun k => spec_l3Join.f k t p q) (joinI t p q) :=
  l3Join_loop (sysB_parts h).1 hp hq (join_ex h hp.1 hp.2 hq.1 hq.2 hne) 91 0 (by omega) (by omega) (fun l h0 h1 => by omega)
end Go.Proofs.Ytbfafjejmljcpaa.X

set_option linter.unusedVariables false
set_option linter.unusedSimpArgs false
namespace Go.Proofs.Ytbfafjejmljcpaa.X
open Go.RowKit Go.Proofs.YtbfafjejmljcpaaW.PrintWords Go.Proofs.YtbfafjejmljcpaaW.PrintLast Go.Proofs.Ytbfafjejmljcpaa.P

def bL (n : Nat) (s : Nat → Bool) : List Bool := (List.range n).map s
theorem bL_length (n : Nat) (s : Nat → Bool) : (bL n s).length = n := by simp [bL]
theorem bL_replicate (n : Nat) : List.replicate n false = bL n (fun _ => false) := by
  unfold bL; rw [List.map_const']; simp
theorem bL_rd {n : Nat} {s : Nat → Bool} (v : Int) (h0 : 0 ≤ v) (h1 : v < n) : rdOf false (bL n s) v = s v.toNat := by
  unfold rdOf bL
  rw [List.getD_eq_getElem?_getD, List.getElem?_map, List.getElem?_range (by omega)]
  rfl
theorem bL_set {n : Nat} {s : Nat → Bool} (v : Int) (b : Bool) : (bL n s).set v.toNat b = bL n (fun x => if x = v.toNat then b else s x) := by
  apply List.ext_getElem?
  intro i
  rw [List.getElem?_set]
  by_cases hi : i < n
  · by_cases hj : v.toNat = i
    · subst hj; simp [bL, hi]
    · simp [bL, hi, hj, Ne.symm hj]
  · by_cases hj : v.toNat = i
    · subst hj; simp [bL, hi]
    · simp [bL, hi, hj]
theorem bL_congr {n : Nat} {s s' : Nat → Bool} (h : ∀ j, j < n → s j = s' j) : bL n s = bL n s' := by
  unfold bL
  exact List.map_congr_left fun j hj => h j (List.mem_range.1 hj)
theorem bL_seen {n : Nat} (p : Int → Int) (i : Int) (h0 : 0 ≤ i) (v : Int) (hv0 : 0 ≤ v) (hv : p i = v) : (bL n (seenO p i)).set v.toNat true = bL n (seenO p (i + 1)) := by
  rw [bL_set]
  refine bL_congr fun j hj => ?_
  rw [seenO_succ p i h0 j, hv]
  by_cases e : j = v.toNat
  · subst e; rw [if_pos rfl, decide_eq_true (by omega), Bool.or_true]
  · rw [if_neg e, decide_eq_false (by omega), Bool.or_false]
end Go.Proofs.Ytbfafjejmljcpaa.X

set_option linter.unusedVariables false
set_option linter.unusedSimpArgs false
namespace Go.Proofs.Ytbfafjejmljcpaa.X
open Go.RowKit Go.Proofs.YtbfafjejmljcpaaW.PrintWords Go.Proofs.YtbfafjejmljcpaaW.PrintLast Go.Proofs.Ytbfafjejmljcpaa.P

theorem seen_take {l : List Int} {i : Int} (h0 : 0 ≤ i) (h1 : i ≤ l.length) {v : Int} (hv : 0 ≤ v) : seenO (rd l) i v.toNat = true ↔ v ∈ l.take i.toNat := by
  unfold seenO
  simp only [List.any_eq_true, List.mem_range, decide_eq_true_eq]
  rw [List.mem_take_iff_getElem]
  constructor
  · rintro ⟨z, hz, e⟩
    refine ⟨z, by omega, ?_⟩
    rw [← rd_cast l z (by omega), e]; omega
  · rintro ⟨z, hz, e⟩
    refine ⟨z, by omega, ?_⟩
    rw [rd_cast l z (by omega), e]; omega
theorem l5Perm_loop (m : List Int) (hl : m.length ≤ 1048576) (d : Nat) : ∀ (i : Int), 0 ≤ i → i + d = m.length → (∀ j : Int, 0 ≤ j → j < i → newB m j = true) → Ev (fun k => spec_l5Perm.l0 k m (bL 91 (seenO (rd m) i)) i) (permB m) := by
  induction d with
  | zero =>
    intro i h0 h1 h
    refine Ev.step (fun k => by rw [spec_l5Perm.l0]) ?_
    refine Ev.neg (by omega) (Ev.done ?_)
    unfold permB
    rw [diffB_all fun j j0 j1 => h j j0 (by omega), Bool.and_true]
    refine congrArg some ?_
    by_cases e : m.length = 91
    · rw [decide_eq_true e, e]; rfl
    · rw [decide_eq_false e]
      exact beq_eq_false_iff_ne.2 (by omega)
  | succ d ih =>
    intro i h0 h1 h
    refine Ev.step (fun k => by rw [spec_l5Perm.l0]) ?_
    have z : wrap64 (i + 1) = i + 1 := w64 (by omega) (by omega)
    rw [z, l3In_eq]
    refine Ev.pos (by omega) (Ev.pos h0 (Ev.fix rfl ?_))
    by_cases hp : ptB (rd m i) = true
    case neg =>
      refine Ev.neg hp (Ev.done ?_)
      have hnb : newB m i = false := by unfold newB; rw [Bool.eq_false_iff.2 hp, Bool.false_and]
      unfold permB
      rw [diffB_hit h0 (by omega) hnb, Bool.and_false]
    obtain ⟨v0, v1⟩ := ptB_iff.1 hp
    have z4 := bL_rd (n := 91) (s := seenO (rd m) i) (rd m i) v0 v1
    have hs := bL_seen (n := 91) (rd m) i h0 (rd m i) v0 rfl
    rw [z4, bL_length, hs]
    refine Ev.pos hp (Ev.pos v0 (Ev.pos v1 ?_))
    have hst := seen_take (l := m) (i := i) h0 (by omega) v0
    by_cases e : seenO (rd m) i (rd m i).toNat = true
    · refine Ev.pos e (Ev.done ?_)
      have hnb : newB m i = false := by unfold newB; rw [decide_eq_true (hst.1 e), Bool.not_true, Bool.and_false]
      unfold permB
      rw [diffB_hit h0 (by omega) hnb, Bool.and_false]
    · refine Ev.neg e (ih (i + 1) (by omega) (by omega) fun j j0 j1 => ?_)
      by_cases ej : j = i
      · rw [ej]; unfold newB; rw [hp, decide_eq_false (fun hm => e (hst.2 hm))]; rfl
      · exact h j j0 (by omega)
theorem l5Perm_ev (m : List Int) (hl : m.length ≤ 1048576) : Ev (fun k => spec_l5Perm.f k m) (permB m) := by
  unfold spec_l5Perm.f
  rw [bL_replicate]
  exact Ev.pos (by omega) (l5Perm_loop m hl m.length 0 (by omega) (by omega) (fun j h0 h1 => by omega))
def lineR (t m : List Int) (l : Int) : Int × Bool := if lineOk t m l = true then (toLine t m l, true) else (0, false)
theorem l5Line_loop {t m : List Int} (hs : sysB t = true) (hm : permB m = true) {l : Int} (hl : In91 l) (d : Nat) : ∀ (i : Int), 0 ≤ i → i + d = (pointsL t l).length → (∀ j : Int, 0 ≤ j → j < i → onB t (rd m (rd (pointsL t l) j)) (toLine t m l) = true) → Ev (fun k => spec_l5Line.l0 k t m (pointsL t l) (toLine t m l) i) (lineR t m l) := by
  have hlen := permB_len hm
  have h91 : (pointsL t l).length ≤ 91 := filI_length_le _ _
  obtain ⟨_, _, _, htl⟩ := toLine_spec hs hm hl
  induction d with
  | zero =>
    intro i h0 h1 h
    refine Ev.step (fun k => by rw [spec_l5Line.l0]) ?_
    refine Ev.neg (by omega) (Ev.done ?_)
    have : lineOk t m l = true := by
      unfold lineOk
      rw [Bool.not_eq_true', List.any_eq_false]
      intro p hp
      obtain ⟨j, hj, rfl⟩ := List.mem_iff_getElem.1 hp
      have := h (j : Int) (by omega) (by omega)
      rw [rd_cast _ j hj] at this
      rw [this]; decide
    unfold lineR; rw [if_pos this]
  | succ d ih =>
    intro i h0 h1 h
    obtain ⟨⟨a0, a1⟩, _⟩ := pointsL_rd (t := t) (l := l) (i := i) h0 (by omega)
    have hv := diffB_pt (permB_diff hm) a0 (by omega)
    have e1 := l3On_eq (sysB_parts hs).1 hv htl
    refine Ev.step (fun k => by rw [spec_l5Line.l0]) ?_
    rw [w64 (x := i + 1) (by omega) (by omega)]
    refine Ev.pos (by omega) (Ev.pos h0 (Ev.pos a0 (Ev.pos (by omega) (Ev.fix e1 ?_))))
    by_cases e : onB t (rd m (rd (pointsL t l) i)) (toLine t m l) = true
    · refine Ev.pos e (ih (i + 1) (by omega) (by omega) fun j j0 j1 => ?_)
      by_cases ej : j = i
      · rw [ej]; exact e
      · exact h j j0 (by omega)
    · refine Ev.neg e (Ev.done ?_)
      have : lineOk t m l = false := by
        unfold lineOk
        rw [Bool.not_eq_false', List.any_eq_true]
        exact ⟨_, rd_mem (by omega) h0, by rw [Bool.eq_false_iff.2 e]; rfl⟩
      unfold lineR; rw [this]; rfl
theorem l5Line_ev {t m : List Int} (hs : sysB t = true) (hm : permB m = true) {l : Int} (hl : In91 l) : Ev (fun k => spec_l5Line.f k t m l) (lineR t m l) := by
  have hn := (sysB_parts hs).1
  have hlen := permB_len hm
  have h2 := pointsL_two hs hl.1 hl.2
  obtain ⟨p0, p1, hne, htl⟩ := toLine_spec hs hm hl
  obtain ⟨⟨a0, a1⟩, _⟩ := pointsL_rd (t := t) (l := l) (i := 0) (by omega) (by omega)
  obtain ⟨⟨b0, b1⟩, _⟩ := pointsL_rd (t := t) (l := l) (i := 1) (by omega) (by omega)
  obtain ⟨j0, j1, j2, j3⟩ := joinI_spec hs p0.1 p0.2 p1.1 p1.2 hne
  unfold spec_l5Line.f
  refine Ev.bind (l3Points_ev hn hl) ?_
  refine Ev.pos (by omega) (Ev.pos a0 (Ev.pos (by omega) (Ev.pos (by omega) (Ev.pos b0 (Ev.pos (by omega) (Ev.bind (l3Join_ev hs p0 p1 hne) ?_))))))
  refine l5Line_loop hs hm hl ((pointsL t l).length - 2) 2 (by omega) (by omega) fun j j0' j1' => ?_
  have : j = 0 ∨ j = 1 := by omega
  rcases this with rfl | rfl
  · exact j2
  · exact j3
theorem l5In_loop {t m : List Int} (hs : sysB t = true) (hm : permB m = true) (d : Nat) : ∀ (i : Int), 0 ≤ i → i + d = 91 → (∀ l : Int, 0 ≤ l → l < i → lineOk t m l = true) → Ev (fun k => spec_l5In.l0 k t m i) (moveB t m) := by
  induction d with
  | zero =>
    intro i h0 h1 h
    refine Ev.step (fun k => by rw [spec_l5In.l0]) ?_
    refine Ev.neg (by omega) (Ev.done ?_)
    rw [moveB_all hs hm fun l l0 l1 => h l l0 (by omega)]
  | succ d ih =>
    intro i h0 h1 h
    refine Ev.step (fun k => by rw [spec_l5In.l0]) ?_
    rw [w64 (x := i + 1) (by omega) (by omega)]
    refine Ev.pos (by omega) (Ev.bind (l5Line_ev hs hm (l := i) ⟨h0, by omega⟩) ?_)
    unfold lineR
    by_cases e : lineOk t m i = true
    · rw [if_pos e]
      refine Ev.pos rfl (ih (i + 1) (by omega) (by omega) fun l l0 l1 => ?_)
      by_cases el : l = i
      · rw [el]; exact e
      · exact h l l0 (by omega)
    · rw [if_neg e]
      refine Ev.neg (by decide) (Ev.done ?_)
      rw [moveB_hit h0 (by omega) (Bool.eq_false_iff.2 e)]
theorem l5In_ev {t m : List Int} (hs : sysB t = true) (hl : m.length ≤ 1048576) : Ev (fun k => spec_l5In.f k t m) (moveB t m) := by
  unfold spec_l5In.f
  refine Ev.bind (l5Perm_ev m hl) ?_
  by_cases hm : permB m = true
  · exact Ev.pos hm (l5In_loop hs hm 91 0 (by omega) (by omega) fun l h0 h1 => by omega)
  · refine Ev.neg hm (Ev.done ?_)
    unfold moveB; rw [Bool.eq_false_iff.2 hm]; simp
theorem MoveIn_ev {t m : List Int} (ht : t.length ≤ 1048576) (hl : m.length ≤ 1048576) : Ev (fun k => spec_MoveIn.f k t m) (moveB t m) := by
  unfold spec_MoveIn.f
  refine Ev.bind (SystemIn_ev t ht) ?_
  by_cases hs : sysB t = true
  · exact Ev.pos hs (Ev.bind (l5In_ev hs hl) (Ev.done rfl))
  · refine Ev.neg hs (Ev.done ?_)
    unfold moveB; rw [Bool.eq_false_iff.2 hs]; rfl
end Go.Proofs.Ytbfafjejmljcpaa.X

set_option linter.unusedVariables false
set_option linter.unusedSimpArgs false
namespace Go.Proofs.Ytbfafjejmljcpaa.X
open Go.RowKit Go.Proofs.YtbfafjejmljcpaaW.PrintWords Go.Proofs.YtbfafjejmljcpaaW.PrintLast Go.Proofs.Ytbfafjejmljcpaa.P

def timesR (t m n : List Int) : List Int × Bool := if (moveB t m && moveB t n) = true then (behL m n, true) else ([], false)
theorem specTimes_l0 {m n : List Int} (hm : permB m = true) (hn : permB n = true) (d : Nat) : ∀ i : Nat, i + d = 91 → Ev (fun k => spec_MoveTimes.l0 k m n (mapI i fun p => rd n (rd m p)) (i : Int)) (behL m n, true) := by
  have hl := permB_len hm
  have hl2 := permB_len hn
  induction d with
  | zero =>
    intro i h1
    have e : i = 91 := by omega
    subst e
    refine Ev.step (fun k => by rw [spec_MoveTimes.l0]) ?_
    exact Ev.neg (by omega) (Ev.done rfl)
  | succ d ih =>
    intro i h1
    obtain ⟨a0, a1⟩ := perm_rd hm (p := (i : Int)) ⟨by omega, by omega⟩
    have nx := ih (i + 1) (by omega)
    rw [mapI_succ] at nx
    have z : wrap64 ((i : Int) + 1) = ((i + 1 : Nat) : Int) := by rw [w64 (by omega) (by omega)]; rfl
    have hlm := mapI_length i fun p => rd n (rd m p)
    refine Ev.step (fun k => by rw [spec_MoveTimes.l0]) ?_
    rw [z]
    exact Ev.pos (by omega) (Ev.pos (by omega) (Ev.pos (by omega) (Ev.pos a0 (Ev.pos (by omega) (Ev.pos (by omega) nx)))))
theorem specTimes_ev {t m n : List Int} (ht : t.length ≤ 1048576) (hm : m.length ≤ 1048576) (hn : n.length ≤ 1048576) : Ev (fun k => spec_MoveTimes.f k t m n) (timesR t m n) := by
  unfold spec_MoveTimes.f timesR
  refine Ev.fix rfl (Ev.bind (MoveIn_ev ht hm) ?_)
  by_cases h1 : moveB t m = true
  case neg =>
    rw [Bool.eq_false_iff.2 h1]
    refine Ev.neg (by decide) ?_
    refine Ev.step (fun k => by rw [spec_MoveTimes.j0]) ?_
    exact Ev.pos rfl (Ev.done rfl)
  rw [h1]
  refine Ev.pos rfl (Ev.bind (MoveIn_ev ht hn) ?_)
  by_cases h2 : moveB t n = true
  case neg =>
    rw [Bool.eq_false_iff.2 h2]
    refine Ev.step (fun k => by rw [spec_MoveTimes.j0]) ?_
    exact Ev.pos rfl (Ev.done rfl)
  rw [h2]
  refine Ev.step (fun k => by rw [spec_MoveTimes.j0]) ?_
  exact Ev.neg (by decide) (specTimes_l0 (moveB_parts h1).2.1 (moveB_parts h2).2.1 91 0 (by omega))
end Go.Proofs.Ytbfafjejmljcpaa.X

set_option linter.unusedVariables false
set_option linter.unusedSimpArgs false
namespace Go.Proofs.Ytbfafjejmljcpaa.X
open Go.RowKit Go.Proofs.YtbfafjejmljcpaaW.PrintWords Go.Proofs.YtbfafjejmljcpaaW.PrintLast Go.Proofs.Ytbfafjejmljcpaa.P

def BaseM (t m : List Int) : Prop := (sysB t = false ∧ m = []) ∨ (sysB t = true ∧ ((∃ a b, In9 a ∧ In9 b ∧ m = shiftL a b) ∨ ∃ k, stretchOk t k = true ∧ m = stretchL t k))
def DrawnM (t m : List Int) : Prop := ∃ m', (BaseM t m' ∨ ∃ m0, BaseM t m0 ∧ moveB t m0 = true ∧ stretchOk t 2 = true ∧ m' = behL m0 (stretchL t 2)) ∧ (m = m' ∨ (sysB t = true ∧ m = m'.set 0 (rd m' 1)))
theorem moveL_length (f : Int → Int → Int) : (moveL f).length = 91 := mapI_length _ _
theorem BaseM.len {t m : List Int} (h : BaseM t m) : m.length = if sysB t = true then 91 else 0 := by
  rcases h with ⟨hs, rfl⟩ | ⟨hs, ⟨a, b, _, _, rfl⟩ | ⟨k, _, rfl⟩⟩
  · rw [hs]; rfl
  · rw [if_pos hs]; exact moveL_length _
  · rw [if_pos hs]; exact moveL_length _
theorem stretchOk_sys {t : List Int} {k : Int} (h : stretchOk t k = true) : sysB t = true := by
  unfold stretchOk at h
  exact (Bool.and_eq_true _ _ ▸ h : sysB t = true ∧ _).1
theorem midM_len {t m' : List Int} (h : BaseM t m' ∨ ∃ m0, BaseM t m0 ∧ moveB t m0 = true ∧ stretchOk t 2 = true ∧ m' = behL m0 (stretchL t 2)) : m'.length = if sysB t = true then 91 else 0 := by
  rcases h with h | ⟨m0, _, _, hs, rfl⟩
  · exact h.len
  · rw [if_pos (stretchOk_sys hs)]; exact mapI_length _ _
theorem DrawnM.len {t m : List Int} (h : DrawnM t m) : m.length ≤ 91 := by
  obtain ⟨m', h1, h2⟩ := h
  have hl := midM_len h1
  have : m'.length ≤ 91 := by rw [hl]; split <;> omega
  rcases h2 with rfl | ⟨_, rfl⟩
  · exact this
  · rw [List.length_set]; exact this
theorem mtail_ev {s : List Int} (hs : RdS s) {p : Int} (p0 : 0 ≤ p) (p1 : p ≤ 1099511000000) (m : List Int) (ok : Bool) (hl : ok = true → m.length = 91) : ∃ r q, (r = m ∨ (ok = true ∧ r = m.set 0 (rd m 1))) ∧ (p ≤ q ∧ q ≤ p + 1) ∧
    Ev (fun k => if ok = true then ((spec_l6Rd_pick.f k s p 20).bind fun b => (if b.1 = 0 then (if 1 < (m.length : Int) then (if 0 < (m.length : Int) then (some ((m.set (0 : Int).toNat (rd m 1)), b.2)) else (none)) else (none)) else (some (m, b.2)))) else (some (m, p))) (r, q) := by
  obtain ⟨a, ha, ea⟩ := pick_ev hs p0 (by omega) (n := 20) (by omega) (by omega)
  cases ok with
  | false => exact ⟨m, p, .inl rfl, by omega, Ev.neg (by decide) (Ev.done rfl)⟩
  | true =>
    have h91 := hl rfl
    by_cases e : a = 0
    · exact ⟨_, p + 1, .inr ⟨rfl, rfl⟩, by omega, Ev.pos rfl (Ev.bind ea (Ev.pos e (Ev.pos (by omega) (Ev.pos (by omega) (Ev.done rfl)))))⟩
    · exact ⟨m, p + 1, .inl rfl, by omega, Ev.pos rfl (Ev.bind ea (Ev.neg e (Ev.done rfl)))⟩
theorem mid_ev {s : List Int} (hs : RdS s) {p : Int} (p0 : 0 ≤ p) (p1 : p ≤ 1099510000000) {t : List Int} (ht : t.length ≤ 81) {m : List Int} (hm : BaseM t m) : ∃ r q, DrawnM t r ∧ (p ≤ q ∧ q ≤ p + 2) ∧ Ev (fun k => spec_l91Move.j0 k t m (sysB t) s p) (r, q) := by
  have hl := hm.len
  have hlok : sysB t = true → m.length = 91 := fun h => by rw [hl, if_pos h]
  have hml : m.length ≤ 1048576 := by rw [hl]; split <;> omega
  obtain ⟨a, ha, ea⟩ := pick_ev hs p0 (by omega) (n := 3) (by omega) (by omega)
  have j1f : ∀ p', 0 ≤ p' → p' ≤ 1099510000005 → ∃ r q, DrawnM t r ∧ (p' ≤ q ∧ q ≤ p' + 1) ∧ Ev (fun k => spec_l91Move.j1 k t m (sysB t) false s p') (r, q) := by
    intro p' q0 q1
    obtain ⟨r, q, hr, hq, e⟩ := mtail_ev hs q0 (by omega) m (sysB t) hlok
    refine ⟨r, q, ⟨m, .inl hm, hr⟩, hq, ?_⟩
    refine Ev.step (fun k => by rw [spec_l91Move.j1]) ?_
    exact Ev.neg (by decide) e
  by_cases hsy : sysB t = true
  case neg =>
    obtain ⟨r, q, hr, hq, e⟩ := j1f p p0 (by omega)
    refine ⟨r, q, hr, by omega, ?_⟩
    refine Ev.step (fun k => by rw [spec_l91Move.j0]) ?_
    exact Ev.neg hsy e
  by_cases ea0 : a = 0
  case neg =>
    obtain ⟨r, q, hr, hq, e⟩ := j1f (p + 1) (by omega) (by omega)
    refine ⟨r, q, hr, by omega, ?_⟩
    refine Ev.step (fun k => by rw [spec_l91Move.j0]) ?_
    refine Ev.pos hsy (Ev.bind ea ?_)
    dsimp only
    rw [beq_eq_false_iff_ne.2 ea0]
    exact e
  -- a stretch by 2 behind it
  have e2 := specStretch_ev t (by omega) 2
  have hR2 : (stretchR t 2).1.length ≤ 1048576 := by
    unfold stretchR
    by_cases h : stretchOk t 2 = true
    · rw [if_pos h]; show (moveL _).length ≤ _; rw [moveL_length]; omega
    · rw [if_neg h]; exact Nat.zero_le _
  have e3 := specTimes_ev (t := t) (m := m) (n := (stretchR t 2).1) (by omega) hml hR2
  have pre : ∀ r, Ev (fun k => if (stretchR t 2).2 = true then (spec_l91Move.j2 k m (sysB t) (timesR t m (stretchR t 2).1).1 (timesR t m (stretchR t 2).1).2 s (p + 1)) else (spec_l91Move.j2 k m (sysB t) (timesR t m (stretchR t 2).1).1 false s (p + 1))) r → Ev (fun k => spec_l91Move.j0 k t m (sysB t) s p) r := by
    intro r h
    refine Ev.step (fun k => by rw [spec_l91Move.j0]) ?_
    refine Ev.pos hsy (Ev.bind ea ?_)
    dsimp only
    rw [beq_iff_eq.2 ea0]
    refine Ev.step (fun k => by rw [spec_l91Move.j1]) ?_
    exact Ev.pos rfl (Ev.bind e2 (Ev.bind e3 h))
  have j2f : ∀ x, ∃ r q, DrawnM t r ∧ (p + 1 ≤ q ∧ q ≤ p + 1 + 1) ∧ Ev (fun k => spec_l91Move.j2 k m (sysB t) x false s (p + 1)) (r, q) := by
    intro x
    obtain ⟨r, q, hr, hq, e⟩ := mtail_ev hs (p := p + 1) (by omega) (by omega) m (sysB t) hlok
    refine ⟨r, q, ⟨m, .inl hm, hr⟩, hq, ?_⟩
    refine Ev.step (fun k => by rw [spec_l91Move.j2]) ?_
    exact Ev.neg (by decide) e
  by_cases hk : stretchOk t 2 = true
  case neg =>
    have eR : stretchR t 2 = ([], false) := if_neg hk
    obtain ⟨r, q, hr, hq, e⟩ := j2f (timesR t m (stretchR t 2).1).1
    refine ⟨r, q, hr, by omega, pre _ (Ev.neg (by rw [eR]; decide) e)⟩
  have eR : stretchR t 2 = (stretchL t 2, true) := if_pos hk
  rw [eR] at pre
  dsimp only at pre
  by_cases hmm : (moveB t m && moveB t (stretchL t 2)) = true
  case neg =>
    have eT : timesR t m (stretchL t 2) = ([], false) := if_neg hmm
    rw [eT] at pre
    obtain ⟨r, q, hr, hq, e⟩ := j2f []
    exact ⟨r, q, hr, by omega, pre _ (Ev.pos rfl e)⟩
  have eT : timesR t m (stretchL t 2) = (behL m (stretchL t 2), true) := if_pos hmm
  rw [eT] at pre
  obtain ⟨r, q, hr, hq, e⟩ := mtail_ev hs (p := p + 1) (by omega) (by omega) (behL m (stretchL t 2)) (sysB t) (fun _ => mapI_length _ _)
  refine ⟨r, q, ⟨_, .inr ⟨m, hm, (Bool.and_eq_true _ _ ▸ hmm : moveB t m = true ∧ _).1, hk, rfl⟩, hr⟩, by omega, pre _ (Ev.pos rfl ?_)⟩
  refine Ev.step (fun k => by rw [spec_l91Move.j2]) ?_
  exact Ev.pos rfl e
theorem move_ev {s : List Int} (hs : RdS s) {p : Int} (p0 : 0 ≤ p) (p1 : p ≤ 1099500000000) {t : List Int} (ht : t.length ≤ 81) : ∃ m q, DrawnM t m ∧ (p ≤ q ∧ q ≤ p + 6) ∧ Ev (fun k => spec_l91Move.f k s p t) (m, q) := by
  obtain ⟨a, ha, ea⟩ := pick_ev hs p0 (by omega) (n := 9) (by omega) (by omega)
  obtain ⟨b, hb, eb⟩ := pick_ev hs (p := p + 1) (by omega) (by omega) (n := 9) (by omega) (by omega)
  obtain ⟨c, hc, ec⟩ := pick_ev hs (p := p + 1 + 1) (by omega) (by omega) (n := 3) (by omega) (by omega)
  obtain ⟨d, hd, ed⟩ := pick_ev hs (p := p + 1 + 1 + 1) (by omega) (by omega) (n := 8) (by omega) (by omega)
  have e1 := specShift_ev t (by omega) a b
  have e2 := specStretch_ev t (by omega) (1 + d)
  have eS : shiftR t a b = (if sysB t = true then (shiftL a b, true) else ([], false)) := by
    unfold shiftR
    rw [isN_iff.2 ha, isN_iff.2 hb]; simp
  have hS : (shiftR t a b).2 = sysB t ∧ BaseM t (shiftR t a b).1 := by
    rw [eS]
    by_cases h : sysB t = true
    · rw [if_pos h, h]; exact ⟨rfl, .inr ⟨h, .inl ⟨a, b, ha, hb, rfl⟩⟩⟩
    · rw [if_neg h]; have h := Bool.eq_false_iff.2 h; rw [h]; exact ⟨rfl, .inl ⟨h, rfl⟩⟩
  have pre : ∀ r, Ev (fun k => if c = 0 then ((spec_l6Rd_pick.f k s (p + 1 + 1 + 1) 8).bind fun bt => ((spec_MoveStretch.f k t (wrap64 (1 + bt.1))).bind fun b2 => (if b2.2 = true then (spec_l91Move.j0 k t b2.1 true s bt.2) else (spec_l91Move.j0 k t (shiftR t a b).1 (shiftR t a b).2 s bt.2)))) else (spec_l91Move.j0 k t (shiftR t a b).1 (shiftR t a b).2 s (p + 1 + 1 + 1))) r → Ev (fun k => spec_l91Move.f k s p t) r := by
    intro r h
    unfold spec_l91Move.f
    exact Ev.bind ea (Ev.bind eb (Ev.bind e1 (Ev.bind ec h)))
  by_cases c0 : c = 0
  · by_cases hk : stretchOk t (1 + d) = true
    · have eR : stretchR t (1 + d) = (stretchL t (1 + d), true) := if_pos hk
      have hsy := stretchOk_sys hk
      obtain ⟨r, q, hr, hq, e⟩ := mid_ev hs (p := p + 1 + 1 + 1 + 1) (by omega) (by omega) ht (m := stretchL t (1 + d)) (.inr ⟨hsy, .inr ⟨_, hk, rfl⟩⟩)
      refine ⟨r, q, hr, by omega, pre _ (Ev.pos c0 (Ev.bind ed ?_))⟩
      dsimp only
      rw [w64 (x := 1 + d) (by omega) (by omega)]
      refine Ev.bind e2 ?_
      rw [eR]
      refine Ev.pos rfl ?_
      rw [hsy] at e
      exact e
    · have eR : stretchR t (1 + d) = ([], false) := if_neg hk
      obtain ⟨r, q, hr, hq, e⟩ := mid_ev hs (p := p + 1 + 1 + 1 + 1) (by omega) (by omega) ht hS.2
      refine ⟨r, q, hr, by omega, pre _ (Ev.pos c0 (Ev.bind ed ?_))⟩
      dsimp only
      rw [w64 (x := 1 + d) (by omega) (by omega)]
      refine Ev.bind e2 ?_
      rw [eR]
      refine Ev.neg (by decide) ?_
      rw [hS.1]
      exact e
  · obtain ⟨r, q, hr, hq, e⟩ := mid_ev hs (p := p + 1 + 1 + 1) (by omega) (by omega) ht hS.2
    refine ⟨r, q, hr, by omega, pre _ (Ev.neg c0 ?_)⟩
    rw [hS.1]
    exact e
theorem moved_ev (l0 : List Int) (hu : ∀ x ∈ l0, (Lit.int .u8 x).wf = true) : ∃ t m, DrawnT t ∧ DrawnM t m ∧ Ev (fun k => spec_l91Moved.f k l0) (t, m) := by
  obtain ⟨s, hs, eo⟩ := open_ev l0 hu
  obtain ⟨t, q, ht, hq, et⟩ := system_ev hs (p := 0) (by omega) (by omega)
  obtain ⟨m, q1, hm, hq1, em⟩ := move_ev hs (p := q) (by omega) (by omega) ht.len
  refine ⟨t, m, ht, hm, ?_⟩
  unfold spec_l91Moved.f
  exact Ev.fix eo (Ev.bind et (Ev.bind em (Ev.done rfl)))
end Go.Proofs.Ytbfafjejmljcpaa.X

set_option linter.unusedVariables false
set_option linter.unusedSimpArgs false
namespace Go.Proofs.Ytbfafjejmljcpaa.X
open Go.RowKit Go.Proofs.YtbfafjejmljcpaaW.PrintWords

theorem least_ex {P : Nat → Prop} (h : ∃ n, P n) : ∃ n, P n ∧ ∀ k, P k → n ≤ k := by
  obtain ⟨n, hn⟩ := h
  induction n using Nat.strongRecOn with
  | ind n ih =>
    by_cases e : ∃ k, k < n ∧ P k
    · obtain ⟨k, hk, hp⟩ := e
      exact ih k hk hp
    · exact ⟨n, hn, fun k hk => Nat.le_of_not_lt fun hlt => e ⟨k, hlt, hk⟩⟩
def itI (m : List Int) : Nat → Int → Int
  | 0, p => p
  | k + 1, p => rd m (itI m k p)
theorem itI_in {m : List Int} (hm : permB m = true) (k : Nat) {p : Int} (hp : In91 p) : In91 (itI m k p) := by
  induction k with
  | zero => exact hp
  | succ k ih => exact perm_rd hm ih
theorem itI_add (m : List Int) (j k : Nat) (p : Int) : itI m (j + k) p = itI m j (itI m k p) := by
  induction j with
  | zero => rw [Nat.zero_add]; rfl
  | succ j ih => rw [Nat.succ_add]; show rd m (itI m (j + k) p) = rd m (itI m j (itI m k p)); rw [ih]
theorem itI_inj {m : List Int} (hm : permB m = true) (k : Nat) {p q : Int} (hp : In91 p) (hq : In91 q) (e : itI m k p = itI m k q) : p = q := by
  induction k with
  | zero => exact e
  | succ k ih => exact ih (perm_inj hm (itI_in hm k hp) (itI_in hm k hq) e)
theorem itI_mul (m : List Int) (n : Nat) {p : Int} (h : itI m n p = p) (j : Nat) : itI m (n * j) p = p := by
  induction j with
  | zero => rfl
  | succ j ih => rw [Nat.mul_succ, itI_add, h, ih]
theorem itI_mod {m : List Int} (n : Nat) {p : Int} (h : itI m n p = p) (k : Nat) : itI m k p = itI m (k % n) p := by
  have e : k = k % n + n * (k / n) := by rw [Nat.mod_add_div]
  calc itI m k p = itI m (k % n + n * (k / n)) p := by rw [← e]
    _ = itI m (k % n) p := by rw [itI_add, itI_mul m n h]
def IdN (m : List Int) (n : Nat) : Prop := ∀ p, In91 p → itI m n p = p
def IsOrd (m : List Int) (n : Nat) : Prop := 1 ≤ n ∧ IdN m n ∧ ∀ k, 1 ≤ k → IdN m k → n ≤ k
theorem IsOrd.dvd {m : List Int} {n k : Nat} (h : IsOrd m n) (hk : IdN m k) : n ∣ k := by
  refine Nat.dvd_of_mod_eq_zero ?_
  rcases Nat.eq_zero_or_pos (k % n) with e | e
  · exact e
  · have h1 := h.2.2 (k % n) e fun p hp => by rw [← itI_mod n (h.2.1 p hp) k]; exact hk p hp
    have h2 := Nat.mod_lt k (show 0 < n from h.1)
    omega
def IsCyc (m : List Int) (p : Int) (n : Nat) : Prop := 1 ≤ n ∧ itI m n p = p ∧ ∀ k, 1 ≤ k → itI m k p = p → n ≤ k
theorem cyc_ex {m : List Int} (hm : permB m = true) {p : Int} (hp : In91 p) : ∃ n, n ≤ 91 ∧ IsCyc m p n := by
  have hret : ∃ n, 1 ≤ n ∧ n ≤ 91 ∧ itI m n p = p := by
    rcases Classical.em (∃ i j, i < j ∧ j < 92 ∧ itI m i p = itI m j p) with ⟨i, j, hij, hj, e⟩ | hno
    · refine ⟨j - i, by omega, by omega, ?_⟩
      have e2 : itI m j p = itI m i (itI m (j - i) p) := by rw [← itI_add, show i + (j - i) = j by omega]
      exact (itI_inj hm i hp (itI_in hm _ hp) (e.trans e2)).symm
    · exfalso
      obtain ⟨i, hi, he⟩ := pigeon 92 (fun i => (itI m i p).toNat) (fun i h => by have := (itI_in hm i hp).2; show (itI m i p).toNat < 92; omega)
        (fun i j h h' e => hno ⟨i, j, h, h', by
          have a := itI_in hm i hp
          have b := itI_in hm j hp
          have a0 := a.1; have b0 := b.1
          have e : (itI m i p).toNat = (itI m j p).toNat := e
          omega⟩) 91 (by omega)
      have := (itI_in hm i hp).2
      have he : (itI m i p).toNat = 91 := he
      omega
  obtain ⟨k, k1, k2, k3⟩ := hret
  obtain ⟨n, ⟨a, b⟩, c⟩ := least_ex (P := fun n => 1 ≤ n ∧ itI m n p = p) ⟨k, k1, k3⟩
  exact ⟨n, Nat.le_trans (c k ⟨k1, k3⟩) k2, a, b, fun j h1 hj => c j ⟨h1, hj⟩⟩
theorem IsCyc.dvd {m : List Int} {p : Int} {n k : Nat} (h : IsCyc m p n) (hk : itI m k p = p) : n ∣ k := by
  refine Nat.dvd_of_mod_eq_zero ?_
  rcases Nat.eq_zero_or_pos (k % n) with e | e
  · exact e
  · have h1 := h.2.2 (k % n) e (by rw [← itI_mod n h.2.1 k]; exact hk)
    have h2 := Nat.mod_lt k (show 0 < n from h.1)
    omega
theorem IsCyc.ne {m : List Int} (hm : permB m = true) {p : Int} (hp : In91 p) {n i j : Nat} (h : IsCyc m p n) (hij : i < j) (hj : j < n) : itI m i p ≠ itI m j p := fun e => by
  have e2 : itI m j p = itI m i (itI m (j - i) p) := by rw [← itI_add, show i + (j - i) = j by omega]
  have := h.2.2 (j - i) (by omega) (itI_inj hm i hp (itI_in hm _ hp) (e.trans e2)).symm
  omega
def powL (m : List Int) (k : Nat) : List Int := mapI 91 (itI m k)
theorem powL_rd (m : List Int) (k : Nat) {p : Int} (hp : In91 p) : rd (powL m k) p = itI m k p := rd_mapI hp.1 hp.2
theorem powL_one {m : List Int} (hm : permB m = true) : powL m 1 = m := by
  have hl := permB_len hm
  refine ext_rd (by unfold powL; rw [mapI_length, hl]) fun i hi => ?_
  unfold powL at hi
  rw [mapI_length] at hi
  rw [powL_rd m 1 ⟨by omega, by omega⟩]; rfl
theorem powL_perm {m : List Int} (hm : permB m = true) (k : Nat) : permB (powL m k) = true :=
  permB_of (mapI_length _ _) (fun p hp => by rw [powL_rd m k hp]; exact itI_in hm k hp) fun p q hp hq e => by
    rw [powL_rd m k hp, powL_rd m k hq] at e
    exact itI_inj hm k hp hq e
theorem powL_beh (m : List Int) (k : Nat) : behL (powL m k) m = powL m (k + 1) := by
  unfold behL
  refine mapI_congr (n := 91) fun i hi => ?_
  rw [powL_rd m k ⟨by omega, by omega⟩]; rfl
theorem asc_id (f : Int → Int) (n : Nat) (hr : ∀ i : Int, 0 ≤ i → i < n → 0 ≤ f i ∧ f i < n) (ha : ∀ i : Int, 0 ≤ i → i + 1 < n → f i < f (i + 1)) : ∀ i : Int, 0 ≤ i → i < n → f i = i := by
  have up : ∀ d : Nat, (d : Int) < n → (d : Int) ≤ f d := by
    intro d
    induction d with
    | zero => intro h; exact (hr 0 (by omega) h).1
    | succ d ih =>
      intro h
      have h1 := ih (by omega)
      have h2 := ha d (by omega) (by omega)
      have e : ((d + 1 : Nat) : Int) = (d : Int) + 1 := by omega
      rw [e]; omega
  have down : ∀ (d : Nat) (i : Int), 0 ≤ i → i + d + 1 = n → f i ≤ i := by
    intro d
    induction d with
    | zero => intro i i0 h; have := (hr i i0 (by omega)).2; omega
    | succ d ih =>
      intro i i0 h
      have h1 := ih (i + 1) (by omega) (by omega)
      have h2 := ha i i0 (by omega)
      omega
  intro i i0 i1
  have h1 := up i.toNat (by omega)
  rw [Int.toNat_of_nonneg i0] at h1
  have h2 := down (n - 1 - i.toNat) i i0 (by omega)
  omega
def sortB (l : List Int) : Bool := allI l.length fun i => decide (i ≤ 0) || !decide (rd l i < rd l (i - 1))
theorem sortB_iff {l : List Int} : sortB l = true ↔ ∀ i : Int, 0 < i → i < l.length → rd l (i - 1) ≤ rd l i := by
  unfold sortB
  rw [allI_int_iff]
  constructor
  · intro h i i0 i1
    have := h i (by omega) i1
    rw [decide_eq_false (by omega : ¬ i ≤ 0), Bool.false_or, Bool.not_eq_true', decide_eq_false_iff_not] at this
    omega
  · intro h i i0 i1
    by_cases e : i ≤ 0
    · rw [decide_eq_true e, Bool.true_or]
    · rw [decide_eq_false e, Bool.false_or, Bool.not_eq_true', decide_eq_false_iff_not]
      have := h i (by omega) i1
      omega
theorem sort_pow {m : List Int} (hm : permB m = true) (k : Nat) : sortB (powL m k) = true ↔ IdN m k := by
  have hlen : (powL m k).length = 91 := mapI_length _ _
  rw [sortB_iff, hlen]
  constructor
  · intro h
    have := asc_id (itI m k) 91 (fun i i0 i1 => itI_in hm k ⟨i0, i1⟩) (fun i i0 i1 => by
      have h1 := h (i + 1) (by omega) (by omega)
      rw [show i + 1 - 1 = i by omega, powL_rd m k ⟨i0, by omega⟩, powL_rd m k (p := i + 1) ⟨by omega, by omega⟩] at h1
      rcases Int.lt_or_eq_of_le h1 with hlt | he
      · exact hlt
      · have := itI_inj hm k ⟨i0, by omega⟩ ⟨by omega, by omega⟩ he; omega)
    exact fun p hp => this p hp.1 hp.2
  · intro h i i0 i1
    rw [powL_rd m k (p := i - 1) ⟨by omega, by omega⟩, powL_rd m k (p := i) ⟨by omega, by omega⟩, h (i - 1) ⟨by omega, by omega⟩, h i ⟨by omega, by omega⟩]
    omega
end Go.Proofs.Ytbfafjejmljcpaa.X

set_option linter.unusedVariables false
set_option linter.unusedSimpArgs false
namespace Go.Proofs.Ytbfafjejmljcpaa.X
open Go.RowKit Go.Proofs.YtbfafjejmljcpaaW.PrintWords

def ptsS (s : Nat → Bool) : List Int := filI 91 fun p => s p.toNat
def sizeS (s : Nat → Bool) : Nat := (ptsS s).length
theorem filI_mono {n : Nat} {p q : Int → Bool} (h : ∀ i : Nat, i < n → p (i : Int) = true → q (i : Int) = true) : (filI n p).length ≤ (filI n q).length := by
  induction n with
  | zero => exact Nat.le_refl _
  | succ n ih =>
    rw [filI_succ, filI_succ, List.length_append, List.length_append]
    have h1 := ih fun i hi => h i (by omega)
    by_cases hp : p (n : Int) = true
    · rw [if_pos hp, if_pos (h n (by omega) hp)]; omega
    · rw [if_neg hp]; simp; omega
theorem filI_less {n : Nat} {p q : Int → Bool} (h : ∀ i : Nat, i < n → p (i : Int) = true → q (i : Int) = true) {j : Nat} (hj : j < n) (hq : q (j : Int) = true) (hp : p (j : Int) = false) : (filI n p).length < (filI n q).length := by
  induction n with
  | zero => omega
  | succ n ih =>
    rw [filI_succ, filI_succ, List.length_append, List.length_append]
    by_cases e : j = n
    · subst e
      have h1 := filI_mono (n := j) (p := p) (q := q) fun i hi => h i (by omega)
      rw [if_pos hq, if_neg (by rw [hp]; decide)]
      simp; omega
    · have h1 := ih (fun i hi => h i (by omega)) (by omega)
      by_cases hpn : p (n : Int) = true
      · rw [if_pos hpn, if_pos (h n (by omega) hpn)]; simp; omega
      · rw [if_neg hpn]; simp; omega
theorem sizeS_le (s : Nat → Bool) : sizeS s ≤ 91 := filI_length_le _ _
theorem sizeS_less {s s' : Nat → Bool} (h : ∀ x, x < 91 → s x = true → s' x = true) {j : Nat} (hj : j < 91) (h1 : s' j = true) (h0 : s j = false) : sizeS s < sizeS s' :=
  filI_less (fun i hi => by rw [Int.toNat_natCast]; exact h i hi) hj (by rw [Int.toNat_natCast]; exact h1) (by rw [Int.toNat_natCast]; exact h0)
end Go.Proofs.Ytbfafjejmljcpaa.X

set_option linter.unusedVariables false
set_option linter.unusedSimpArgs false
namespace Go.Proofs.Ytbfafjejmljcpaa.X
open Go.RowKit Go.Proofs.YtbfafjejmljcpaaW.PrintWords Go.Proofs.YtbfafjejmljcpaaW.PrintLast Go.Proofs.Ytbfafjejmljcpaa.P

theorem cmpNan_eq (x : Int) : cmp_isNaN_int.f x = some false := by
  unfold cmp_isNaN_int.f
  simp
theorem cmpLess_eq (x y : Int) : cmp_Less_int.f x y = some (decide (x < y)) := by
  unfold cmp_Less_int.f
  rw [cmpNan_eq]; rfl
theorem sorted_l0 {l : List Int} (hl : l.length ≤ 1048576) (d : Nat) : ∀ i : Int, i = d → i < l.length → (∀ j : Int, i < j → j < l.length → rd l (j - 1) ≤ rd l j) → Ev (fun k => slices_IsSorted_int_int.l0 k l i) (sortB l) := by
  induction d with
  | zero =>
    intro i i0 i1 h
    refine Ev.step (fun k => by rw [slices_IsSorted_int_int.l0]) ?_
    refine Ev.neg (by omega) (Ev.done ?_)
    rw [sortB_iff.2 fun j j0 j1 => h j (by omega) j1]
  | succ d ih =>
    intro i i0 i1 h
    refine Ev.step (fun k => by rw [slices_IsSorted_int_int.l0]) ?_
    rw [w64 (x := i - 1) (by omega) (by omega), cmpLess_eq]
    refine Ev.pos (by omega) (Ev.pos (by omega) (Ev.pos i1 (Ev.pos (by omega) (Ev.pos (by omega) (Ev.fix rfl ?_)))))
    by_cases e : rd l i < rd l (i - 1)
    · refine Ev.pos (decide_eq_true e) (Ev.done ?_)
      have : sortB l = false := Bool.eq_false_iff.2 fun hs => by have := sortB_iff.1 hs i (by omega) i1; omega
      rw [this]
    · refine Ev.neg (by simpa using e) (ih (i - 1) (by omega) (by omega) fun j j0 j1 => ?_)
      by_cases ej : j = i
      · rw [ej]; omega
      · exact h j (by omega) j1
theorem sorted_ev {l : List Int} (hl : l.length ≤ 1048576) (h0 : 0 < l.length) : Ev (fun k => slices_IsSorted_int_int.f k l) (sortB l) := by
  unfold slices_IsSorted_int_int.f
  rw [w64 (by omega) (by omega)]
  exact sorted_l0 hl (l.length - 1) _ (by omega) (by omega) (fun j j0 j1 => by omega)
theorem implOrd_l0 {m : List Int} (hm : permB m = true) {N : Nat} (hN : IsOrd m N) (hb : N ≤ 1000000000000000) (d : Nat) : ∀ n : Nat, 1 ≤ n → n + d = N → Ev (fun k => impl_MoveOrder.l0 k m (n : Int) (powL m n)) ((N : Int), true) := by
  have hlen : ∀ n, (powL m n).length = 91 := fun n => mapI_length _ _
  induction d with
  | zero =>
    intro n n1 n2
    have e : n = N := by omega
    subst e
    refine Ev.step (fun k => by rw [impl_MoveOrder.l0]) ?_
    exact Ev.bind (sorted_ev (by rw [hlen]; omega) (by rw [hlen]; omega)) (Ev.pos ((sort_pow hm n).2 hN.2.1) (Ev.done rfl))
  | succ d ih =>
    intro n n1 n2
    have nx := ih (n + 1) (by omega) (by omega)
    refine Ev.step (fun k => by rw [impl_MoveOrder.l0]) ?_
    refine Ev.bind (sorted_ev (by rw [hlen]; omega) (by rw [hlen]; omega)) (Ev.neg (fun h => ?_) ?_)
    · have := hN.2.2 n n1 ((sort_pow hm n).1 h); omega
    · refine Ev.bind (behind_ev (powL_perm hm n) hm) ?_
      rw [powL_beh, w64 (by omega) (by omega)]
      exact nx
theorem implOrd_ev {t m : List Int} (hs : moveB t m = true) (hl : m.length ≤ 1048576) {N : Nat} (hN : IsOrd m N) (hb : N ≤ 1000000000000000) : Ev (fun k => impl_MoveOrder.f k t m) ((N : Int), true) := by
  have hm := (moveB_parts hs).2.1
  unfold impl_MoveOrder.f
  refine Ev.fix (show impl_isMove.f t m = some (moveB t m) from if_pos hl) (Ev.pos hs ?_)
  have := implOrd_l0 hm hN hb (N - 1) 1 (by omega) (by have := hN.1; omega)
  rw [powL_one hm] at this
  exact this
theorem implOrd_no {t m : List Int} (hs : moveB t m = false) (hl : m.length ≤ 1048576) : Ev (fun k => impl_MoveOrder.f k t m) (0, false) := by
  unfold impl_MoveOrder.f
  refine Ev.fix (show impl_isMove.f t m = some (moveB t m) from if_pos hl) ?_
  rw [hs]
  exact Ev.neg (by decide) (Ev.done rfl)
end Go.Proofs.Ytbfafjejmljcpaa.X

set_option linter.unusedVariables false
set_option linter.unusedSimpArgs false
namespace Go.Proofs.Ytbfafjejmljcpaa.X
open Go.RowKit Go.Proofs.YtbfafjejmljcpaaW.PrintWords Go.Proofs.YtbfafjejmljcpaaW.PrintLast Go.Proofs.Ytbfafjejmljcpaa.P

theorem gcd_l0 (b : Nat) : ∀ a : Nat, Ev (fun k => spec_l5Gcd.l0 k (a : Int) (b : Int)) ((Nat.gcd a b : Nat) : Int) := by
  induction b using Nat.strongRecOn with
  | ind b ih =>
    intro a
    refine Ev.step (fun k => by rw [spec_l5Gcd.l0]) ?_
    by_cases e : b = 0
    · subst e
      exact Ev.pos rfl (Ev.done (by rw [Nat.gcd_zero_right]))
    · refine Ev.neg (by omega) ?_
      have h1 := ih (a % b) (Nat.mod_lt a (by omega)) b
      have e2 : Int.tmod (a : Int) (b : Int) = ((a % b : Nat) : Int) := by rw [tmod_nn (by omega)]; rfl
      have e3 : Nat.gcd a b = Nat.gcd b (a % b) := by rw [Nat.gcd_comm a b, Nat.gcd_rec b a, Nat.gcd_comm]
      rw [e2, e3]
      exact h1
theorem gcd_ev (a b : Nat) : Ev (fun k => spec_l5Gcd.f k (a : Int) (b : Int)) ((Nat.gcd a b : Nat) : Int) := gcd_l0 b a
def sN (s : Nat → Bool) (m : List Int) (p : Int) : Nat → (Nat → Bool)
  | 0 => s
  | n + 1 => fun x => if x = (itI m n p).toNat then true else sN s m p n x
theorem sN_iff {s : Nat → Bool} {m : List Int} {p : Int} (n x : Nat) : sN s m p n x = true ↔ s x = true ∨ ∃ j, j < n ∧ x = (itI m j p).toNat := by
  induction n with
  | zero => exact ⟨.inl, fun h => h.elim id fun ⟨j, hj, _⟩ => absurd hj (by omega)⟩
  | succ n ih =>
    show (if x = (itI m n p).toNat then true else sN s m p n x) = true ↔ _
    by_cases e : x = (itI m n p).toNat
    · rw [if_pos e]; exact ⟨fun _ => .inr ⟨n, by omega, e⟩, fun _ => rfl⟩
    · rw [if_neg e, ih]
      refine or_congr_right ⟨fun ⟨j, hj, h⟩ => ⟨j, by omega, h⟩, fun ⟨j, hj, h⟩ => ⟨j, ?_, h⟩⟩
      rcases Nat.lt_or_eq_of_le (Nat.le_of_lt_succ hj) with h2 | h2
      · exact h2
      · rw [h2] at h; exact absurd h e
def Closed (m : List Int) (s : Nat → Bool) : Prop := ∀ x, In91 x → s (rd m x).toNat = s x.toNat
theorem closed_it {m : List Int} (hm : permB m = true) {s : Nat → Bool} (hc : Closed m s) {p : Int} (hp : In91 p) (n : Nat) : s (itI m n p).toNat = s p.toNat := by
  induction n with
  | zero => rfl
  | succ n ih => exact (hc _ (itI_in hm n hp)).trans ih
theorem sN_new {m : List Int} (hm : permB m = true) {s : Nat → Bool} (hc : Closed m s) {p : Int} (hp : In91 p) (hs : s p.toNat = false) {c n : Nat} (h : IsCyc m p c) (hn : n < c) : sN s m p n (itI m n p).toNat = false := by
  refine Bool.eq_false_iff.2 fun hh => ?_
  rcases (sN_iff n _).1 hh with h1 | ⟨j, hj, e⟩
  · rw [closed_it hm hc hp, hs] at h1; exact absurd h1 (by decide)
  · have a := itI_in hm n hp
    have b := itI_in hm j hp
    have a0 := a.1; have b0 := b.1
    exact h.ne hm hp hj hn (by omega)
theorem sN_size {m : List Int} (hm : permB m = true) {s : Nat → Bool} (hc : Closed m s) {p : Int} (hp : In91 p) (hs : s p.toNat = false) {c : Nat} (h : IsCyc m p c) (n : Nat) (hn : n ≤ c) : sizeS s + n ≤ sizeS (sN s m p n) := by
  induction n with
  | zero => exact Nat.le_refl _
  | succ n ih =>
    have h1 := ih (by omega)
    have a := itI_in hm n hp
    have h2 := sizeS_less (s := sN s m p n) (s' := sN s m p (n + 1)) (fun x _ hx => (sN_iff _ _).2 (by
      rcases (sN_iff _ _).1 hx with h | ⟨j, hj, e⟩
      · exact .inl h
      · exact .inr ⟨j, by omega, e⟩)) (j := (itI m n p).toNat) (by have := a.1; have := a.2; omega) ((sN_iff _ _).2 (.inr ⟨n, by omega, rfl⟩)) (sN_new hm hc hp hs h (by omega))
    omega
theorem sN_closed {m : List Int} (hm : permB m = true) {s : Nat → Bool} (hc : Closed m s) {p : Int} (hp : In91 p) {c : Nat} (h : IsCyc m p c) : Closed m (sN s m p c) := by
  intro x hx
  have hx2 := perm_rd hm hx
  have key : sN s m p c (rd m x).toNat = true ↔ sN s m p c x.toNat = true := by
    rw [sN_iff, sN_iff, hc x hx]
    refine or_congr_right ⟨fun ⟨j, hj, e⟩ => ?_, fun ⟨j, hj, e⟩ => ?_⟩
    · have b := itI_in hm j hp
      have e2 : rd m x = itI m j p := by have := hx2.1; have := b.1; omega
      cases j with
      | zero =>
        refine ⟨c - 1, by have := h.1; omega, ?_⟩
        have e3 : rd m (itI m (c - 1) p) = p := by
          have : itI m ((c - 1) + 1) p = p := by rw [show c - 1 + 1 = c by have := h.1; omega]; exact h.2.1
          exact this
        rw [perm_inj hm hx (itI_in hm (c - 1) hp) (e2.trans e3.symm)]
      | succ j =>
        refine ⟨j, by omega, ?_⟩
        rw [perm_inj hm hx (itI_in hm j hp) e2]
    · have b := itI_in hm j hp
      have e2 : x = itI m j p := by have := hx.1; have := b.1; omega
      by_cases ej : j + 1 = c
      · refine ⟨0, by omega, ?_⟩
        have e3 : rd m x = p := by rw [e2]; show itI m (j + 1) p = p; rw [ej]; exact h.2.1
        rw [e3]; rfl
      · refine ⟨j + 1, by omega, ?_⟩
        rw [e2]; rfl
  cases e : sN s m p c x.toNat with
  | true => exact key.2 e
  | false => exact Bool.eq_false_iff.2 fun h => by rw [key.1 h] at e; exact absurd e (by decide)
theorem cube_pow : ∀ c : Fin 92, c.val ^ 3 ≤ 3 ^ c.val := by decide +kernel
theorem cube_le {n : Nat} (h : n ^ 3 ≤ 3 ^ 91) : n ≤ 1000000000000000 := by
  rcases Nat.lt_or_ge 1000000000000000 n with hlt | hge
  · exfalso
    have h1 : 1000000000000000 ^ 3 ≤ n ^ 3 := Nat.pow_le_pow_left (Nat.le_of_lt hlt) 3
    have h2 : (3 : Nat) ^ 91 < 1000000000000000 ^ 3 := by decide +kernel
    omega
  · exact hge
structure OInv (m : List Int) (s : Nat → Bool) (o : Nat) : Prop where
  cl : Closed m s
  all : ∀ x, In91 x → s x.toNat = true → itI m o x = x
  dv : ∀ K, (∀ x, In91 x → s x.toNat = true → itI m K x = x) → o ∣ K
  cu : o ^ 3 ≤ 3 ^ sizeS s
  one : 1 ≤ o
theorem OInv.next {m : List Int} (hm : permB m = true) {s : Nat → Bool} {o : Nat} (I : OInv m s o) {p : Int} (hp : In91 p) (hs : s p.toNat = false) {c : Nat} (h : IsCyc m p c) (hc91 : c ≤ 91) : OInv m (sN s m p c) (Nat.lcm o c) where
  cl := sN_closed hm I.cl hp h
  all := by
    intro x hx hsx
    rcases (sN_iff _ _).1 hsx with h1 | ⟨j, hj, e⟩
    · obtain ⟨q, hq⟩ := Nat.dvd_lcm_left o c
      rw [hq]; exact itI_mul m o (I.all x hx h1) q
    · have b := itI_in hm j hp
      have e2 : x = itI m j p := by have := hx.1; have := b.1; omega
      obtain ⟨q, hq⟩ := Nat.dvd_lcm_right o c
      rw [hq]
      refine itI_mul m c ?_ q
      rw [e2, ← itI_add, Nat.add_comm, itI_add, h.2.1]
  dv := by
    intro K hK
    refine Nat.lcm_dvd (I.dv K fun x hx hsx => hK x hx ((sN_iff _ _).2 (.inl hsx))) ?_
    exact h.dvd (hK p hp ((sN_iff _ _).2 (.inr ⟨0, h.1, rfl⟩)))
  cu := by
    have h1 := sN_size hm I.cl hp hs h c (Nat.le_refl _)
    have h2 : Nat.lcm o c ≤ o * c := Nat.le_of_dvd (Nat.mul_pos I.one h.1) (Nat.lcm_dvd (Nat.dvd_mul_right _ _) (Nat.dvd_mul_left _ _))
    have h3 : c ^ 3 ≤ 3 ^ c := cube_pow ⟨c, by omega⟩
    calc Nat.lcm o c ^ 3 ≤ (o * c) ^ 3 := Nat.pow_le_pow_left h2 3
      _ = o ^ 3 * c ^ 3 := Nat.mul_pow o c 3
      _ ≤ 3 ^ sizeS s * 3 ^ c := Nat.mul_le_mul I.cu h3
      _ = 3 ^ (sizeS s + c) := (Nat.pow_add 3 (sizeS s) c).symm
      _ ≤ 3 ^ sizeS (sN s m p c) := Nat.pow_le_pow_right (by omega) h1
  one := Nat.lcm_pos I.one h.1
theorem OInv.le {m : List Int} {s : Nat → Bool} {o : Nat} (I : OInv m s o) : o ^ 3 ≤ 3 ^ 91 := Nat.le_trans I.cu (Nat.pow_le_pow_right (by omega) (sizeS_le s))
theorem specOrd_l1 {m : List Int} (hm : permB m = true) {s : Nat → Bool} {o : Nat} (I : OInv m s o) {p : Int} (hp : In91 p) (hs : s p.toNat = false) {c : Nat} (h : IsCyc m p c) (hc91 : c ≤ 91) {r : Int × Bool}
    (hr : Ev (fun k => spec_MoveOrder.l0 k m ((Nat.lcm o c : Nat) : Int) (bL 91 (sN s m p c)) (p + 1)) r) (d : Nat) : ∀ n : Nat, n + d = c → Ev (fun k => spec_MoveOrder.l1 k m (o : Int) (bL 91 (sN s m p n)) p (n : Int) (itI m n p)) r := by
  have hl := permB_len hm
  induction d with
  | zero =>
    intro n hn
    have e : n = c := by omega
    subst e
    have hp0 := hp.1
    have hp1 := hp.2
    refine Ev.step (fun k => by rw [spec_MoveOrder.l1]) ?_
    rw [h.2.1, bL_length, bL_rd p hp.1 hp.2, w64 (x := p + 1) (by omega) (by omega)]
    refine Ev.pos hp.1 (Ev.pos hp.2 (Ev.pos ((sN_iff _ _).2 (.inr ⟨0, h.1, rfl⟩)) (Ev.pos (by have := h.1; omega) (Ev.bind (gcd_ev o n) ?_))))
    have hg : 0 < Nat.gcd o n := Nat.gcd_pos_of_pos_left _ I.one
    have hle := cube_le I.le
    have hlc := cube_le (I.next hm hp hs h hc91).le
    have ed : Int.tdiv (o : Int) ((Nat.gcd o n : Nat) : Int) = ((o / Nat.gcd o n : Nat) : Int) := by rw [tdiv_nn (by omega)]; rfl
    have hd : o / Nat.gcd o n ≤ o := Nat.div_le_self _ _
    have el : o / Nat.gcd o n * n = Nat.lcm o n := by
      show _ = o * n / Nat.gcd o n
      rw [Nat.div_mul_right_comm (Nat.gcd_dvd_left o n)]
    have ee : wrap64 (wrap64 (Int.tdiv (o : Int) ((Nat.gcd o n : Nat) : Int)) * (n : Int)) = ((Nat.lcm o n : Nat) : Int) := by
      rw [ed]
      generalize o / Nat.gcd o n = u at hd el ⊢
      rw [w64 (x := (u : Int)) (by omega) (by omega), ← Int.natCast_mul, el]
      exact w64 (by omega) (by omega)
    rw [ee]
    exact Ev.neg (by omega) hr
  | succ d ih =>
    intro n hn
    have nx := ih (n + 1) (by omega)
    obtain ⟨q0, q1⟩ := itI_in hm n hp
    refine Ev.step (fun k => by rw [spec_MoveOrder.l1]) ?_
    rw [bL_length, bL_rd (itI m n p) q0 q1, sN_new hm I.cl hp hs h (by omega), w64 (x := (n : Int) + 1) (by omega) (by omega), bL_set]
    refine Ev.pos q0 (Ev.pos q1 (Ev.neg (by decide) (Ev.pos (by omega) ?_)))
    exact nx
theorem specOrd_l0 {m : List Int} (hm : permB m = true) (d : Nat) : ∀ (p : Int) (s : Nat → Bool) (o : Nat), 0 ≤ p → p + d = 91 → OInv m s o → (∀ r : Int, 0 ≤ r → r < p → s r.toNat = true) → ∃ n : Nat, IsOrd m n ∧ n ≤ 1000000000000000 ∧ Ev (fun k => spec_MoveOrder.l0 k m (o : Int) (bL 91 s) p) ((n : Int), true) := by
  induction d with
  | zero =>
    intro p s o p0 p1 I h
    have hall : ∀ x, In91 x → s x.toNat = true := fun x hx => h x hx.1 (by have := hx.2; omega)
    refine ⟨o, ⟨I.one, fun x hx => I.all x hx (hall x hx), fun k k1 hk => Nat.le_of_dvd k1 (I.dv k fun x hx _ => hk x hx)⟩, cube_le I.le, ?_⟩
    refine Ev.step (fun k => by rw [spec_MoveOrder.l0]) ?_
    exact Ev.neg (by omega) (Ev.done rfl)
  | succ d ih =>
    intro p s o p0 p1 I h
    have hp : In91 p := ⟨p0, by omega⟩
    by_cases e : s p.toNat = true
    · obtain ⟨n, hn, hb, hev⟩ := ih (p + 1) s o (by omega) (by omega) I (fun r r0 r1 => by
        by_cases er : r = p
        · rw [er]; exact e
        · exact h r r0 (by omega))
      refine ⟨n, hn, hb, ?_⟩
      refine Ev.step (fun k => by rw [spec_MoveOrder.l0]) ?_
      refine Ev.pos (by omega) ?_
      refine Ev.step (fun k => by rw [spec_MoveOrder.l1]) ?_
      rw [bL_length, bL_rd p p0 (by omega), e, w64 (x := p + 1) (by omega) (by omega)]
      exact Ev.pos p0 (Ev.pos (by omega) (Ev.pos rfl (Ev.neg (by omega) hev)))
    · have e := Bool.eq_false_iff.2 e
      obtain ⟨c, hc91, hc⟩ := cyc_ex hm hp
      obtain ⟨n, hn, hb, hev⟩ := ih (p + 1) (sN s m p c) (Nat.lcm o c) (by omega) (by omega) (I.next hm hp e hc hc91) (fun r r0 r1 => (sN_iff _ _).2 (by
        by_cases er : r = p
        · rw [er]; exact .inr ⟨0, hc.1, rfl⟩
        · exact .inl (h r r0 (by omega))))
      refine ⟨n, hn, hb, ?_⟩
      refine Ev.step (fun k => by rw [spec_MoveOrder.l0]) ?_
      exact Ev.pos (by omega) (specOrd_l1 hm I hp e hc hc91 hev c 0 (by omega))
theorem specOrd_ev {t m : List Int} (ht : t.length ≤ 1048576) (hl : m.length ≤ 1048576) (hs : moveB t m = true) : ∃ n : Nat, IsOrd m n ∧ n ≤ 1000000000000000 ∧ Ev (fun k => spec_MoveOrder.f k t m) ((n : Int), true) := by
  have hm := (moveB_parts hs).2.1
  obtain ⟨n, hn, hb, hev⟩ := specOrd_l0 hm 91 0 (fun _ => false) 1 (by omega) (by omega) ⟨fun _ _ => rfl, fun _ _ h => absurd h (by decide), fun K _ => Nat.one_dvd K, Nat.one_le_pow _ _ (by omega), Nat.le_refl _⟩ (fun r r0 r1 => by omega)
  refine ⟨n, hn, hb, ?_⟩
  unfold spec_MoveOrder.f
  refine Ev.bind (MoveIn_ev ht hl) (Ev.pos hs (Ev.pos (by omega) ?_))
  rw [bL_replicate]
  exact hev
theorem specOrd_no {t m : List Int} (ht : t.length ≤ 1048576) (hl : m.length ≤ 1048576) (hs : moveB t m = false) : Ev (fun k => spec_MoveOrder.f k t m) (0, false) := by
  unfold spec_MoveOrder.f
  refine Ev.bind (MoveIn_ev ht hl) ?_
  rw [hs]
  exact Ev.neg (by decide) (Ev.done rfl)
end Go.Proofs.Ytbfafjejmljcpaa.X

set_option linter.unusedVariables false
set_option linter.unusedSimpArgs false
namespace Go.Proofs.Ytbfafjejmljcpaa.Pure
open Go.RowKit Go.Proofs.Ytbfafjejmljcpaa.P Go.Proofs.YtbfafjejmljcpaaW.PrintWords Go.Proofs.YtbfafjejmljcpaaW.PrintLast Go.Proofs.Ytbfafjejmljcpaa.X

theorem order_end {m : List Int} {N : Nat} {p q : Int} (p0 : 0 ≤ p) (p1 : p < 91) (h : q = p ∨ ¬ ((N : Int) ≤ 1000)) (hr : Ev (fun k => laws_FnMoveOrder.l0 k m (N : Int) (p + 1)) true) : Ev (fun k => if q = p then (laws_FnMoveOrder.l0 k m (N : Int) (wrap64 (p + 1))) else (if (N : Int) ≤ 1000 then (some false) else (laws_FnMoveOrder.l0 k m (N : Int) (wrap64 (p + 1))))) true := by
  rw [w64 (x := p + 1) (by omega) (by omega)]
  by_cases e : q = p
  · exact Ev.pos e hr
  · exact Ev.neg e (Ev.neg (h.resolve_left e) hr)
theorem order_l1 {m : List Int} (pm : permB m = true) {N : Nat} (hN : IdN m N) {p : Int} (hp : In91 p) (hr : Ev (fun k => laws_FnMoveOrder.l0 k m (N : Int) (p + 1)) true) (d : Nat) : ∀ i : Nat, i + d = min N 1000 → Ev (fun k => laws_FnMoveOrder.l1 k m (N : Int) p (itI m i p) (i : Int)) true := by
  have hlen := permB_len pm
  induction d with
  | zero =>
    intro i hi
    refine Ev.step (fun k => by rw [laws_FnMoveOrder.l1]) ?_
    by_cases hlt : (i : Int) < (N : Int)
    · exact Ev.pos hlt (Ev.neg (by omega) (order_end hp.1 hp.2 (.inr (by omega)) hr))
    · have : i = N := by omega
      exact Ev.neg hlt (order_end hp.1 hp.2 (.inl (by rw [this]; exact hN p hp)) hr)
  | succ d ih =>
    intro i hi
    have hq := itI_in pm i hp
    have nx := ih (i + 1) (by omega)
    rw [show itI m (i + 1) p = rd m (itI m i p) by rw [Nat.add_comm, itI_add m 1 i p]; rfl] at nx
    refine Ev.step (fun k => by rw [laws_FnMoveOrder.l1]) ?_
    rw [w64 (x := (i : Int) + 1) (by omega) (by omega)]
    exact Ev.pos (by omega) (Ev.pos (by omega) (Ev.pos hq.1 (Ev.pos (by rw [hlen]; exact hq.2) nx)))
theorem order_l0 {m : List Int} (pm : permB m = true) {N : Nat} (h1 : 1 ≤ N) (hN : IdN m N) (d : Nat) : ∀ p : Int, 0 ≤ p → p + d = 91 → Ev (fun k => laws_FnMoveOrder.l0 k m (N : Int) p) true := by
  induction d with
  | zero =>
    intro p p0 p1
    refine Ev.step (fun k => by rw [laws_FnMoveOrder.l0]) ?_
    exact Ev.neg (by omega) (Ev.done (by rw [decide_eq_true (by omega : (N : Int) ≥ 1)]))
  | succ d ih =>
    intro p p0 p1
    refine Ev.step (fun k => by rw [laws_FnMoveOrder.l0]) ?_
    exact Ev.pos (by omega) (order_l1 pm hN ⟨p0, by omega⟩ (ih (p + 1) (by omega) (by omega)) (min N 1000) 0 (by omega))
theorem FnMoveOrder : laws_FnMoveOrder.Pure := by
  intro l0 _ _ hu
  refine Ev.rounds ?_
  unfold laws_FnMoveOrder.f
  by_cases hb : (l0.length : Int) > 1048576
  · exact Ev.pos hb (Ev.done rfl)
  refine Ev.neg hb ?_
  obtain ⟨t, m, ht, hm, e⟩ := moved_ev l0 hu
  have htl := ht.len
  have hml := hm.len
  refine Ev.bind (Ev.bind e (Ev.done rfl) : Ev (fun k => spec_DrawMoveOrder.f k l0) (t, m)) ?_
  dsimp only
  by_cases h : moveB t m = true
  case neg =>
    have h := Bool.eq_false_iff.2 h
    refine Ev.bind (implOrd_no h (by omega)) (Ev.bind (specOrd_no (by omega) (by omega) h) ?_)
    refine Ev.neg (by decide) (Ev.pos rfl ?_)
    refine Ev.step (fun k => by rw [laws_FnMoveOrder.j0]) ?_
    exact Ev.pos (by decide) (Ev.pos (by decide) (Ev.done rfl))
  obtain ⟨N, hN, hb2, es⟩ := specOrd_ev (t := t) (m := m) (by omega) (by omega) h
  refine Ev.bind (implOrd_ev h (by omega) hN hb2) (Ev.bind es ?_)
  refine Ev.neg (by simp) (Ev.pos rfl ?_)
  refine Ev.step (fun k => by rw [laws_FnMoveOrder.j0]) ?_
  exact Ev.neg (by simp) (order_l0 (moveB_parts h).2.1 hN.1 hN.2.1 91 0 (by omega) (by omega))
end Go.Proofs.Ytbfafjejmljcpaa.Pure

namespace Go.Proofs.Ytbfafjejmljcpaa.fnMoveOrder
open Go.ChangeShapes Go.WideShapes Go.ChangeAt Go.RowKit
open Go.ChangeMaps (open_string shut_string)
set_option linter.unusedVariables false
theorem own : ownKnob Try.prog.godebug = none := by kernel_rfl
theorem laidOut : laidOutB Try.prog = true := by kernel_rfl
def IsRow (k : IntKind) (w : World) (a : Option Addr) (len cap : Nat) (zs : List Int) : Prop :=
  (a = none ∧ len = 0 ∧ cap = 0 ∧ zs = []) ∨
  ∃ x, a = some x ∧ len ≤ cap ∧ cap ≤ maxLen ∧ zs.length = cap ∧ (∀ i, i < zs.length → w.cell? (x.add i) = some (.int k (zs.getD i 0))) ∧ ∀ n ∈ zs, (Lit.int k n).wf = true
set_option maxRecDepth 100000 in
theorem lifted (os : Os) (started : os.Started) (H : Type) (enc : TypeId × Value → H) :
    ReturnsInHanded {} Try.checked os 3 .any (Rows.fnMoveOrderSpec.pre6 enc Try.prog Try.f3 Rows.fnMoveOrderRow.domain false) (Rows.fnMoveOrderSpec.post enc Try.prog Try.f3 false true false false) := by
  refine returnsInHanded_of_change_sized (C := Try.checked) own started (by kernel_rfl) Try.func3
    (ChangeSpec.witness6 (enc := enc) (C := Try.checked) false ⟨#[], #[.slice none 0 0], []⟩ 8 (by kernel_rfl) (by kernel_rfl) (by kernel_rfl) (by kernel_rfl)) ?_
  intro W base args ds gs before hval0 hW hcnd hsz0 _
  have hsz : (DataW.weightsEach Try.prog (Try.f3.params.toList ++ Rows.fnMoveOrderSpec.plain.varTypes Try.prog) (ds ++ gs)).all (· ≤ reachBytes) = true := hsz0
  have hval : ∀ (j : Nat) t v, Try.f3.params[j]? = some t → args[j]? = some v → Value.okWide Try.prog W .any base t v := hval0
  have hW' := hW
  obtain ⟨p, q, hA0, hV, rfl, hfz, hnd⟩ := hW
  have hA : DataW.TrodAll enc Try.prog W 0 (fun _ => true) true Try.f3.params.toList args.toList ds p := hA0
  rw [Try.params3] at hA hval hsz
  obtain ⟨v0, vs0, d0, ds0, p0, q0, hargs, rfl, rfl, h0, r0⟩ := trodAll_cons hA
  obtain ⟨rfl, rfl, rfl⟩ := trodAll_nil r0
  obtain rfl : args = #[v0] := by cases args; simp_all
  obtain ⟨rfl, rfl⟩ := trodVars_none hV
  obtain ⟨a0, len0, cap0, rfl⟩ := okWide_slice Try.underlying22 (hval 0 22 v0 rfl rfl)
  have k0 := h0
  have lt0 : ∀ x ∈ p0, x.block < W.heap.size := by obtain ⟨m, hm⟩ := k0; exact DataW.trod_lt m _ _ _ hm
  obtain ⟨z0, w0⟩ : ∃ zs, IsRow .u8 W a0 len0 cap0 zs := by
    obtain ⟨fuel, hf⟩ := h0
    rcases open_ints Try.underlying22 Try.underlying5 (by kernel_rfl) hf with ⟨hcs, _⟩ | ⟨x, l, c, zs, hcs, _, hl, hm, hz, _, hcell, hwz⟩
    · simp [Value.cells] at hcs
      obtain ⟨rfl, rfl, rfl⟩ := hcs
      exact ⟨[], .inl ⟨rfl, rfl, rfl, rfl⟩⟩
    · simp [Value.cells] at hcs
      obtain ⟨rfl, rfl, rfl⟩ := hcs
      exact ⟨zs, .inr ⟨_, rfl, hl, hm, by simpa using hz, hcell, hwz⟩⟩
  have y0 : len0 * 1 ≤ 140737488351232 := Go.Proofs.YtbfafjejmljcpaaW.PrintWords.sized_ints hsz (j := 0) (t := 22) rfl rfl Try.underlying22 Try.underlying5 (by kernel_rfl) (by kernel_rfl) h0
  clear hA0 hval0 hsz0 hsz
  refine (P.laws_FnMoveOrder.walk Pure.FnMoveOrder a0 len0 cap0 z0 W w0 y0).mono fun e W' ⟨he, bel⟩ => ?_
  subst he
  exact ⟨_, rfl, _, _, _, [], _, [], hW', trodAll_mk1 (shut_bool Try.underlying4 _), (trodAll_cons_mk (Below.trod laidOut (by kernel_rfl) (of_decide_eq_true (by kernel_rfl)) k0 bel lt0) trodAll_mk0), rfl, bel.frame _, fun h => by cases h⟩
theorem over : Rows.fnMoveOrderRow.holds Try.pinned (OpenSpec.ofChange Rows.fnMoveOrderSpec) :=
  OpenClaim.holds_of_wide 3 Try.f3 rfl rfl rfl rfl rfl rfl rfl ⟨rfl, rfl, rfl, rfl, rfl⟩ rfl rfl rfl rfl rfl (by kernel_rfl) Try.func3 (by kernel_rfl)
    (of_decide_eq_true (by kernel_rfl)) (by unfold Func.isWrapper; first | (rw [if_pos (by decide +kernel)]; kernel_rfl) | (rw [if_neg (by decide +kernel)]; exact ⟨rfl, rfl⟩))
    (fun os started H enc _ => lifted os started H enc)
theorem proved : Rows.FnMoveOrderSaid := over
#print axioms proved
end Go.Proofs.Ytbfafjejmljcpaa.fnMoveOrder
namespace Go.Proofs.Ytbfafjejmljcpaa
theorem fnMoveOrder_holds : Rows.FnMoveOrderSaid := fnMoveOrder.proved
end Go.Proofs.Ytbfafjejmljcpaa
