/- The law FnDerive of the given program: for every input the call returns true, and each argument reads afterwards as it read before. No conditions. (Part 2 of 6; the last part holds the theorem.) -/
import Derived.Test.YtbfafjejmljcpaaMFnDerive0
namespace Go.Proofs.Ytbfafjejmljcpaa.P
open Go.RowKit Go.Proofs.YtbfafjejmljcpaaW.PrintWords Go.Proofs.YtbfafjejmljcpaaW.PrintLast
set_option linter.unusedVariables false
set_option linter.unusedSimpArgs false

mutual
def spec_LeafIn.l0 : Nat → List Int → Int → Option (Bool)
 | 0, _, _ => none
 | k + 1, x0, x3 => if x3 < 9 then (if 0 ≤ x3 then (if x3 < (x0.length : Int) then ((spec_l6In.f (rd x0 x3) 0 80).bind fun t468 => (if t468 = true then (if x3 > 0 then (if 0 ≤ (wrap64 (x3 - 1)) then (if (wrap64 (x3 - 1)) < (x0.length : Int) then (if (rd x0 x3) ≤ (rd x0 (wrap64 (x3 - 1))) then (some false) else (spec_LeafIn.l0 k x0 (wrap64 (x3 + 1)))) else (none)) else (none)) else (spec_LeafIn.l0 k x0 (wrap64 (x3 + 1)))) else (some false))) else (none)) else (none)) else (spec_LeafIn.l1 k x0 0)
def spec_LeafIn.l1 : Nat → List Int → Int → Option (Bool)
 | 0, _, _ => none
 | k + 1, x0, x4 => if x4 < 9 then (spec_LeafIn.l2 k x0 x4 0) else (some true)
def spec_LeafIn.l2 : Nat → List Int → Int → Int → Option (Bool)
 | 0, _, _, _ => none
 | k + 1, x0, x4, x5 => if x5 < 9 then (if 0 ≤ x4 then (if x4 < (x0.length : Int) then (if 0 ≤ x5 then (if x5 < (x0.length : Int) then ((spec_l6lAdd.f (rd x0 x4) (rd x0 x5)).bind fun t473 => ((spec_l6lHas.f k x0 t473).bind fun t474 => (if t474 = true then (spec_LeafIn.l2 k x0 x4 (wrap64 (x5 + 1))) else (some false)))) else (none)) else (none)) else (none)) else (none)) else (spec_LeafIn.l1 k x0 (wrap64 (x4 + 1)))
end
def spec_LeafIn.f (k : Nat) (l0 : List Int) : Option (Bool) := if (l0.length : Int) = 9 then (spec_LeafIn.l0 k l0 0) else (some false)
set_option maxHeartbeats 8000000 in
set_option maxRecDepth 100000 in
theorem spec_LeafIn.calls (k : Nat) (A0 : Option Addr) (c0 : Nat) (l0 : List Int) (r : Bool) (w : World) (hr0 : Kd.C (Kd.int .i64) w A0 l0.length l0) (hc0 : l0.length ≤ c0) (h : spec_LeafIn.f k l0 = some r) :
  Calls Try.prog 24 #[.slice A0 l0.length c0] w fun e w' => e = .returned (.bool r) ∧ Drawn0 w w' := by
 have HR0 := Aside0.mk hr0
 have HC0 := Aside0.mk hc0
 clear hr0 hc0
 have H : (if (l0.length : Int) = 9 then (spec_LeafIn.l0 k l0 0) else (some false)) = some r := h
 clear h
 by_cases c2 : (l0.length : Int) = 9
 ·rw [if_pos c2] at H
  have c2b0 : ((l0.length : Int) == 9) = true := beq_iff_eq.mpr c2
  have c2b1 : ((l0.length : Int) != 9) = false := bne_eq_false_iff_eq.mpr c2
  clear c2
  have H' := Aside0.mk H
  clear H
  go_enter Try.func24, Try.ntmps24
  go_wp2
  repeat (go_quiet (fail); try go_wp2)
  go_loopg [3] k (fun kq v3 w' => ∃ (x3_1 : Int), v3 = .int .i64 x3_1 ∧ Aside0 (spec_LeafIn.l0 kq l0 x3_1 = some r) ∧ Aside0 (kq ≤ k) ∧ Drawn0 w w')
  case atStart => exact ⟨(0), (by first | rfl | (simp; done) | (simp [*]; done)), H', ⟨Nat.le_refl _⟩, by repeat (first | exact Drawn0.refl _ | apply Drawn0.step)⟩
  case round =>
   clear H'
   try clear c2
   try clear c2b0
   try clear c2b1
   try clear p2
   obtain ⟨x3_1, rfl, HA, HK1, ⟨m1, rfl⟩⟩ := hrel
   cases gk with
   | zero => exact absurd HA.out (by simp [spec_LeafIn.l0])
   | succ k1 =>
    have H := HA.out
    clear HA
    simp only [spec_LeafIn.l0] at H
    by_cases c3 : x3_1 < 9
    ·rw [if_pos c3] at H
     have c3b0 : decide (x3_1 < 9) = true := decide_eq_true c3
     clear c3
     by_cases c4 : 0 ≤ x3_1
     ·rw [if_pos c4] at H
      have c4b0 : decide (0 ≤ x3_1) = true := decide_eq_true c4
      clear c4
      by_cases c5 : x3_1 < (l0.length : Int)
      ·rw [if_pos c5] at H
       have c5b0 : decide (x3_1 < (l0.length : Int)) = true := decide_eq_true c5
       clear c5
       replace H := Option.bind_eq_some_iff.mp H
       obtain ⟨t468, A60, H⟩ := H
       replace H : (if t468 = true then (if x3_1 > 0 then (if 0 ≤ (wrap64 (x3_1 - 1)) then (if (wrap64 (x3_1 - 1)) < (l0.length : Int) then (if (rd l0 x3_1) ≤ (rd l0 (wrap64 (x3_1 - 1))) then (some false) else (spec_LeafIn.l0 k1 l0 (wrap64 (x3_1 + 1)))) else (none)) else (none)) else (spec_LeafIn.l0 k1 l0 (wrap64 (x3_1 + 1)))) else (some false)) = some r := H
       have A6 := Aside0.mk A60
       clear A60
       by_cases c7 : t468 = true
       ·subst c7
        have H1 : (if x3_1 > 0 then (if 0 ≤ (wrap64 (x3_1 - 1)) then (if (wrap64 (x3_1 - 1)) < (l0.length : Int) then (if (rd l0 x3_1) ≤ (rd l0 (wrap64 (x3_1 - 1))) then (some false) else (spec_LeafIn.l0 k1 l0 (wrap64 (x3_1 + 1)))) else (none)) else (none)) else (spec_LeafIn.l0 k1 l0 (wrap64 (x3_1 + 1)))) = some r := by rw [if_pos rfl] at H; exact H
        clear H
        have H := H1
        clear H1
        by_cases c8 : x3_1 > 0
        ·rw [if_pos c8] at H
         have c8b0 : decide (0 < x3_1) = true := decide_eq_true c8
         clear c8
         obtain ⟨ji9, hji9⟩ : ∃ j_ : Int, (wrap64 (x3_1 - 1)) = j_ := ⟨_, rfl⟩
         replace H : (if 0 ≤ (ji9) then (if (ji9) < (l0.length : Int) then (if (rd l0 x3_1) ≤ (rd l0 (ji9)) then (some false) else (spec_LeafIn.l0 k1 l0 (wrap64 (x3_1 + 1)))) else (none)) else (none)) = some r := by first | (rw [hji9] at H; exact H) | (simp only [hji9] at H ⊢; exact H)
         (try rw [hji9] at A6)
         have hji9w : (IntKind.i64.wrap (x3_1 - 1)) = ji9 := (i64_w _).trans hji9
         by_cases c10 : 0 ≤ (ji9)
         ·rw [if_pos c10] at H
          have c10b0 : decide (0 ≤ (ji9)) = true := decide_eq_true c10
          clear c10
          by_cases c11 : (ji9) < (l0.length : Int)
          ·rw [if_pos c11] at H
           have c11b0 : decide ((ji9) < (l0.length : Int)) = true := decide_eq_true c11
           clear c11
           by_cases c12 : (rd l0 x3_1) ≤ (rd l0 (ji9))
           ·rw [if_pos c12] at H
            have c12b0 : decide ((rd l0 x3_1) ≤ (rd l0 (ji9))) = true := decide_eq_true c12
            clear c12
            obtain rfl := Option.some.inj H
            have p467 : 0 ≤ (x3_1 : Int) := dd_
            have q467 : x3_1 < (l0.length : Int) := dd_
            obtain ⟨ad467, e467, hx467_0⟩ := Kd.at_int HR0.out x3_1 p467 q467
            cases e467
            replace p467 := eq_true p467
            replace q467 := eq_true q467
            go_wp2_with (first | (go_at_call 57; (with_reducible refine (spec_l6In.calls (rd l0 x3_1) 0 80 true _ A6.out).mono ?_); rintro e w' ⟨rfl, ⟨nd, rfl⟩⟩; (try first | exact ⟨rfl, _, World.drewN_drewN _ _ _⟩ | exact ⟨rfl, _, Eq.trans (World.drewN_drewN _ _ _) (congrArg (World.drewN _) (Nat.add_assoc _ _ _))⟩); have p469 : 0 ≤ (x3_1 : Int) := dd_; have q469 : x3_1 < (l0.length : Int) := dd_; obtain ⟨ad469, e469, hx469_0⟩ := Kd.at_int HR0.out x3_1 p469 q469; obtain rfl : ad467 = ad469 := (by injection e469); replace p469 := eq_true p469; replace q469 := eq_true q469; have p470 : 0 ≤ ((ji9) : Int) := dd_; have q470 : (ji9) < (l0.length : Int) := dd_; obtain ⟨ad470, e470, hx470_0⟩ := Kd.at_int HR0.out (ji9) p470 q470; obtain rfl : ad467 = ad470 := (by injection e470); replace p470 := eq_true p470; replace q470 := eq_true q470))
            repeat (go_quiet (first | (go_at_call 57; (with_reducible refine (spec_l6In.calls (rd l0 x3_1) 0 80 true _ A6.out).mono ?_); rintro e w' ⟨rfl, ⟨nd, rfl⟩⟩; (try first | exact ⟨rfl, _, World.drewN_drewN _ _ _⟩ | exact ⟨rfl, _, Eq.trans (World.drewN_drewN _ _ _) (congrArg (World.drewN _) (Nat.add_assoc _ _ _))⟩); have p469 : 0 ≤ (x3_1 : Int) := dd_; have q469 : x3_1 < (l0.length : Int) := dd_; obtain ⟨ad469, e469, hx469_0⟩ := Kd.at_int HR0.out x3_1 p469 q469; obtain rfl : ad467 = ad469 := (by injection e469); replace p469 := eq_true p469; replace q469 := eq_true q469; have p470 : 0 ≤ ((ji9) : Int) := dd_; have q470 : (ji9) < (l0.length : Int) := dd_; obtain ⟨ad470, e470, hx470_0⟩ := Kd.at_int HR0.out (ji9) p470 q470; obtain rfl : ad467 = ad470 := (by injection e470); replace p470 := eq_true p470; replace q470 := eq_true q470)); try go_wp2_with (first | (go_at_call 57; (with_reducible refine (spec_l6In.calls (rd l0 x3_1) 0 80 true _ A6.out).mono ?_); rintro e w' ⟨rfl, ⟨nd, rfl⟩⟩; (try first | exact ⟨rfl, _, World.drewN_drewN _ _ _⟩ | exact ⟨rfl, _, Eq.trans (World.drewN_drewN _ _ _) (congrArg (World.drewN _) (Nat.add_assoc _ _ _))⟩); have p469 : 0 ≤ (x3_1 : Int) := dd_; have q469 : x3_1 < (l0.length : Int) := dd_; obtain ⟨ad469, e469, hx469_0⟩ := Kd.at_int HR0.out x3_1 p469 q469; obtain rfl : ad467 = ad469 := (by injection e469); replace p469 := eq_true p469; replace q469 := eq_true q469; have p470 : 0 ≤ ((ji9) : Int) := dd_; have q470 : (ji9) < (l0.length : Int) := dd_; obtain ⟨ad470, e470, hx470_0⟩ := Kd.at_int HR0.out (ji9) p470 q470; obtain rfl : ad467 = ad470 := (by injection e470); replace p470 := eq_true p470; replace q470 := eq_true q470)))
            go_ret
            exact ⟨by first | rfl | (simp; done) | (simp only [← hji9] <;> (first | rfl | simp)) | (simp [*]; done), by repeat (first | exact Drawn0.refl _ | apply Drawn0.step)⟩
           ·rw [if_neg c12] at H
            have c12b0 : decide ((rd l0 x3_1) ≤ (rd l0 (ji9))) = false := decide_eq_false c12
            clear c12
            have H' := Aside0.mk H
            clear H
            have p467 : 0 ≤ (x3_1 : Int) := dd_
            have q467 : x3_1 < (l0.length : Int) := dd_
            obtain ⟨ad467, e467, hx467_0⟩ := Kd.at_int HR0.out x3_1 p467 q467
            cases e467
            replace p467 := eq_true p467
            replace q467 := eq_true q467
            go_wp2_with (first | (go_at_call 57; (with_reducible refine (spec_l6In.calls (rd l0 x3_1) 0 80 true _ A6.out).mono ?_); rintro e w' ⟨rfl, ⟨nd, rfl⟩⟩; (try first | exact ⟨rfl, _, World.drewN_drewN _ _ _⟩ | exact ⟨rfl, _, Eq.trans (World.drewN_drewN _ _ _) (congrArg (World.drewN _) (Nat.add_assoc _ _ _))⟩); have p469 : 0 ≤ (x3_1 : Int) := dd_; have q469 : x3_1 < (l0.length : Int) := dd_; obtain ⟨ad469, e469, hx469_0⟩ := Kd.at_int HR0.out x3_1 p469 q469; obtain rfl : ad467 = ad469 := (by injection e469); replace p469 := eq_true p469; replace q469 := eq_true q469; have p470 : 0 ≤ ((ji9) : Int) := dd_; have q470 : (ji9) < (l0.length : Int) := dd_; obtain ⟨ad470, e470, hx470_0⟩ := Kd.at_int HR0.out (ji9) p470 q470; obtain rfl : ad467 = ad470 := (by injection e470); replace p470 := eq_true p470; replace q470 := eq_true q470))
            repeat (go_quiet (first | (go_at_call 57; (with_reducible refine (spec_l6In.calls (rd l0 x3_1) 0 80 true _ A6.out).mono ?_); rintro e w' ⟨rfl, ⟨nd, rfl⟩⟩; (try first | exact ⟨rfl, _, World.drewN_drewN _ _ _⟩ | exact ⟨rfl, _, Eq.trans (World.drewN_drewN _ _ _) (congrArg (World.drewN _) (Nat.add_assoc _ _ _))⟩); have p469 : 0 ≤ (x3_1 : Int) := dd_; have q469 : x3_1 < (l0.length : Int) := dd_; obtain ⟨ad469, e469, hx469_0⟩ := Kd.at_int HR0.out x3_1 p469 q469; obtain rfl : ad467 = ad469 := (by injection e469); replace p469 := eq_true p469; replace q469 := eq_true q469; have p470 : 0 ≤ ((ji9) : Int) := dd_; have q470 : (ji9) < (l0.length : Int) := dd_; obtain ⟨ad470, e470, hx470_0⟩ := Kd.at_int HR0.out (ji9) p470 q470; obtain rfl : ad467 = ad470 := (by injection e470); replace p470 := eq_true p470; replace q470 := eq_true q470)); try go_wp2_with (first | (go_at_call 57; (with_reducible refine (spec_l6In.calls (rd l0 x3_1) 0 80 true _ A6.out).mono ?_); rintro e w' ⟨rfl, ⟨nd, rfl⟩⟩; (try first | exact ⟨rfl, _, World.drewN_drewN _ _ _⟩ | exact ⟨rfl, _, Eq.trans (World.drewN_drewN _ _ _) (congrArg (World.drewN _) (Nat.add_assoc _ _ _))⟩); have p469 : 0 ≤ (x3_1 : Int) := dd_; have q469 : x3_1 < (l0.length : Int) := dd_; obtain ⟨ad469, e469, hx469_0⟩ := Kd.at_int HR0.out x3_1 p469 q469; obtain rfl : ad467 = ad469 := (by injection e469); replace p469 := eq_true p469; replace q469 := eq_true q469; have p470 : 0 ≤ ((ji9) : Int) := dd_; have q470 : (ji9) < (l0.length : Int) := dd_; obtain ⟨ad470, e470, hx470_0⟩ := Kd.at_int HR0.out (ji9) p470 q470; obtain rfl : ad467 = ad470 := (by injection e470); replace p470 := eq_true p470; replace q470 := eq_true q470)))
            go_roundg k1
            case measure => have := HK1.out; omega
            case rel => exact ⟨(wrap64 (x3_1 + 1)), (by first | rfl | (simp; done) | (simp [*]; done)), H', ⟨by have := HK1.out; omega⟩, by repeat (first | exact Drawn0.refl _ | apply Drawn0.step)⟩
          ·rw [if_neg c11] at H
           exact absurd H (by simp)
         ·rw [if_neg c10] at H
          exact absurd H (by simp)
        ·rw [if_neg c8] at H
         have c8b0 : decide (0 < x3_1) = false := decide_eq_false c8
         clear c8
         have H' := Aside0.mk H
         clear H
         have p467 : 0 ≤ (x3_1 : Int) := dd_
         have q467 : x3_1 < (l0.length : Int) := dd_
         obtain ⟨ad467, e467, hx467_0⟩ := Kd.at_int HR0.out x3_1 p467 q467
         cases e467
         replace p467 := eq_true p467
         replace q467 := eq_true q467
         go_wp2_with (first | (go_at_call 57; (with_reducible refine (spec_l6In.calls (rd l0 x3_1) 0 80 true _ A6.out).mono ?_); rintro e w' ⟨rfl, ⟨nd, rfl⟩⟩; (try first | exact ⟨rfl, _, World.drewN_drewN _ _ _⟩ | exact ⟨rfl, _, Eq.trans (World.drewN_drewN _ _ _) (congrArg (World.drewN _) (Nat.add_assoc _ _ _))⟩)))
         repeat (go_quiet (first | (go_at_call 57; (with_reducible refine (spec_l6In.calls (rd l0 x3_1) 0 80 true _ A6.out).mono ?_); rintro e w' ⟨rfl, ⟨nd, rfl⟩⟩; (try first | exact ⟨rfl, _, World.drewN_drewN _ _ _⟩ | exact ⟨rfl, _, Eq.trans (World.drewN_drewN _ _ _) (congrArg (World.drewN _) (Nat.add_assoc _ _ _))⟩))); try go_wp2_with (first | (go_at_call 57; (with_reducible refine (spec_l6In.calls (rd l0 x3_1) 0 80 true _ A6.out).mono ?_); rintro e w' ⟨rfl, ⟨nd, rfl⟩⟩; (try first | exact ⟨rfl, _, World.drewN_drewN _ _ _⟩ | exact ⟨rfl, _, Eq.trans (World.drewN_drewN _ _ _) (congrArg (World.drewN _) (Nat.add_assoc _ _ _))⟩))))
         go_roundg k1
         case measure => have := HK1.out; omega
         case rel => exact ⟨(wrap64 (x3_1 + 1)), (by first | rfl | (simp; done) | (simp [*]; done)), H', ⟨by have := HK1.out; omega⟩, by repeat (first | exact Drawn0.refl _ | apply Drawn0.step)⟩
       ·replace c7 := Bool.eq_false_iff.mpr c7
        subst c7
        have H1 : (some false) = some r := by rw [if_neg (show ¬ (false = true) by decide)] at H; exact H
        clear H
        have H := H1
        clear H1
        obtain rfl := Option.some.inj H
        have p467 : 0 ≤ (x3_1 : Int) := dd_
        have q467 : x3_1 < (l0.length : Int) := dd_
        obtain ⟨ad467, e467, hx467_0⟩ := Kd.at_int HR0.out x3_1 p467 q467
        cases e467
        replace p467 := eq_true p467
        replace q467 := eq_true q467
        go_wp2_with (first | (go_at_call 57; (with_reducible refine (spec_l6In.calls (rd l0 x3_1) 0 80 false _ A6.out).mono ?_); rintro e w' ⟨rfl, ⟨nd, rfl⟩⟩; (try first | exact ⟨rfl, _, World.drewN_drewN _ _ _⟩ | exact ⟨rfl, _, Eq.trans (World.drewN_drewN _ _ _) (congrArg (World.drewN _) (Nat.add_assoc _ _ _))⟩)))
        repeat (go_quiet (first | (go_at_call 57; (with_reducible refine (spec_l6In.calls (rd l0 x3_1) 0 80 false _ A6.out).mono ?_); rintro e w' ⟨rfl, ⟨nd, rfl⟩⟩; (try first | exact ⟨rfl, _, World.drewN_drewN _ _ _⟩ | exact ⟨rfl, _, Eq.trans (World.drewN_drewN _ _ _) (congrArg (World.drewN _) (Nat.add_assoc _ _ _))⟩))); try go_wp2_with (first | (go_at_call 57; (with_reducible refine (spec_l6In.calls (rd l0 x3_1) 0 80 false _ A6.out).mono ?_); rintro e w' ⟨rfl, ⟨nd, rfl⟩⟩; (try first | exact ⟨rfl, _, World.drewN_drewN _ _ _⟩ | exact ⟨rfl, _, Eq.trans (World.drewN_drewN _ _ _) (congrArg (World.drewN _) (Nat.add_assoc _ _ _))⟩))))
        go_ret
        exact ⟨by first | rfl | (simp; done) | (simp [*]; done), by repeat (first | exact Drawn0.refl _ | apply Drawn0.step)⟩
      ·rw [if_neg c5] at H
       exact absurd H (by simp)
     ·rw [if_neg c4] at H
      exact absurd H (by simp)
    ·rw [if_neg c3] at H
     have c3b0 : decide (x3_1 < 9) = false := decide_eq_false c3
     clear c3
     have H' := Aside0.mk H
     clear H
     go_wp2
     repeat (go_quiet (fail); try go_wp2)
     go_loopg [4] k1 (fun kq v4 w' => ∃ (x4_2 : Int), v4 = .int .i64 x4_2 ∧ Aside0 (spec_LeafIn.l1 kq l0 x4_2 = some r) ∧ Aside0 (kq ≤ k1) ∧ Drawn0 w w')
     case atStart => exact ⟨(0), (by first | rfl | (simp; done) | (simp [*]; done)), H', ⟨Nat.le_refl _⟩, by repeat (first | exact Drawn0.refl _ | apply Drawn0.step)⟩
     case round =>
      clear H'
      try clear c1
      try clear c2
      try clear c2b0
      try clear c2b1
      try clear p2
      try clear c3
      try clear c3b0
      try clear c4
      try clear c4b0
      try clear p4
      try clear q4
      try clear hx4
      try clear c5
      try clear c5b0
      try clear p6
      try clear c7
      try clear c8
      try clear c8b0
      try clear c10
      try clear c10b0
      try clear c11
      try clear c11b0
      try clear c12
      try clear c12b0
      try clear hx467_0
      try clear hx469_0
      try clear hx470_0
      try clear p2
      try clear p467
      try clear p469
      try clear p470
      try clear q467
      try clear q469
      try clear q470
      obtain ⟨x4_2, rfl, HA, HK2, ⟨m2, rfl⟩⟩ := hrel
      cases gk with
      | zero => exact absurd HA.out (by simp [spec_LeafIn.l1])
      | succ k2 =>
       have H := HA.out
       clear HA
       simp only [spec_LeafIn.l1] at H
       by_cases c13 : x4_2 < 9
       ·rw [if_pos c13] at H
        have c13b0 : decide (x4_2 < 9) = true := decide_eq_true c13
        clear c13
        have H' := Aside0.mk H
        clear H
        go_wp2
        repeat (go_quiet (fail); try go_wp2)
        go_loopg [5] k2 (fun kq v5 w' => ∃ (x5_3 : Int), v5 = .int .i64 x5_3 ∧ Aside0 (spec_LeafIn.l2 kq l0 x4_2 x5_3 = some r) ∧ Aside0 (kq ≤ k2) ∧ Drawn0 w w')
        case atStart => exact ⟨(0), (by first | rfl | (simp; done) | (simp [*]; done)), H', ⟨Nat.le_refl _⟩, by repeat (first | exact Drawn0.refl _ | apply Drawn0.step)⟩
        case round =>
         clear H'
         try clear c1
         try clear c2
         try clear c2b0
         try clear c2b1
         try clear p2
         try clear c3
         try clear c3b0
         try clear c4
         try clear c4b0
         try clear p4
         try clear q4
         try clear hx4
         try clear c5
         try clear c5b0
         try clear p6
         try clear c7
         try clear c8
         try clear c8b0
         try clear c10
         try clear c10b0
         try clear c11
         try clear c11b0
         try clear c12
         try clear c12b0
         try clear c13
         try clear c13b0
         try clear hx467_0
         try clear hx469_0
         try clear hx470_0
         try clear p2
         try clear p4
         try clear p467
         try clear p469
         try clear p470
         try clear p6
         try clear q4
         try clear q467
         try clear q469
         try clear q470
         obtain ⟨x5_3, rfl, HA, HK3, ⟨m3, rfl⟩⟩ := hrel
         cases gk with
         | zero => exact absurd HA.out (by simp [spec_LeafIn.l2])
         | succ k3 =>
          have H := HA.out
          clear HA
          simp only [spec_LeafIn.l2] at H
          by_cases c14 : x5_3 < 9
          ·rw [if_pos c14] at H
           have c14b0 : decide (x5_3 < 9) = true := decide_eq_true c14
           clear c14
           by_cases c15 : 0 ≤ x4_2
           ·rw [if_pos c15] at H
            have c15b0 : decide (0 ≤ x4_2) = true := decide_eq_true c15
            clear c15
            by_cases c16 : x4_2 < (l0.length : Int)
            ·rw [if_pos c16] at H
             have c16b0 : decide (x4_2 < (l0.length : Int)) = true := decide_eq_true c16
             clear c16
             by_cases c17 : 0 ≤ x5_3
             ·rw [if_pos c17] at H
              have c17b0 : decide (0 ≤ x5_3) = true := decide_eq_true c17
              clear c17
              by_cases c18 : x5_3 < (l0.length : Int)
              ·rw [if_pos c18] at H
               have c18b0 : decide (x5_3 < (l0.length : Int)) = true := decide_eq_true c18
               clear c18
               replace H := Option.bind_eq_some_iff.mp H
               obtain ⟨t473, A190, H⟩ := H
               replace H : ((spec_l6lHas.f k3 l0 t473).bind fun t474 => (if t474 = true then (spec_LeafIn.l2 k3 l0 x4_2 (wrap64 (x5_3 + 1))) else (some false))) = some r := H
               have A19 := Aside0.mk A190
               clear A190
               replace H := Option.bind_eq_some_iff.mp H
               obtain ⟨t474, A200, H⟩ := H
               replace H : (if t474 = true then (spec_LeafIn.l2 k3 l0 x4_2 (wrap64 (x5_3 + 1))) else (some false)) = some r := H
               have A20 := Aside0.mk A200
               clear A200
               by_cases c21 : t474 = true
               ·subst c21
                have H1 : (spec_LeafIn.l2 k3 l0 x4_2 (wrap64 (x5_3 + 1))) = some r := by rw [if_pos rfl] at H; exact H
                clear H
                have H := H1
                clear H1
                have H' := Aside0.mk H
                clear H
                have p471 : 0 ≤ (x4_2 : Int) := dd_
                have q471 : x4_2 < (l0.length : Int) := dd_
                obtain ⟨ad471, e471, hx471_0⟩ := Kd.at_int HR0.out x4_2 p471 q471
                cases e471
                replace p471 := eq_true p471
                replace q471 := eq_true q471
                have p472 : 0 ≤ (x5_3 : Int) := dd_
                have q472 : x5_3 < (l0.length : Int) := dd_
                obtain ⟨ad472, e472, hx472_0⟩ := Kd.at_int HR0.out x5_3 p472 q472
                obtain rfl : ad471 = ad472 := (by injection e472)
                replace p472 := eq_true p472
                replace q472 := eq_true q472
                go_wp2_with (first | (go_at_call 59; (with_reducible refine (spec_l6lAdd.calls (rd l0 x4_2) (rd l0 x5_3) t473 _ A19.out).mono ?_); rintro e w' ⟨rfl, ⟨nd, rfl⟩⟩; (try first | exact ⟨rfl, _, World.drewN_drewN _ _ _⟩ | exact ⟨rfl, _, Eq.trans (World.drewN_drewN _ _ _) (congrArg (World.drewN _) (Nat.add_assoc _ _ _))⟩)) | (go_at_call 58; (with_reducible refine (spec_l6lHas.calls k3 _ _ l0 t473 true _ ?side1 ?side2 A20.out).mono ?_); (case side1 => exact ss_ HR0); (case side2 => exact HC0.out); rintro e w' ⟨rfl, ⟨nd, rfl⟩⟩; (try first | exact ⟨rfl, _, World.drewN_drewN _ _ _⟩ | exact ⟨rfl, _, Eq.trans (World.drewN_drewN _ _ _) (congrArg (World.drewN _) (Nat.add_assoc _ _ _))⟩)))
                repeat (go_quiet (first | (go_at_call 59; (with_reducible refine (spec_l6lAdd.calls (rd l0 x4_2) (rd l0 x5_3) t473 _ A19.out).mono ?_); rintro e w' ⟨rfl, ⟨nd, rfl⟩⟩; (try first | exact ⟨rfl, _, World.drewN_drewN _ _ _⟩ | exact ⟨rfl, _, Eq.trans (World.drewN_drewN _ _ _) (congrArg (World.drewN _) (Nat.add_assoc _ _ _))⟩)) | (go_at_call 58; (with_reducible refine (spec_l6lHas.calls k3 _ _ l0 t473 true _ ?side1 ?side2 A20.out).mono ?_); (case side1 => exact ss_ HR0); (case side2 => exact HC0.out); rintro e w' ⟨rfl, ⟨nd, rfl⟩⟩; (try first | exact ⟨rfl, _, World.drewN_drewN _ _ _⟩ | exact ⟨rfl, _, Eq.trans (World.drewN_drewN _ _ _) (congrArg (World.drewN _) (Nat.add_assoc _ _ _))⟩))); try go_wp2_with (first | (go_at_call 59; (with_reducible refine (spec_l6lAdd.calls (rd l0 x4_2) (rd l0 x5_3) t473 _ A19.out).mono ?_); rintro e w' ⟨rfl, ⟨nd, rfl⟩⟩; (try first | exact ⟨rfl, _, World.drewN_drewN _ _ _⟩ | exact ⟨rfl, _, Eq.trans (World.drewN_drewN _ _ _) (congrArg (World.drewN _) (Nat.add_assoc _ _ _))⟩)) | (go_at_call 58; (with_reducible refine (spec_l6lHas.calls k3 _ _ l0 t473 true _ ?side1 ?side2 A20.out).mono ?_); (case side1 => exact ss_ HR0); (case side2 => exact HC0.out); rintro e w' ⟨rfl, ⟨nd, rfl⟩⟩; (try first | exact ⟨rfl, _, World.drewN_drewN _ _ _⟩ | exact ⟨rfl, _, Eq.trans (World.drewN_drewN _ _ _) (congrArg (World.drewN _) (Nat.add_assoc _ _ _))⟩))))
                go_roundg k3
                case measure => have := HK1.out; have := HK2.out; have := HK3.out; omega
                case rel => exact ⟨(wrap64 (x5_3 + 1)), (by first | rfl | (simp; done) | (simp [*]; done)), H', ⟨by have := HK1.out; have := HK2.out; have := HK3.out; omega⟩, by repeat (first | exact Drawn0.refl _ | apply Drawn0.step)⟩
               ·replace c21 := Bool.eq_false_iff.mpr c21
                subst c21
                have H1 : (some false) = some r := by rw [if_neg (show ¬ (false = true) by decide)] at H; exact H
                clear H
                have H := H1
                clear H1
                obtain rfl := Option.some.inj H
                have p471 : 0 ≤ (x4_2 : Int) := dd_
                have q471 : x4_2 < (l0.length : Int) := dd_
                obtain ⟨ad471, e471, hx471_0⟩ := Kd.at_int HR0.out x4_2 p471 q471
                cases e471
                replace p471 := eq_true p471
                replace q471 := eq_true q471
                have p472 : 0 ≤ (x5_3 : Int) := dd_
                have q472 : x5_3 < (l0.length : Int) := dd_
                obtain ⟨ad472, e472, hx472_0⟩ := Kd.at_int HR0.out x5_3 p472 q472
                obtain rfl : ad471 = ad472 := (by injection e472)
                replace p472 := eq_true p472
                replace q472 := eq_true q472
                go_wp2_with (first | (go_at_call 59; (with_reducible refine (spec_l6lAdd.calls (rd l0 x4_2) (rd l0 x5_3) t473 _ A19.out).mono ?_); rintro e w' ⟨rfl, ⟨nd, rfl⟩⟩; (try first | exact ⟨rfl, _, World.drewN_drewN _ _ _⟩ | exact ⟨rfl, _, Eq.trans (World.drewN_drewN _ _ _) (congrArg (World.drewN _) (Nat.add_assoc _ _ _))⟩)) | (go_at_call 58; (with_reducible refine (spec_l6lHas.calls k3 _ _ l0 t473 false _ ?side1 ?side2 A20.out).mono ?_); (case side1 => exact ss_ HR0); (case side2 => exact HC0.out); rintro e w' ⟨rfl, ⟨nd, rfl⟩⟩; (try first | exact ⟨rfl, _, World.drewN_drewN _ _ _⟩ | exact ⟨rfl, _, Eq.trans (World.drewN_drewN _ _ _) (congrArg (World.drewN _) (Nat.add_assoc _ _ _))⟩)))
                repeat (go_quiet (first | (go_at_call 59; (with_reducible refine (spec_l6lAdd.calls (rd l0 x4_2) (rd l0 x5_3) t473 _ A19.out).mono ?_); rintro e w' ⟨rfl, ⟨nd, rfl⟩⟩; (try first | exact ⟨rfl, _, World.drewN_drewN _ _ _⟩ | exact ⟨rfl, _, Eq.trans (World.drewN_drewN _ _ _) (congrArg (World.drewN _) (Nat.add_assoc _ _ _))⟩)) | (go_at_call 58; (with_reducible refine (spec_l6lHas.calls k3 _ _ l0 t473 false _ ?side1 ?side2 A20.out).mono ?_); (case side1 => exact ss_ HR0); (case side2 => exact HC0.out); rintro e w' ⟨rfl, ⟨nd, rfl⟩⟩; (try first | exact ⟨rfl, _, World.drewN_drewN _ _ _⟩ | exact ⟨rfl, _, Eq.trans (World.drewN_drewN _ _ _) (congrArg (World.drewN _) (Nat.add_assoc _ _ _))⟩))); try go_wp2_with (first | (go_at_call 59; (with_reducible refine (spec_l6lAdd.calls (rd l0 x4_2) (rd l0 x5_3) t473 _ A19.out).mono ?_); rintro e w' ⟨rfl, ⟨nd, rfl⟩⟩; (try first | exact ⟨rfl, _, World.drewN_drewN _ _ _⟩ | exact ⟨rfl, _, Eq.trans (World.drewN_drewN _ _ _) (congrArg (World.drewN _) (Nat.add_assoc _ _ _))⟩)) | (go_at_call 58; (with_reducible refine (spec_l6lHas.calls k3 _ _ l0 t473 false _ ?side1 ?side2 A20.out).mono ?_); (case side1 => exact ss_ HR0); (case side2 => exact HC0.out); rintro e w' ⟨rfl, ⟨nd, rfl⟩⟩; (try first | exact ⟨rfl, _, World.drewN_drewN _ _ _⟩ | exact ⟨rfl, _, Eq.trans (World.drewN_drewN _ _ _) (congrArg (World.drewN _) (Nat.add_assoc _ _ _))⟩))))
                go_ret
                exact ⟨by first | rfl | (simp; done) | (simp [*]; done), by repeat (first | exact Drawn0.refl _ | apply Drawn0.step)⟩
              ·rw [if_neg c18] at H
               exact absurd H (by simp)
             ·rw [if_neg c17] at H
              exact absurd H (by simp)
            ·rw [if_neg c16] at H
             exact absurd H (by simp)
           ·rw [if_neg c15] at H
            exact absurd H (by simp)
          ·rw [if_neg c14] at H
           have c14b0 : decide (x5_3 < 9) = false := decide_eq_false c14
           clear c14
           have H' := Aside0.mk H
           clear H
           go_wp2
           repeat (go_quiet (fail); try go_wp2)
           go_roundg k3
           case measure => have := HK1.out; have := HK2.out; have := HK3.out; omega
           case rel => exact ⟨(wrap64 (x4_2 + 1)), (by first | rfl | (simp; done) | (simp [*]; done)), H', ⟨by have := HK1.out; have := HK2.out; have := HK3.out; omega⟩, by repeat (first | exact Drawn0.refl _ | apply Drawn0.step)⟩
       ·rw [if_neg c13] at H
        have c13b0 : decide (x4_2 < 9) = false := decide_eq_false c13
        clear c13
        obtain rfl := Option.some.inj H
        go_wp2
        repeat (go_quiet (fail); try go_wp2)
        go_ret
        exact ⟨by first | rfl | (simp; done) | (simp [*]; done), by repeat (first | exact Drawn0.refl _ | apply Drawn0.step)⟩
 ·rw [if_neg c2] at H
  have c2b0 : ((l0.length : Int) == 9) = false := beq_eq_false_iff_ne.mpr c2
  have c2b1 : ((l0.length : Int) != 9) = true := bne_iff_ne.mpr c2
  obtain rfl := Option.some.inj H
  go_enter Try.func24, Try.ntmps24
  go_wp2
  repeat (go_quiet (fail); try go_wp2)
  go_ret
  exact ⟨by first | rfl | (simp; done) | (simp [*]; done), by repeat (first | exact Drawn0.refl _ | apply Drawn0.step)⟩
end Go.Proofs.Ytbfafjejmljcpaa.P

namespace Go.Proofs.Ytbfafjejmljcpaa.P
open Go.RowKit Go.Proofs.YtbfafjejmljcpaaW.PrintWords Go.Proofs.YtbfafjejmljcpaaW.PrintLast
set_option linter.unusedVariables false
set_option linter.unusedSimpArgs false

def impl_addNear.f (a0 : Int) (a1 : Int) : Option (Int) := (impl_add.f (wrap64 (Int.tdiv a0 9)) (wrap64 (Int.tdiv a1 9))).bind fun t641 => ((impl_add.f (Int.tmod a0 9) (Int.tmod a1 9)).bind fun t642 => (some (wrap64 ((wrap64 (9 * t641)) + t642))))
set_option maxHeartbeats 8000000 in
set_option maxRecDepth 100000 in
theorem impl_addNear.calls (a0 : Int) (a1 : Int) (r : Int) (w : World) (h : impl_addNear.f a0 a1 = some r) :
  Calls Try.prog 62 #[.int .i64 a0, .int .i64 a1] w fun e w' => e = .returned (.int .i64 r) ∧ Drawn0 w w' := by
 have H : ((impl_add.f (wrap64 (Int.tdiv a0 9)) (wrap64 (Int.tdiv a1 9))).bind fun t641 => ((impl_add.f (Int.tmod a0 9) (Int.tmod a1 9)).bind fun t642 => (some (wrap64 ((wrap64 (9 * t641)) + t642))))) = some r := h
 clear h
 replace H := Option.bind_eq_some_iff.mp H
 obtain ⟨t641, A30, H⟩ := H
 replace H : ((impl_add.f (Int.tmod a0 9) (Int.tmod a1 9)).bind fun t642 => (some (wrap64 ((wrap64 (9 * t641)) + t642)))) = some r := H
 have A3 := Aside0.mk A30
 clear A30
 replace H := Option.bind_eq_some_iff.mp H
 obtain ⟨t642, A40, H⟩ := H
 replace H : (some (wrap64 ((wrap64 (9 * t641)) + t642))) = some r := H
 have A4 := Aside0.mk A40
 clear A40
 obtain rfl := Option.some.inj H
 go_enter Try.func62, Try.ntmps62
 go_wp2_with (first | (refine goesL_ (some 9) rfl rfl Try.func97 (by kernel_rfl) rfl #[.int .i64 (wrap64 (Int.tdiv a0 9)), .int .i64 (wrap64 (Int.tdiv a1 9))] rfl ll_ ?_; (with_reducible refine (impl_add.calls (wrap64 (Int.tdiv a0 9)) (wrap64 (Int.tdiv a1 9)) t641 _ A3.out).mono ?_); rintro e w' ⟨rfl, ⟨nd, rfl⟩⟩; refine ⟨_, rfl, ?_⟩) | (refine goesL_ (some 15) rfl rfl Try.func97 (by kernel_rfl) rfl #[.int .i64 (Int.tmod a0 9), .int .i64 (Int.tmod a1 9)] rfl ll_ ?_; (with_reducible refine (impl_add.calls (Int.tmod a0 9) (Int.tmod a1 9) t642 _ A4.out).mono ?_); rintro e w' ⟨rfl, ⟨nd, rfl⟩⟩; refine ⟨_, rfl, ?_⟩))
 go_ret
 exact ⟨by first | rfl | (simp; done) | (simp [*]; done), by repeat (first | exact Drawn0.refl _ | apply Drawn0.step)⟩
end Go.Proofs.Ytbfafjejmljcpaa.P

namespace Go.Proofs.Ytbfafjejmljcpaa.P
open Go.RowKit Go.Proofs.YtbfafjejmljcpaaW.PrintWords Go.Proofs.YtbfafjejmljcpaaW.PrintLast
set_option linter.unusedVariables false
set_option linter.unusedSimpArgs false

def impl_isNear.f (a0 : Int) : Option (Bool) := if a0 ≥ 0 then (some (decide (a0 < 81))) else (some false)
set_option maxHeartbeats 8000000 in
set_option maxRecDepth 100000 in
theorem impl_isNear.calls (a0 : Int) (r : Bool) (w : World) (h : impl_isNear.f a0 = some r) :
  Calls Try.prog 60 #[.int .i64 a0] w fun e w' => e = .returned (.bool r) ∧ Drawn0 w w' := by
 have H : (if a0 ≥ 0 then (some (decide (a0 < 81))) else (some false)) = some r := h
 clear h
 by_cases c2 : a0 ≥ 0
 ·rw [if_pos c2] at H
  have c2b0 : decide (0 ≤ a0) = true := decide_eq_true c2
  clear c2
  obtain rfl := Option.some.inj H
  go_enter Try.func60, Try.ntmps60
  go_wp2
  go_ret
  exact ⟨by first | rfl | (simp; done) | (simp [*]; done), by repeat (first | exact Drawn0.refl _ | apply Drawn0.step)⟩
 ·rw [if_neg c2] at H
  have c2b0 : decide (0 ≤ a0) = false := decide_eq_false c2
  clear c2
  obtain rfl := Option.some.inj H
  go_enter Try.func60, Try.ntmps60
  go_wp2
  go_ret
  exact ⟨by first | rfl | (simp; done) | (simp [*]; done), by repeat (first | exact Drawn0.refl _ | apply Drawn0.step)⟩
end Go.Proofs.Ytbfafjejmljcpaa.P

namespace Go.Proofs.Ytbfafjejmljcpaa.P
open Go.RowKit Go.Proofs.YtbfafjejmljcpaaW.PrintWords Go.Proofs.YtbfafjejmljcpaaW.PrintLast
set_option linter.unusedVariables false
set_option linter.unusedSimpArgs false

mutual
def impl_isLeaf.l0 : Nat → List Int → List Int → Int → Int → Option (Bool)
 | 0, _, _, _, _ => none
 | k + 1, x0, x12, x13, x14 => if x14 < x13 then (if 0 ≤ x14 then (if x14 < (x12.length : Int) then ((impl_isNear.f (rd x12 x14)).bind fun t644 => (if t644 = true then (if x14 > 0 then (if 0 ≤ (wrap64 (x14 - 1)) then (if (wrap64 (x14 - 1)) < (x0.length : Int) then (if (rd x0 (wrap64 (x14 - 1))) ≥ (rd x12 x14) then (some false) else (impl_isLeaf.l0 k x0 x12 x13 (wrap64 (x14 + 1)))) else (none)) else (none)) else (impl_isLeaf.l0 k x0 x12 x13 (wrap64 (x14 + 1)))) else (some false))) else (none)) else (none)) else (impl_isLeaf.l1 k x0 x0 (x0.length : Int) 0)
def impl_isLeaf.l1 : Nat → List Int → List Int → Int → Int → Option (Bool)
 | 0, _, _, _, _ => none
 | k + 1, x0, x36, x37, x38 => if x38 < x37 then (if 0 ≤ x38 then (if x38 < (x36.length : Int) then (impl_isLeaf.l2 k x0 (rd x36 x38) x36 x37 x38 x0 (x0.length : Int) 0) else (none)) else (none)) else (some true)
def impl_isLeaf.l2 : Nat → List Int → Int → List Int → Int → Int → List Int → Int → Int → Option (Bool)
 | 0, _, _, _, _, _, _, _, _ => none
 | k + 1, x0, x6, x36, x37, x38, x42, x43, x44 => if x44 < x43 then (if 0 ≤ x44 then (if x44 < (x42.length : Int) then ((impl_addNear.f x6 (rd x42 x44)).bind fun t648 => ((slices_Contains_int_int.f k x0 t648).bind fun t649 => (if t649 = true then (impl_isLeaf.l2 k x0 x6 x36 x37 x38 x42 x43 (wrap64 (x44 + 1))) else (some false)))) else (none)) else (none)) else (impl_isLeaf.l1 k x0 x36 x37 (wrap64 (x38 + 1)))
end
def impl_isLeaf.f (k : Nat) (l0 : List Int) : Option (Bool) := if (l0.length : Int) = 9 then (impl_isLeaf.l0 k l0 l0 (l0.length : Int) 0) else (some false)
set_option maxHeartbeats 8000000 in
set_option maxRecDepth 100000 in
theorem impl_isLeaf.calls (k : Nat) (A0 : Option Addr) (c0 : Nat) (l0 : List Int) (r : Bool) (w : World) (hr0 : Kd.C (Kd.int .i64) w A0 l0.length l0) (hc0 : l0.length ≤ c0) (h : impl_isLeaf.f k l0 = some r) :
  Calls Try.prog 56 #[.slice A0 l0.length c0] w fun e w' => e = .returned (.bool r) ∧ Drawn0 w w' := by
 have HR0 := Aside0.mk hr0
 have HC0 := Aside0.mk hc0
 clear hr0 hc0
 have H : (if (l0.length : Int) = 9 then (impl_isLeaf.l0 k l0 l0 (l0.length : Int) 0) else (some false)) = some r := h
 clear h
 by_cases c2 : (l0.length : Int) = 9
 ·rw [if_pos c2] at H
  have c2b0 : ((l0.length : Int) == 9) = true := beq_iff_eq.mpr c2
  have c2b1 : ((l0.length : Int) != 9) = false := bne_eq_false_iff_eq.mpr c2
  clear c2
  have H' := Aside0.mk H
  clear H
  go_enter Try.func56, Try.ntmps56
  go_wp2
  go_loopg [14] k (fun kq v14 w' => ∃ (x14_1 : Int), v14 = .int .i64 x14_1 ∧ Aside0 (impl_isLeaf.l0 kq l0 l0 (l0.length : Int) x14_1 = some r) ∧ Aside0 (kq ≤ k) ∧ Drawn0 w w')
  case atStart => exact ⟨(0), (by first | rfl | (simp; done) | (simp [*]; done)), H', ⟨Nat.le_refl _⟩, by repeat (first | exact Drawn0.refl _ | apply Drawn0.step)⟩
  case round =>
   clear H'
   try clear c2
   try clear c2b0
   try clear c2b1
   try clear p2
   obtain ⟨x14_1, rfl, HA, HK1, ⟨m1, rfl⟩⟩ := hrel
   cases gk with
   | zero => exact absurd HA.out (by simp [impl_isLeaf.l0])
   | succ k1 =>
    have H := HA.out
    clear HA
    simp only [impl_isLeaf.l0] at H
    by_cases c3 : x14_1 < (l0.length : Int)
    ·rw [if_pos c3] at H
     have c3b0 : decide (x14_1 < (l0.length : Int)) = true := decide_eq_true c3
     clear c3
     by_cases c4 : 0 ≤ x14_1
     ·rw [if_pos c4] at H
      have c4b0 : decide (0 ≤ x14_1) = true := decide_eq_true c4
      clear c4
      by_cases c5 : x14_1 < (l0.length : Int)
      ·rw [if_pos c5] at H
       have c5b0 : decide (x14_1 < (l0.length : Int)) = true := decide_eq_true c5
       clear c5
       replace H := Option.bind_eq_some_iff.mp H
       obtain ⟨t644, A60, H⟩ := H
       replace H : (if t644 = true then (if x14_1 > 0 then (if 0 ≤ (wrap64 (x14_1 - 1)) then (if (wrap64 (x14_1 - 1)) < (l0.length : Int) then (if (rd l0 (wrap64 (x14_1 - 1))) ≥ (rd l0 x14_1) then (some false) else (impl_isLeaf.l0 k1 l0 l0 (l0.length : Int) (wrap64 (x14_1 + 1)))) else (none)) else (none)) else (impl_isLeaf.l0 k1 l0 l0 (l0.length : Int) (wrap64 (x14_1 + 1)))) else (some false)) = some r := H
       have A6 := Aside0.mk A60
       clear A60
       by_cases c7 : t644 = true
       ·subst c7
        have H1 : (if x14_1 > 0 then (if 0 ≤ (wrap64 (x14_1 - 1)) then (if (wrap64 (x14_1 - 1)) < (l0.length : Int) then (if (rd l0 (wrap64 (x14_1 - 1))) ≥ (rd l0 x14_1) then (some false) else (impl_isLeaf.l0 k1 l0 l0 (l0.length : Int) (wrap64 (x14_1 + 1)))) else (none)) else (none)) else (impl_isLeaf.l0 k1 l0 l0 (l0.length : Int) (wrap64 (x14_1 + 1)))) = some r := by rw [if_pos rfl] at H; exact H
        clear H
        have H := H1
        clear H1
        by_cases c8 : x14_1 > 0
        ·rw [if_pos c8] at H
         have c8b0 : decide (0 < x14_1) = true := decide_eq_true c8
         clear c8
         obtain ⟨ji9, hji9⟩ : ∃ j_ : Int, (wrap64 (x14_1 - 1)) = j_ := ⟨_, rfl⟩
         replace H : (if 0 ≤ (ji9) then (if (ji9) < (l0.length : Int) then (if (rd l0 (ji9)) ≥ (rd l0 x14_1) then (some false) else (impl_isLeaf.l0 k1 l0 l0 (l0.length : Int) (wrap64 (x14_1 + 1)))) else (none)) else (none)) = some r := by first | (rw [hji9] at H; exact H) | (simp only [hji9] at H ⊢; exact H)
         (try rw [hji9] at A6)
         have hji9w : (IntKind.i64.wrap (x14_1 - 1)) = ji9 := (i64_w _).trans hji9
         by_cases c10 : 0 ≤ (ji9)
         ·rw [if_pos c10] at H
          have c10b0 : decide (0 ≤ (ji9)) = true := decide_eq_true c10
          clear c10
          by_cases c11 : (ji9) < (l0.length : Int)
          ·rw [if_pos c11] at H
           have c11b0 : decide ((ji9) < (l0.length : Int)) = true := decide_eq_true c11
           clear c11
           by_cases c12 : (rd l0 (ji9)) ≥ (rd l0 x14_1)
           ·rw [if_pos c12] at H
            have c12b0 : decide ((rd l0 x14_1) ≤ (rd l0 (ji9))) = true := decide_eq_true c12
            clear c12
            obtain rfl := Option.some.inj H
            have p643 : 0 ≤ (x14_1 : Int) := dd_
            have q643 : x14_1 < (l0.length : Int) := dd_
            obtain ⟨ad643, e643, hx643_0⟩ := Kd.at_int HR0.out x14_1 p643 q643
            cases e643
            replace p643 := eq_true p643
            replace q643 := eq_true q643
            go_wp2_with (first | (refine goesL_ (some 20) rfl rfl Try.func60 (by kernel_rfl) rfl #[.int .i64 (rd l0 x14_1)] rfl ll_ ?_; (with_reducible refine (impl_isNear.calls (rd l0 x14_1) true _ A6.out).mono ?_); rintro e w' ⟨rfl, ⟨nd, rfl⟩⟩; refine ⟨_, rfl, ?_⟩; have p645 : 0 ≤ ((ji9) : Int) := dd_; have q645 : (ji9) < (l0.length : Int) := dd_; obtain ⟨ad645, e645, hx645_0⟩ := Kd.at_int HR0.out (ji9) p645 q645; obtain rfl : ad643 = ad645 := (by injection e645); replace p645 := eq_true p645; replace q645 := eq_true q645))
            go_ret
            exact ⟨by first | rfl | (simp; done) | (simp only [← hji9] <;> (first | rfl | simp)) | (simp [*]; done), by repeat (first | exact Drawn0.refl _ | apply Drawn0.step)⟩
           ·rw [if_neg c12] at H
            have c12b0 : decide ((rd l0 x14_1) ≤ (rd l0 (ji9))) = false := decide_eq_false c12
            clear c12
            have H' := Aside0.mk H
            clear H
            have p643 : 0 ≤ (x14_1 : Int) := dd_
            have q643 : x14_1 < (l0.length : Int) := dd_
            obtain ⟨ad643, e643, hx643_0⟩ := Kd.at_int HR0.out x14_1 p643 q643
            cases e643
            replace p643 := eq_true p643
            replace q643 := eq_true q643
            go_wp2_with (first | (refine goesL_ (some 20) rfl rfl Try.func60 (by kernel_rfl) rfl #[.int .i64 (rd l0 x14_1)] rfl ll_ ?_; (with_reducible refine (impl_isNear.calls (rd l0 x14_1) true _ A6.out).mono ?_); rintro e w' ⟨rfl, ⟨nd, rfl⟩⟩; refine ⟨_, rfl, ?_⟩; have p645 : 0 ≤ ((ji9) : Int) := dd_; have q645 : (ji9) < (l0.length : Int) := dd_; obtain ⟨ad645, e645, hx645_0⟩ := Kd.at_int HR0.out (ji9) p645 q645; obtain rfl : ad643 = ad645 := (by injection e645); replace p645 := eq_true p645; replace q645 := eq_true q645))
            go_roundg k1
            case measure => have := HK1.out; omega
            case rel => exact ⟨(wrap64 (x14_1 + 1)), (by first | rfl | (simp; done) | (simp [*]; done)), H', ⟨by have := HK1.out; omega⟩, by repeat (first | exact Drawn0.refl _ | apply Drawn0.step)⟩
          ·rw [if_neg c11] at H
           exact absurd H (by simp)
         ·rw [if_neg c10] at H
          exact absurd H (by simp)
        ·rw [if_neg c8] at H
         have c8b0 : decide (0 < x14_1) = false := decide_eq_false c8
         clear c8
         have H' := Aside0.mk H
         clear H
         have p643 : 0 ≤ (x14_1 : Int) := dd_
         have q643 : x14_1 < (l0.length : Int) := dd_
         obtain ⟨ad643, e643, hx643_0⟩ := Kd.at_int HR0.out x14_1 p643 q643
         cases e643
         replace p643 := eq_true p643
         replace q643 := eq_true q643
         go_wp2_with (first | (refine goesL_ (some 20) rfl rfl Try.func60 (by kernel_rfl) rfl #[.int .i64 (rd l0 x14_1)] rfl ll_ ?_; (with_reducible refine (impl_isNear.calls (rd l0 x14_1) true _ A6.out).mono ?_); rintro e w' ⟨rfl, ⟨nd, rfl⟩⟩; refine ⟨_, rfl, ?_⟩))
         go_roundg k1
         case measure => have := HK1.out; omega
         case rel => exact ⟨(wrap64 (x14_1 + 1)), (by first | rfl | (simp; done) | (simp [*]; done)), H', ⟨by have := HK1.out; omega⟩, by repeat (first | exact Drawn0.refl _ | apply Drawn0.step)⟩
       ·replace c7 := Bool.eq_false_iff.mpr c7
        subst c7
        have H1 : (some false) = some r := by rw [if_neg (show ¬ (false = true) by decide)] at H; exact H
        clear H
        have H := H1
        clear H1
        obtain rfl := Option.some.inj H
        have p643 : 0 ≤ (x14_1 : Int) := dd_
        have q643 : x14_1 < (l0.length : Int) := dd_
        obtain ⟨ad643, e643, hx643_0⟩ := Kd.at_int HR0.out x14_1 p643 q643
        cases e643
        replace p643 := eq_true p643
        replace q643 := eq_true q643
        go_wp2_with (first | (refine goesL_ (some 20) rfl rfl Try.func60 (by kernel_rfl) rfl #[.int .i64 (rd l0 x14_1)] rfl ll_ ?_; (with_reducible refine (impl_isNear.calls (rd l0 x14_1) false _ A6.out).mono ?_); rintro e w' ⟨rfl, ⟨nd, rfl⟩⟩; refine ⟨_, rfl, ?_⟩))
        go_ret
        exact ⟨by first | rfl | (simp; done) | (simp [*]; done), by repeat (first | exact Drawn0.refl _ | apply Drawn0.step)⟩
      ·rw [if_neg c5] at H
       exact absurd H (by simp)
     ·rw [if_neg c4] at H
      exact absurd H (by simp)
    ·rw [if_neg c3] at H
     have c3b0 : decide (x14_1 < (l0.length : Int)) = false := decide_eq_false c3
     clear c3
     have H' := Aside0.mk H
     clear H
     go_wp2
     go_loopg [38] k1 (fun kq v38 w' => ∃ (x38_2 : Int), v38 = .int .i64 x38_2 ∧ Aside0 (impl_isLeaf.l1 kq l0 l0 (l0.length : Int) x38_2 = some r) ∧ Aside0 (kq ≤ k1) ∧ Drawn0 w w')
     case atStart => exact ⟨(0), (by first | rfl | (simp; done) | (simp [*]; done)), H', ⟨Nat.le_refl _⟩, by repeat (first | exact Drawn0.refl _ | apply Drawn0.step)⟩
     case round =>
      clear H'
      try clear c1
      try clear c2
      try clear c2b0
      try clear c2b1
      try clear p2
      try clear c3
      try clear c3b0
      try clear c4
      try clear c4b0
      try clear c5
      try clear c5b0
      try clear c6
      try clear p6
      try clear q6
      try clear hx6
      try clear c7
      try clear c8
      try clear c8b0
      try clear c10
      try clear c10b0
      try clear c11
      try clear c11b0
      try clear c12
      try clear c12b0
      try clear hx643_0
      try clear hx645_0
      try clear p2
      try clear p643
      try clear p645
      try clear q643
      try clear q645
      obtain ⟨x38_2, rfl, HA, HK2, ⟨m2, rfl⟩⟩ := hrel
      cases gk with
      | zero => exact absurd HA.out (by simp [impl_isLeaf.l1])
      | succ k2 =>
       have H := HA.out
       clear HA
       simp only [impl_isLeaf.l1] at H
       by_cases c13 : x38_2 < (l0.length : Int)
       ·rw [if_pos c13] at H
        have c13b0 : decide (x38_2 < (l0.length : Int)) = true := decide_eq_true c13
        clear c13
        by_cases c14 : 0 ≤ x38_2
        ·rw [if_pos c14] at H
         have c14b0 : decide (0 ≤ x38_2) = true := decide_eq_true c14
         clear c14
         by_cases c15 : x38_2 < (l0.length : Int)
         ·rw [if_pos c15] at H
          have c15b0 : decide (x38_2 < (l0.length : Int)) = true := decide_eq_true c15
          clear c15
          have H' := Aside0.mk H
          clear H
          have p646 : 0 ≤ (x38_2 : Int) := dd_
          have q646 : x38_2 < (l0.length : Int) := dd_
          obtain ⟨ad646, e646, hx646_0⟩ := Kd.at_int HR0.out x38_2 p646 q646
          cases e646
          replace p646 := eq_true p646
          replace q646 := eq_true q646
          go_wp2
          go_loopg [44] k2 (fun kq v44 w' => ∃ (x44_3 : Int), v44 = .int .i64 x44_3 ∧ Aside0 (impl_isLeaf.l2 kq l0 (rd l0 x38_2) l0 (l0.length : Int) x38_2 l0 (l0.length : Int) x44_3 = some r) ∧ Aside0 (kq ≤ k2) ∧ Drawn0 w w')
          case atStart => exact ⟨(0), (by first | rfl | (simp; done) | (simp [*]; done)), H', ⟨Nat.le_refl _⟩, by repeat (first | exact Drawn0.refl _ | apply Drawn0.step)⟩
          case round =>
           clear H'
           try clear c1
           try clear c2
           try clear c2b0
           try clear c2b1
           try clear p2
           try clear c3
           try clear c3b0
           try clear c4
           try clear c4b0
           try clear c5
           try clear c5b0
           try clear c6
           try clear p6
           try clear q6
           try clear hx6
           try clear c7
           try clear c8
           try clear c8b0
           try clear c10
           try clear c10b0
           try clear c11
           try clear c11b0
           try clear c12
           try clear c12b0
           try clear c13
           try clear c13b0
           try clear c14
           try clear c14b0
           try clear c15
           try clear c15b0
           try clear hx643_0
           try clear hx645_0
           try clear hx646_0
           try clear p2
           try clear p6
           try clear p643
           try clear p645
           try clear p646
           try clear q6
           try clear q643
           try clear q645
           try clear q646
           obtain ⟨x44_3, rfl, HA, HK3, ⟨m3, rfl⟩⟩ := hrel
           cases gk with
           | zero => exact absurd HA.out (by simp [impl_isLeaf.l2])
           | succ k3 =>
            have H := HA.out
            clear HA
            simp only [impl_isLeaf.l2] at H
            by_cases c16 : x44_3 < (l0.length : Int)
            ·rw [if_pos c16] at H
             have c16b0 : decide (x44_3 < (l0.length : Int)) = true := decide_eq_true c16
             clear c16
             by_cases c17 : 0 ≤ x44_3
             ·rw [if_pos c17] at H
              have c17b0 : decide (0 ≤ x44_3) = true := decide_eq_true c17
              clear c17
              by_cases c18 : x44_3 < (l0.length : Int)
              ·rw [if_pos c18] at H
               have c18b0 : decide (x44_3 < (l0.length : Int)) = true := decide_eq_true c18
               clear c18
               replace H := Option.bind_eq_some_iff.mp H
               obtain ⟨t648, A190, H⟩ := H
               replace H : ((slices_Contains_int_int.f k3 l0 t648).bind fun t649 => (if t649 = true then (impl_isLeaf.l2 k3 l0 (rd l0 x38_2) l0 (l0.length : Int) x38_2 l0 (l0.length : Int) (wrap64 (x44_3 + 1))) else (some false))) = some r := H
               have A19 := Aside0.mk A190
               clear A190
               replace H := Option.bind_eq_some_iff.mp H
               obtain ⟨t649, A200, H⟩ := H
               replace H : (if t649 = true then (impl_isLeaf.l2 k3 l0 (rd l0 x38_2) l0 (l0.length : Int) x38_2 l0 (l0.length : Int) (wrap64 (x44_3 + 1))) else (some false)) = some r := H
               have A20 := Aside0.mk A200
               clear A200
               by_cases c21 : t649 = true
               ·subst c21
                have H1 : (impl_isLeaf.l2 k3 l0 (rd l0 x38_2) l0 (l0.length : Int) x38_2 l0 (l0.length : Int) (wrap64 (x44_3 + 1))) = some r := by rw [if_pos rfl] at H; exact H
                clear H
                have H := H1
                clear H1
                have H' := Aside0.mk H
                clear H
                have p647 : 0 ≤ (x44_3 : Int) := dd_
                have q647 : x44_3 < (l0.length : Int) := dd_
                obtain ⟨ad647, e647, hx647_0⟩ := Kd.at_int HR0.out x44_3 p647 q647
                obtain rfl : ad646 = ad647 := (by injection e647)
                replace p647 := eq_true p647
                replace q647 := eq_true q647
                go_wp2_with (first | (refine goesL_ (some 51) rfl rfl Try.func62 (by kernel_rfl) rfl #[.int .i64 (rd l0 x38_2), .int .i64 (rd l0 x44_3)] rfl ll_ ?_; (with_reducible refine (impl_addNear.calls (rd l0 x38_2) (rd l0 x44_3) t648 _ A19.out).mono ?_); rintro e w' ⟨rfl, ⟨nd, rfl⟩⟩; refine ⟨_, rfl, ?_⟩) | (refine goesL_ (some 52) rfl rfl Try.func61 (by kernel_rfl) rfl #[.slice (some ad646) l0.length c0, .int .i64 t648] rfl ll_ ?_; (with_reducible refine (slices_Contains_int_int.calls k3 _ _ l0 t648 true _ ?side1 ?side2 A20.out).mono ?_); (case side1 => exact ss_ HR0); (case side2 => exact HC0.out); rintro e w' ⟨rfl, ⟨nd, rfl⟩⟩; refine ⟨_, rfl, ?_⟩))
                go_roundg k3
                case measure => have := HK1.out; have := HK2.out; have := HK3.out; omega
                case rel => exact ⟨(wrap64 (x44_3 + 1)), (by first | rfl | (simp; done) | (simp [*]; done)), H', ⟨by have := HK1.out; have := HK2.out; have := HK3.out; omega⟩, by repeat (first | exact Drawn0.refl _ | apply Drawn0.step)⟩
               ·replace c21 := Bool.eq_false_iff.mpr c21
                subst c21
                have H1 : (some false) = some r := by rw [if_neg (show ¬ (false = true) by decide)] at H; exact H
                clear H
                have H := H1
                clear H1
                obtain rfl := Option.some.inj H
                have p647 : 0 ≤ (x44_3 : Int) := dd_
                have q647 : x44_3 < (l0.length : Int) := dd_
                obtain ⟨ad647, e647, hx647_0⟩ := Kd.at_int HR0.out x44_3 p647 q647
                obtain rfl : ad646 = ad647 := (by injection e647)
                replace p647 := eq_true p647
                replace q647 := eq_true q647
                go_wp2_with (first | (refine goesL_ (some 51) rfl rfl Try.func62 (by kernel_rfl) rfl #[.int .i64 (rd l0 x38_2), .int .i64 (rd l0 x44_3)] rfl ll_ ?_; (with_reducible refine (impl_addNear.calls (rd l0 x38_2) (rd l0 x44_3) t648 _ A19.out).mono ?_); rintro e w' ⟨rfl, ⟨nd, rfl⟩⟩; refine ⟨_, rfl, ?_⟩) | (refine goesL_ (some 52) rfl rfl Try.func61 (by kernel_rfl) rfl #[.slice (some ad646) l0.length c0, .int .i64 t648] rfl ll_ ?_; (with_reducible refine (slices_Contains_int_int.calls k3 _ _ l0 t648 false _ ?side1 ?side2 A20.out).mono ?_); (case side1 => exact ss_ HR0); (case side2 => exact HC0.out); rintro e w' ⟨rfl, ⟨nd, rfl⟩⟩; refine ⟨_, rfl, ?_⟩))
                go_ret
                exact ⟨by first | rfl | (simp; done) | (simp [*]; done), by repeat (first | exact Drawn0.refl _ | apply Drawn0.step)⟩
              ·rw [if_neg c18] at H
               exact absurd H (by simp)
             ·rw [if_neg c17] at H
              exact absurd H (by simp)
            ·rw [if_neg c16] at H
             have c16b0 : decide (x44_3 < (l0.length : Int)) = false := decide_eq_false c16
             clear c16
             have H' := Aside0.mk H
             clear H
             go_wp2
             go_roundg k3
             case measure => have := HK1.out; have := HK2.out; have := HK3.out; omega
             case rel => exact ⟨(wrap64 (x38_2 + 1)), (by first | rfl | (simp; done) | (simp [*]; done)), H', ⟨by have := HK1.out; have := HK2.out; have := HK3.out; omega⟩, by repeat (first | exact Drawn0.refl _ | apply Drawn0.step)⟩
         ·rw [if_neg c15] at H
          exact absurd H (by simp)
        ·rw [if_neg c14] at H
         exact absurd H (by simp)
       ·rw [if_neg c13] at H
        have c13b0 : decide (x38_2 < (l0.length : Int)) = false := decide_eq_false c13
        clear c13
        obtain rfl := Option.some.inj H
        go_wp2
        go_ret
        exact ⟨by first | rfl | (simp; done) | (simp [*]; done), by repeat (first | exact Drawn0.refl _ | apply Drawn0.step)⟩
 ·rw [if_neg c2] at H
  have c2b0 : ((l0.length : Int) == 9) = false := beq_eq_false_iff_ne.mpr c2
  have c2b1 : ((l0.length : Int) != 9) = true := bne_iff_ne.mpr c2
  obtain rfl := Option.some.inj H
  go_enter Try.func56, Try.ntmps56
  go_wp2
  go_ret
  exact ⟨by first | rfl | (simp; done) | (simp [*]; done), by repeat (first | exact Drawn0.refl _ | apply Drawn0.step)⟩
end Go.Proofs.Ytbfafjejmljcpaa.P

set_option linter.unusedVariables false
set_option linter.unusedSimpArgs false
namespace Go.Proofs.Ytbfafjejmljcpaa.X
open Go.RowKit Go.Proofs.YtbfafjejmljcpaaW.PrintWords Go.Proofs.YtbfafjejmljcpaaW.PrintLast Go.Proofs.Ytbfafjejmljcpaa.P

def nearB (p : Int) : Bool := decide (0 ≤ p) && decide (p < 81)
theorem nearB_iff {p : Int} : nearB p = true ↔ 0 ≤ p ∧ p < 81 := by simp [nearB]
def addF (p q : Int) : Int := 9 * addN (p / 9) (q / 9) + addN (p % 9) (q % 9)
theorem addF_range (p q : Int) : 0 ≤ addF p q ∧ addF p q < 81 := by
  unfold addF
  have := addN_range (p / 9) (q / 9)
  have := addN_range (p % 9) (q % 9)
  omega
def stepB (l : List Int) (i : Int) : Bool := nearB (rd l i) && (!decide (0 < i) || decide (rd l (i - 1) < rd l i))
def sumB (l : List Int) (i k : Int) : Bool := decide (addF (rd l i) (rd l k) ∈ l)
def leafB (l : List Int) : Bool := decide (l.length = 9) && (allI 9 (stepB l) && allI 9 fun i => allI 9 fun k => sumB l i k)
theorem leafB_hit1 {l : List Int} {i : Int} (h0 : 0 ≤ i) (h1 : i < 9) (h : stepB l i = false) : leafB l = false := by
  have : allI 9 (stepB l) = false := by
    cases e : allI 9 (stepB l) with
    | false => rfl
    | true => have := allI_int e i h0 h1; rw [h] at this; exact absurd this (by decide)
  unfold leafB; rw [this, Bool.false_and, Bool.and_false]
theorem leafB_hit2 {l : List Int} {i k : Int} (h0 : 0 ≤ i) (h1 : i < 9) (k0 : 0 ≤ k) (k1 : k < 9) (h : sumB l i k = false) : leafB l = false := by
  have : (allI 9 fun i => allI 9 fun k => sumB l i k) = false := by
    cases e : (allI 9 fun i => allI 9 fun k => sumB l i k) with
    | false => rfl
    | true => have := allI_int (allI_int e i h0 h1) k k0 k1; rw [h] at this; exact absurd this (by decide)
  unfold leafB; rw [this, Bool.and_false, Bool.and_false]
theorem leafB_all {l : List Int} (hl : l.length = 9) (h1 : ∀ i : Int, 0 ≤ i → i < 9 → stepB l i = true) (h2 : ∀ i k : Int, 0 ≤ i → i < 9 → 0 ≤ k → k < 9 → sumB l i k = true) : leafB l = true := by
  unfold leafB
  rw [decide_eq_true hl, allI_int_iff.2 h1, allI_int_iff.2 fun i i0 i1 => allI_int_iff.2 fun k k0 k1 => h2 i k i0 i1 k0 k1]; rfl
theorem l6lHas_loop (l : List Int) (hl : l.length ≤ 1048576) (x : Int) (d : Nat) : ∀ (i : Int), 0 ≤ i → i + d = l.length → (∀ j : Nat, (j : Int) < i → rd l (j : Int) ≠ x) → Ev (fun k => spec_l6lHas.l0 k l x i) (decide (x ∈ l)) := by
  induction d with
  | zero =>
    intro i h0 h1 h
    refine Ev.step (fun k => by rw [spec_l6lHas.l0]) ?_
    refine Ev.neg (by omega) (Ev.done ?_)
    rw [has_false fun j hj => h j (by omega)]
  | succ d ih =>
    intro i h0 h1 h
    refine Ev.step (fun k => by rw [spec_l6lHas.l0]) ?_
    simp (disch := omega) only [w64]
    refine Ev.pos (by omega) (Ev.pos (by omega) ?_)
    by_cases e : rd l i = x
    · refine Ev.pos e (Ev.done ?_)
      rw [decide_eq_true (e ▸ rd_mem (by omega) h0)]
    · refine Ev.neg e (ih (i + 1) (by omega) (by omega) fun j hj => ?_)
      by_cases ej : (j : Int) = i
      · rw [ej]; exact e
      · exact h j (by omega)
theorem l6lHas_ev (l : List Int) (hl : l.length ≤ 1048576) (x : Int) : Ev (fun k => spec_l6lHas.f k l x) (decide (x ∈ l)) :=
  l6lHas_loop l hl x l.length 0 (by omega) (by omega) (fun j h => by omega)
theorem l6lAdd_eq {p q : Int} (hp : nearB p = true) (hq : nearB q = true) : spec_l6lAdd.f p q = some (addF p q) := by
  obtain ⟨p0, p1⟩ := nearB_iff.1 hp
  obtain ⟨q0, q1⟩ := nearB_iff.1 hq
  have h1 := spec_l1Add_eq (p / 9) (q / 9) ⟨by omega, by omega⟩ ⟨by omega, by omega⟩
  have h2 := spec_l1Add_eq (p % 9) (q % 9) ⟨by omega, by omega⟩ ⟨by omega, by omega⟩
  obtain ⟨r0, r1⟩ := addN_range (p / 9) (q / 9)
  obtain ⟨s0, s1⟩ := addN_range (p % 9) (q % 9)
  unfold spec_l6lAdd.f addF
  simp (disch := omega) only [w64, tdiv_nn, tmod_nn, h1, h2, Option.bind_some]
theorem addNear_eq {p q : Int} (hp : nearB p = true) (hq : nearB q = true) : impl_addNear.f p q = some (addF p q) := by
  obtain ⟨p0, p1⟩ := nearB_iff.1 hp
  obtain ⟨q0, q1⟩ := nearB_iff.1 hq
  have h1 := impl_add_eq (p / 9) (q / 9) ⟨by omega, by omega⟩ ⟨by omega, by omega⟩
  have h2 := impl_add_eq (p % 9) (q % 9) ⟨by omega, by omega⟩ ⟨by omega, by omega⟩
  obtain ⟨r0, r1⟩ := addN_range (p / 9) (q / 9)
  obtain ⟨s0, s1⟩ := addN_range (p % 9) (q % 9)
  unfold impl_addNear.f addF
  simp (disch := omega) only [w64, tdiv_nn, tmod_nn, h1, h2, Option.bind_some]
theorem isNear_eq (p : Int) : impl_isNear.f p = some (nearB p) := by
  unfold impl_isNear.f nearB
  by_cases h : p ≥ 0
  · rw [if_pos h, decide_eq_true h]; simp
  · rw [if_neg h, decide_eq_false h]; simp
theorem l6In80 (p : Int) : spec_l6In.f p 0 80 = some (nearB p) := by
  unfold spec_l6In.f nearB
  by_cases h : p ≥ 0
  · rw [if_pos h, decide_eq_true h, Bool.true_and, show decide (p ≤ 80) = decide (p < 81) from decide_eq_decide.2 (by omega)]
  · rw [if_neg h, decide_eq_false h]; simp
theorem specLeaf_l2 (l : List Int) (hl : l.length = 9) (hs : ∀ i : Int, 0 ≤ i → i < 9 → stepB l i = true) (i : Int) (i0 : 0 ≤ i) (i1 : i < 9) (hr : (∀ k : Int, 0 ≤ k → k < 9 → sumB l i k = true) → Ev (fun n => spec_LeafIn.l1 n l (i + 1)) (leafB l)) (d : Nat) :
    ∀ (j : Int), 0 ≤ j → j + d = 9 → (∀ k : Int, 0 ≤ k → k < j → sumB l i k = true) → Ev (fun n => spec_LeafIn.l2 n l i j) (leafB l) := by
  induction d with
  | zero =>
    intro j h0 h1 h
    refine Ev.step (fun k => by rw [spec_LeafIn.l2]) ?_
    simp (disch := omega) only [w64]
    exact Ev.neg (by omega) (hr fun k k0 k1 => h k k0 (by omega))
  | succ d ih =>
    intro j h0 h1 h
    have n1 := hs i i0 i1
    have n2 := hs j h0 (by omega)
    unfold stepB at n1 n2
    have ha := l6lAdd_eq (Bool.and_eq_true _ _ ▸ n1).1 (Bool.and_eq_true _ _ ▸ n2).1
    refine Ev.step (fun k => by rw [spec_LeafIn.l2]) ?_
    simp (disch := omega) only [w64, ha, Option.bind_some]
    refine Ev.pos (by omega) (Ev.pos (by omega) (Ev.pos (by omega) (Ev.pos (by omega) (Ev.pos (by omega) (Ev.bind (l6lHas_ev l (by omega) _) ?_)))))
    by_cases e : sumB l i j = true
    · refine Ev.pos e (ih (j + 1) (by omega) (by omega) fun k k0 k1 => ?_)
      by_cases ek : k = j
      · rw [ek]; exact e
      · exact h k k0 (by omega)
    · refine Ev.neg e (Ev.done ?_)
      rw [leafB_hit2 i0 i1 h0 (by omega) (Bool.eq_false_iff.2 e)]
theorem specLeaf_l1 (l : List Int) (hl : l.length = 9) (hs : ∀ i : Int, 0 ≤ i → i < 9 → stepB l i = true) (d : Nat) : ∀ (i : Int), 0 ≤ i → i + d = 9 → (∀ x k : Int, 0 ≤ x → x < i → 0 ≤ k → k < 9 → sumB l x k = true) → Ev (fun n => spec_LeafIn.l1 n l i) (leafB l) := by
  induction d with
  | zero =>
    intro i h0 h1 h
    refine Ev.step (fun k => by rw [spec_LeafIn.l1]) ?_
    refine Ev.neg (by omega) (Ev.done ?_)
    rw [leafB_all hl hs fun x k x0 x1 k0 k1 => h x k x0 (by omega) k0 k1]
  | succ d ih =>
    intro i h0 h1 h
    refine Ev.step (fun k => by rw [spec_LeafIn.l1]) ?_
    refine Ev.pos (by omega) ?_
    refine specLeaf_l2 l hl hs i h0 (by omega) (fun hk => ih (i + 1) (by omega) (by omega) fun x k x0 x1 k0 k1 => ?_) 9 0 (by omega) (by omega) (fun k h0 h1 => by omega)
    by_cases e : x = i
    · rw [e]; exact hk k k0 k1
    · exact h x k x0 (by omega) k0 k1
theorem specLeaf_l0 (l : List Int) (hl : l.length = 9) (d : Nat) : ∀ (i : Int), 0 ≤ i → i + d = 9 → (∀ x : Int, 0 ≤ x → x < i → stepB l x = true) → Ev (fun n => spec_LeafIn.l0 n l i) (leafB l) := by
  induction d with
  | zero =>
    intro i h0 h1 h
    refine Ev.step (fun k => by rw [spec_LeafIn.l0]) ?_
    refine Ev.neg (by omega) ?_
    exact specLeaf_l1 l hl (fun x x0 x1 => h x x0 (by omega)) 9 0 (by omega) (by omega) (fun x k h0 h1 => by omega)
  | succ d ih =>
    intro i h0 h1 h
    have hst : stepB l i = (nearB (rd l i) && (!decide (0 < i) || decide (rd l (i - 1) < rd l i))) := rfl
    refine Ev.step (fun k => by rw [spec_LeafIn.l0]) ?_
    simp (disch := omega) only [w64, l6In80, Option.bind_some]
    refine Ev.pos (by omega) (Ev.pos (by omega) (Ev.pos (by omega) ?_))
    by_cases e1 : nearB (rd l i) = true
    case neg => exact Ev.neg e1 (Ev.done (by rw [leafB_hit1 h0 (by omega) (by rw [hst, Bool.eq_false_iff.2 e1]; rfl)]))
    refine Ev.pos e1 ?_
    have next : stepB l i = true → Ev (fun n => spec_LeafIn.l0 n l (i + 1)) (leafB l) := fun hs => ih (i + 1) (by omega) (by omega) fun x x0 x1 => by
      by_cases e : x = i
      · rw [e]; exact hs
      · exact h x x0 (by omega)
    by_cases hi : i > 0
    · refine Ev.pos hi (Ev.pos (by omega) (Ev.pos (by omega) ?_))
      by_cases e2 : rd l i ≤ rd l (i - 1)
      · refine Ev.pos e2 (Ev.done ?_)
        rw [leafB_hit1 h0 (by omega) (by rw [hst, decide_eq_true hi, decide_eq_false (by omega)]; simp)]
      · refine Ev.neg e2 (next ?_)
        rw [hst, e1, decide_eq_true (show rd l (i - 1) < rd l i by omega)]; simp
    · refine Ev.neg hi (next ?_)
      rw [hst, e1, decide_eq_false (show ¬ 0 < i by omega)]; rfl
theorem specLeaf_ev (l : List Int) : Ev (fun k => spec_LeafIn.f k l) (leafB l) := by
  unfold spec_LeafIn.f
  by_cases hl : l.length = 9
  · exact Ev.pos (by omega) (specLeaf_l0 l hl 9 0 (by omega) (by omega) (fun x h0 h1 => by omega))
  · refine Ev.neg (by omega) (Ev.done ?_)
    unfold leafB; rw [decide_eq_false hl]; rfl
theorem implLeaf_l2 (l : List Int) (hl : l.length = 9) (hs : ∀ i : Int, 0 ≤ i → i < 9 → stepB l i = true) (i : Int) (i0 : 0 ≤ i) (i1 : i < 9) (hr : (∀ k : Int, 0 ≤ k → k < 9 → sumB l i k = true) → Ev (fun n => impl_isLeaf.l1 n l l (l.length : Int) (i + 1)) (leafB l)) (d : Nat) :
    ∀ (j : Int), 0 ≤ j → j + d = 9 → (∀ k : Int, 0 ≤ k → k < j → sumB l i k = true) → Ev (fun n => impl_isLeaf.l2 n l (rd l i) l (l.length : Int) i l (l.length : Int) j) (leafB l) := by
  induction d with
  | zero =>
    intro j h0 h1 h
    refine Ev.step (fun k => by rw [impl_isLeaf.l2]) ?_
    simp (disch := omega) only [w64]
    exact Ev.neg (by omega) (hr fun k k0 k1 => h k k0 (by omega))
  | succ d ih =>
    intro j h0 h1 h
    have n1 := hs i i0 i1
    have n2 := hs j h0 (by omega)
    unfold stepB at n1 n2
    have ha := addNear_eq (Bool.and_eq_true _ _ ▸ n1).1 (Bool.and_eq_true _ _ ▸ n2).1
    refine Ev.step (fun k => by rw [impl_isLeaf.l2]) ?_
    simp (disch := omega) only [w64, ha, Option.bind_some]
    refine Ev.pos (by omega) (Ev.pos (by omega) (Ev.pos (by omega) (Ev.bind (contains_ev l (by omega) _) ?_)))
    by_cases e : sumB l i j = true
    · refine Ev.pos e (ih (j + 1) (by omega) (by omega) fun k k0 k1 => ?_)
      by_cases ek : k = j
      · rw [ek]; exact e
      · exact h k k0 (by omega)
    · refine Ev.neg e (Ev.done ?_)
      rw [leafB_hit2 i0 i1 h0 (by omega) (Bool.eq_false_iff.2 e)]
theorem implLeaf_l1 (l : List Int) (hl : l.length = 9) (hs : ∀ i : Int, 0 ≤ i → i < 9 → stepB l i = true) (d : Nat) : ∀ (i : Int), 0 ≤ i → i + d = 9 → (∀ x k : Int, 0 ≤ x → x < i → 0 ≤ k → k < 9 → sumB l x k = true) → Ev (fun n => impl_isLeaf.l1 n l l (l.length : Int) i) (leafB l) := by
  induction d with
  | zero =>
    intro i h0 h1 h
    refine Ev.step (fun k => by rw [impl_isLeaf.l1]) ?_
    refine Ev.neg (by omega) (Ev.done ?_)
    rw [leafB_all hl hs fun x k x0 x1 k0 k1 => h x k x0 (by omega) k0 k1]
  | succ d ih =>
    intro i h0 h1 h
    refine Ev.step (fun k => by rw [impl_isLeaf.l1]) ?_
    refine Ev.pos (by omega) (Ev.pos (by omega) (Ev.pos (by omega) ?_))
    refine implLeaf_l2 l hl hs i h0 (by omega) (fun hk => ih (i + 1) (by omega) (by omega) fun x k x0 x1 k0 k1 => ?_) 9 0 (by omega) (by omega) (fun k h0 h1 => by omega)
    by_cases e : x = i
    · rw [e]; exact hk k k0 k1
    · exact h x k x0 (by omega) k0 k1
theorem implLeaf_l0 (l : List Int) (hl : l.length = 9) (d : Nat) : ∀ (i : Int), 0 ≤ i → i + d = 9 → (∀ x : Int, 0 ≤ x → x < i → stepB l x = true) → Ev (fun n => impl_isLeaf.l0 n l l (l.length : Int) i) (leafB l) := by
  induction d with
  | zero =>
    intro i h0 h1 h
    refine Ev.step (fun k => by rw [impl_isLeaf.l0]) ?_
    refine Ev.neg (by omega) ?_
    exact implLeaf_l1 l hl (fun x x0 x1 => h x x0 (by omega)) 9 0 (by omega) (by omega) (fun x k h0 h1 => by omega)
  | succ d ih =>
    intro i h0 h1 h
    have hst : stepB l i = (nearB (rd l i) && (!decide (0 < i) || decide (rd l (i - 1) < rd l i))) := rfl
    refine Ev.step (fun k => by rw [impl_isLeaf.l0]) ?_
    simp (disch := omega) only [w64, isNear_eq, Option.bind_some]
    refine Ev.pos (by omega) (Ev.pos (by omega) (Ev.pos (by omega) ?_))
    by_cases e1 : nearB (rd l i) = true
    case neg => exact Ev.neg e1 (Ev.done (by rw [leafB_hit1 h0 (by omega) (by rw [hst, Bool.eq_false_iff.2 e1]; rfl)]))
    refine Ev.pos e1 ?_
    have next : stepB l i = true → Ev (fun n => impl_isLeaf.l0 n l l (l.length : Int) (i + 1)) (leafB l) := fun hs => ih (i + 1) (by omega) (by omega) fun x x0 x1 => by
      by_cases e : x = i
      · rw [e]; exact hs
      · exact h x x0 (by omega)
    by_cases hi : i > 0
    · refine Ev.pos hi (Ev.pos (by omega) (Ev.pos (by omega) ?_))
      by_cases e2 : rd l (i - 1) ≥ rd l i
      · refine Ev.pos e2 (Ev.done ?_)
        rw [leafB_hit1 h0 (by omega) (by rw [hst, decide_eq_true hi, decide_eq_false (by omega)]; simp)]
      · refine Ev.neg e2 (next ?_)
        rw [hst, e1, decide_eq_true (show rd l (i - 1) < rd l i by omega)]; simp
    · refine Ev.neg hi (next ?_)
      rw [hst, e1, decide_eq_false (show ¬ 0 < i by omega)]; rfl
theorem implLeaf_ev (l : List Int) : Ev (fun k => impl_isLeaf.f k l) (leafB l) := by
  unfold impl_isLeaf.f
  by_cases hl : l.length = 9
  · exact Ev.pos (by omega) (implLeaf_l0 l hl 9 0 (by omega) (by omega) (fun x h0 h1 => by omega))
  · refine Ev.neg (by omega) (Ev.done ?_)
    unfold leafB; rw [decide_eq_false hl]; rfl
end Go.Proofs.Ytbfafjejmljcpaa.X

set_option linter.unusedVariables false
set_option linter.unusedSimpArgs false
namespace Go.Proofs.Ytbfafjejmljcpaa.X
open Go.RowKit Go.Proofs.YtbfafjejmljcpaaW.PrintWords

def firstI (n : Nat) (p : Int → Bool) : Int := match (List.range n).find? fun (i : Nat) => p (i : Int) with | some i => (i : Int) | none => -1
theorem firstI_none {n : Nat} {p : Int → Bool} (h : ∀ i : Int, 0 ≤ i → i < n → p i = false) : firstI n p = -1 := by
  have : ((List.range n).find? fun (i : Nat) => p (i : Int)) = none := by
    rw [List.find?_eq_none]
    intro i hi
    rw [h i (by omega) (by have := List.mem_range.1 hi; omega)]; simp
  unfold firstI; rw [this]
theorem firstI_some {n : Nat} {p : Int → Bool} (i : Int) (h0 : 0 ≤ i) (h1 : i < n) (hp : p i = true) (h : ∀ j : Int, 0 ≤ j → j < i → p j = false) : firstI n p = i := by
  have : ((List.range n).find? fun (i : Nat) => p (i : Int)) = some i.toNat := by
    rw [List.find?_range_eq_some]
    refine ⟨by rw [Int.toNat_of_nonneg h0]; exact hp, List.mem_range.2 (by omega), fun j hj => ?_⟩
    rw [h j (by omega) (by omega)]; rfl
  unfold firstI; rw [this]; show ((i.toNat : Nat) : Int) = i; omega
theorem firstI_spec {n : Nat} {p : Int → Bool} (i : Int) (h0 : 0 ≤ i) (h1 : i < n) (hp : p i = true) : 0 ≤ firstI n p ∧ firstI n p < n ∧ p (firstI n p) = true ∧ firstI n p ≤ i := by
  cases e : ((List.range n).find? fun (i : Nat) => p (i : Int)) with
  | none =>
    rw [List.find?_eq_none] at e
    have := e i.toNat (List.mem_range.2 (by omega))
    rw [Int.toNat_of_nonneg h0, hp] at this; exact absurd rfl this
  | some j =>
    rw [List.find?_range_eq_some] at e
    obtain ⟨h2, h3, h4⟩ := e
    have hj : firstI n p = (j : Int) := by
      unfold firstI
      rw [show ((List.range n).find? fun (i : Nat) => p (i : Int)) = some j from List.find?_range_eq_some.2 ⟨h2, h3, h4⟩]
    have hjn := List.mem_range.1 h3
    rw [hj]
    refine ⟨by omega, by omega, h2, ?_⟩
    rcases Int.lt_or_le i (j : Int) with hlt | hle
    · have := h4 i.toNat (by omega)
      rw [Int.toNat_of_nonneg h0, hp] at this; exact absurd this (by decide)
    · exact hle
theorem sysB_parts {t : List Int} (h : sysB t = true) : ninesB t 81 = true ∧ unitsB t = true ∧ sharesB t = true ∧ solvesB t = true := by
  unfold sysB at h
  simp only [Bool.and_eq_true] at h
  exact h
end Go.Proofs.Ytbfafjejmljcpaa.X

namespace Go.Proofs.Ytbfafjejmljcpaa.P
open Go.RowKit Go.Proofs.YtbfafjejmljcpaaW.PrintWords Go.Proofs.YtbfafjejmljcpaaW.PrintLast
set_option linter.unusedVariables false
set_option linter.unusedSimpArgs false

def cmp_isNaN_int.f (a0 : Int) : Option (Bool) := some (a0 != a0)
set_option maxHeartbeats 8000000 in
set_option maxRecDepth 100000 in
theorem cmp_isNaN_int.calls (a0 : Int) (r : Bool) (w : World) (h : cmp_isNaN_int.f a0 = some r) :
  Calls Try.prog 126 #[.int .i64 a0] w fun e w' => e = .returned (.bool r) ∧ Drawn0 w w' := by
 have H : (some (a0 != a0)) = some r := h
 clear h
 obtain rfl := Option.some.inj H
 go_enter Try.func126, Try.ntmps126
 go_wp2
 go_ret
 exact ⟨by first | rfl | (simp; done) | (simp [*]; done), by repeat (first | exact Drawn0.refl _ | apply Drawn0.step)⟩
end Go.Proofs.Ytbfafjejmljcpaa.P

namespace Go.Proofs.Ytbfafjejmljcpaa.P
open Go.RowKit Go.Proofs.YtbfafjejmljcpaaW.PrintWords Go.Proofs.YtbfafjejmljcpaaW.PrintLast
set_option linter.unusedVariables false
set_option linter.unusedSimpArgs false

def cmp_Compare_int.f (a0 : Int) (a1 : Int) : Option (Int) := (cmp_isNaN_int.f a0).bind fun t650 => ((cmp_isNaN_int.f a1).bind fun t651 => (if t650 = true then (if t651 = true then (some 0) else (some (-1))) else (if t651 = true then (some 1) else (if a0 < a1 then (some (-1)) else (if a0 > a1 then (some 1) else (some 0))))))
set_option maxHeartbeats 8000000 in
set_option maxRecDepth 100000 in
theorem cmp_Compare_int.calls (a0 : Int) (a1 : Int) (r : Int) (w : World) (h : cmp_Compare_int.f a0 a1 = some r) :
  Calls Try.prog 119 #[.int .i64 a0, .int .i64 a1] w fun e w' => e = .returned (.int .i64 r) ∧ Drawn0 w w' := by
 have H : ((cmp_isNaN_int.f a0).bind fun t650 => ((cmp_isNaN_int.f a1).bind fun t651 => (if t650 = true then (if t651 = true then (some 0) else (some (-1))) else (if t651 = true then (some 1) else (if a0 < a1 then (some (-1)) else (if a0 > a1 then (some 1) else (some 0))))))) = some r := h
 clear h
 replace H := Option.bind_eq_some_iff.mp H
 obtain ⟨t650, A30, H⟩ := H
 replace H : ((cmp_isNaN_int.f a1).bind fun t651 => (if t650 = true then (if t651 = true then (some 0) else (some (-1))) else (if t651 = true then (some 1) else (if a0 < a1 then (some (-1)) else (if a0 > a1 then (some 1) else (some 0)))))) = some r := H
 have A3 := Aside0.mk A30
 clear A30
 replace H := Option.bind_eq_some_iff.mp H
 obtain ⟨t651, A40, H⟩ := H
 replace H : (if t650 = true then (if t651 = true then (some 0) else (some (-1))) else (if t651 = true then (some 1) else (if a0 < a1 then (some (-1)) else (if a0 > a1 then (some 1) else (some 0))))) = some r := H
 have A4 := Aside0.mk A40
 clear A40
 by_cases c5 : t650 = true
 ·subst c5
  have H1 : (if t651 = true then (some 0) else (some (-1))) = some r := by rw [if_pos rfl] at H; exact H
  clear H
  have H := H1
  clear H1
  by_cases c6 : t651 = true
  ·subst c6
   have H1 : (some 0) = some r := by rw [if_pos rfl] at H; exact H
   clear H
   have H := H1
   clear H1
   obtain rfl := Option.some.inj H
   go_enter Try.func119, Try.ntmps119
   go_wp2_with (first | (refine goesL_ (some 8) rfl rfl Try.func126 (by kernel_rfl) rfl #[.int .i64 a0] rfl ll_ ?_; (with_reducible refine (cmp_isNaN_int.calls a0 true _ A3.out).mono ?_); rintro e w' ⟨rfl, ⟨nd, rfl⟩⟩; refine ⟨_, rfl, ?_⟩) | (refine goesL_ (some 10) rfl rfl Try.func126 (by kernel_rfl) rfl #[.int .i64 a1] rfl ll_ ?_; (with_reducible refine (cmp_isNaN_int.calls a1 true _ A4.out).mono ?_); rintro e w' ⟨rfl, ⟨nd, rfl⟩⟩; refine ⟨_, rfl, ?_⟩))
   go_ret
   exact ⟨by first | rfl | (simp; done) | (simp [*]; done), by repeat (first | exact Drawn0.refl _ | apply Drawn0.step)⟩
  ·replace c6 := Bool.eq_false_iff.mpr c6
   subst c6
   have H1 : (some (-1)) = some r := by rw [if_neg (show ¬ (false = true) by decide)] at H; exact H
   clear H
   have H := H1
   clear H1
   obtain rfl := Option.some.inj H
   go_enter Try.func119, Try.ntmps119
   go_wp2_with (first | (refine goesL_ (some 8) rfl rfl Try.func126 (by kernel_rfl) rfl #[.int .i64 a0] rfl ll_ ?_; (with_reducible refine (cmp_isNaN_int.calls a0 true _ A3.out).mono ?_); rintro e w' ⟨rfl, ⟨nd, rfl⟩⟩; refine ⟨_, rfl, ?_⟩) | (refine goesL_ (some 10) rfl rfl Try.func126 (by kernel_rfl) rfl #[.int .i64 a1] rfl ll_ ?_; (with_reducible refine (cmp_isNaN_int.calls a1 false _ A4.out).mono ?_); rintro e w' ⟨rfl, ⟨nd, rfl⟩⟩; refine ⟨_, rfl, ?_⟩))
   go_ret
   exact ⟨by first | rfl | (simp; done) | (simp [*]; done), by repeat (first | exact Drawn0.refl _ | apply Drawn0.step)⟩
 ·replace c5 := Bool.eq_false_iff.mpr c5
  subst c5
  have H1 : (if t651 = true then (some 1) else (if a0 < a1 then (some (-1)) else (if a0 > a1 then (some 1) else (some 0)))) = some r := by rw [if_neg (show ¬ (false = true) by decide)] at H; exact H
  clear H
  have H := H1
  clear H1
  by_cases c7 : t651 = true
  ·subst c7
   have H1 : (some 1) = some r := by rw [if_pos rfl] at H; exact H
   clear H
   have H := H1
   clear H1
   obtain rfl := Option.some.inj H
   go_enter Try.func119, Try.ntmps119
   go_wp2_with (first | (refine goesL_ (some 8) rfl rfl Try.func126 (by kernel_rfl) rfl #[.int .i64 a0] rfl ll_ ?_; (with_reducible refine (cmp_isNaN_int.calls a0 false _ A3.out).mono ?_); rintro e w' ⟨rfl, ⟨nd, rfl⟩⟩; refine ⟨_, rfl, ?_⟩) | (refine goesL_ (some 10) rfl rfl Try.func126 (by kernel_rfl) rfl #[.int .i64 a1] rfl ll_ ?_; (with_reducible refine (cmp_isNaN_int.calls a1 true _ A4.out).mono ?_); rintro e w' ⟨rfl, ⟨nd, rfl⟩⟩; refine ⟨_, rfl, ?_⟩))
   go_ret
   exact ⟨by first | rfl | (simp; done) | (simp [*]; done), by repeat (first | exact Drawn0.refl _ | apply Drawn0.step)⟩
  ·replace c7 := Bool.eq_false_iff.mpr c7
   subst c7
   have H1 : (if a0 < a1 then (some (-1)) else (if a0 > a1 then (some 1) else (some 0))) = some r := by rw [if_neg (show ¬ (false = true) by decide)] at H; exact H
   clear H
   have H := H1
   clear H1
   by_cases c8 : a0 < a1
   ·rw [if_pos c8] at H
    have c8b0 : decide (a0 < a1) = true := decide_eq_true c8
    clear c8
    obtain rfl := Option.some.inj H
    go_enter Try.func119, Try.ntmps119
    go_wp2_with (first | (refine goesL_ (some 8) rfl rfl Try.func126 (by kernel_rfl) rfl #[.int .i64 a0] rfl ll_ ?_; (with_reducible refine (cmp_isNaN_int.calls a0 false _ A3.out).mono ?_); rintro e w' ⟨rfl, ⟨nd, rfl⟩⟩; refine ⟨_, rfl, ?_⟩) | (refine goesL_ (some 10) rfl rfl Try.func126 (by kernel_rfl) rfl #[.int .i64 a1] rfl ll_ ?_; (with_reducible refine (cmp_isNaN_int.calls a1 false _ A4.out).mono ?_); rintro e w' ⟨rfl, ⟨nd, rfl⟩⟩; refine ⟨_, rfl, ?_⟩))
    go_ret
    exact ⟨by first | rfl | (simp; done) | (simp [*]; done), by repeat (first | exact Drawn0.refl _ | apply Drawn0.step)⟩
   ·rw [if_neg c8] at H
    have c8b0 : decide (a0 < a1) = false := decide_eq_false c8
    clear c8
    by_cases c9 : a0 > a1
    ·rw [if_pos c9] at H
     have c9b0 : decide (a1 < a0) = true := decide_eq_true c9
     clear c9
     obtain rfl := Option.some.inj H
     go_enter Try.func119, Try.ntmps119
     go_wp2_with (first | (refine goesL_ (some 8) rfl rfl Try.func126 (by kernel_rfl) rfl #[.int .i64 a0] rfl ll_ ?_; (with_reducible refine (cmp_isNaN_int.calls a0 false _ A3.out).mono ?_); rintro e w' ⟨rfl, ⟨nd, rfl⟩⟩; refine ⟨_, rfl, ?_⟩) | (refine goesL_ (some 10) rfl rfl Try.func126 (by kernel_rfl) rfl #[.int .i64 a1] rfl ll_ ?_; (with_reducible refine (cmp_isNaN_int.calls a1 false _ A4.out).mono ?_); rintro e w' ⟨rfl, ⟨nd, rfl⟩⟩; refine ⟨_, rfl, ?_⟩))
     go_ret
     exact ⟨by first | rfl | (simp; done) | (simp [*]; done), by repeat (first | exact Drawn0.refl _ | apply Drawn0.step)⟩
    ·rw [if_neg c9] at H
     have c9b0 : decide (a1 < a0) = false := decide_eq_false c9
     clear c9
     obtain rfl := Option.some.inj H
     go_enter Try.func119, Try.ntmps119
     go_wp2_with (first | (refine goesL_ (some 8) rfl rfl Try.func126 (by kernel_rfl) rfl #[.int .i64 a0] rfl ll_ ?_; (with_reducible refine (cmp_isNaN_int.calls a0 false _ A3.out).mono ?_); rintro e w' ⟨rfl, ⟨nd, rfl⟩⟩; refine ⟨_, rfl, ?_⟩) | (refine goesL_ (some 10) rfl rfl Try.func126 (by kernel_rfl) rfl #[.int .i64 a1] rfl ll_ ?_; (with_reducible refine (cmp_isNaN_int.calls a1 false _ A4.out).mono ?_); rintro e w' ⟨rfl, ⟨nd, rfl⟩⟩; refine ⟨_, rfl, ?_⟩))
     go_ret
     exact ⟨by first | rfl | (simp; done) | (simp [*]; done), by repeat (first | exact Drawn0.refl _ | apply Drawn0.step)⟩
end Go.Proofs.Ytbfafjejmljcpaa.P

namespace Go.Proofs.Ytbfafjejmljcpaa.P
open Go.RowKit Go.Proofs.YtbfafjejmljcpaaW.PrintWords Go.Proofs.YtbfafjejmljcpaaW.PrintLast
set_option linter.unusedVariables false
set_option linter.unusedSimpArgs false

def slices_Compare_int_int.l0 : Nat → List Int → List Int → List Int → Int → Int → Option (Int)
 | 0, _, _, _, _, _ => none
 | k + 1, x0, x1, x9, x10, x11 => if x11 < x10 then (if 0 ≤ x11 then (if x11 < (x9.length : Int) then (if x11 ≥ (x1.length : Int) then (some 1) else (if x11 < (x1.length : Int) then ((cmp_Compare_int.f (rd x9 x11) (rd x1 x11)).bind fun t654 => (if t654 = 0 then (slices_Compare_int_int.l0 k x0 x1 x9 x10 (wrap64 (x11 + 1))) else (some t654))) else (none))) else (none)) else (none)) else (if (x0.length : Int) < (x1.length : Int) then (some (-1)) else (some 0))
def slices_Compare_int_int.f (k : Nat) (l0 : List Int) (l1 : List Int) : Option (Int) := slices_Compare_int_int.l0 k l0 l1 l0 (l0.length : Int) 0
set_option maxHeartbeats 8000000 in
set_option maxRecDepth 100000 in
theorem slices_Compare_int_int.calls (k : Nat) (A0 : Option Addr) (c0 : Nat) (l0 : List Int) (A1 : Option Addr) (c1 : Nat) (l1 : List Int) (r : Int) (w : World) (hr0 : Kd.C (Kd.int .i64) w A0 l0.length l0) (hc0 : l0.length ≤ c0) (hr1 : Kd.C (Kd.int .i64) w A1 l1.length l1) (hc1 : l1.length ≤ c1) (h : slices_Compare_int_int.f k l0 l1 = some r) :
  Calls Try.prog 84 #[.slice A0 l0.length c0, .slice A1 l1.length c1] w fun e w' => e = .returned (.int .i64 r) ∧ Drawn0 w w' := by
 have HR0 := Aside0.mk hr0
 have HC0 := Aside0.mk hc0
 clear hr0 hc0
 have HR1 := Aside0.mk hr1
 have HC1 := Aside0.mk hc1
 clear hr1 hc1
 have H : (slices_Compare_int_int.l0 k l0 l1 l0 (l0.length : Int) 0) = some r := h
 clear h
 have H' := Aside0.mk H
 clear H
 go_enter Try.func84, Try.ntmps84
 go_wp2
 go_loopg [11] k (fun kq v11 w' => ∃ (x11_1 : Int), v11 = .int .i64 x11_1 ∧ Aside0 (slices_Compare_int_int.l0 kq l0 l1 l0 (l0.length : Int) x11_1 = some r) ∧ Aside0 (kq ≤ k) ∧ Drawn0 w w')
 case atStart => exact ⟨(0), (by first | rfl | (simp; done) | (simp [*]; done)), H', ⟨Nat.le_refl _⟩, by repeat (first | exact Drawn0.refl _ | apply Drawn0.step)⟩
 case round =>
  clear H'
  try clear c1
  try clear p2
  obtain ⟨x11_1, rfl, HA, HK1, ⟨m1, rfl⟩⟩ := hrel
  cases gk with
  | zero => exact absurd HA.out (by simp [slices_Compare_int_int.l0])
  | succ k1 =>
   have H := HA.out
   clear HA
   simp only [slices_Compare_int_int.l0] at H
   by_cases c3 : x11_1 < (l0.length : Int)
   ·rw [if_pos c3] at H
    have c3b0 : decide (x11_1 < (l0.length : Int)) = true := decide_eq_true c3
    clear c3
    by_cases c4 : 0 ≤ x11_1
    ·rw [if_pos c4] at H
     have c4b0 : decide (0 ≤ x11_1) = true := decide_eq_true c4
     clear c4
     by_cases c5 : x11_1 < (l0.length : Int)
     ·rw [if_pos c5] at H
      have c5b0 : decide (x11_1 < (l0.length : Int)) = true := decide_eq_true c5
      clear c5
      by_cases c6 : x11_1 ≥ (l1.length : Int)
      ·rw [if_pos c6] at H
       have c6b0 : decide ((l1.length : Int) ≤ x11_1) = true := decide_eq_true c6
       clear c6
       obtain rfl := Option.some.inj H
       have p652 : 0 ≤ (x11_1 : Int) := dd_
       have q652 : x11_1 < (l0.length : Int) := dd_
       obtain ⟨ad652, e652, hx652_0⟩ := Kd.at_int HR0.out x11_1 p652 q652
       cases e652
       replace p652 := eq_true p652
       replace q652 := eq_true q652
       go_wp2
       go_ret
       exact ⟨by first | rfl | (simp; done) | (simp [*]; done), by repeat (first | exact Drawn0.refl _ | apply Drawn0.step)⟩
      ·rw [if_neg c6] at H
       have c6b0 : decide ((l1.length : Int) ≤ x11_1) = false := decide_eq_false c6
       clear c6
       by_cases c7 : x11_1 < (l1.length : Int)
       ·rw [if_pos c7] at H
        have c7b0 : decide (x11_1 < (l1.length : Int)) = true := decide_eq_true c7
        clear c7
        replace H := Option.bind_eq_some_iff.mp H
        obtain ⟨t654, A80, H⟩ := H
        replace H : (if t654 = 0 then (slices_Compare_int_int.l0 k1 l0 l1 l0 (l0.length : Int) (wrap64 (x11_1 + 1))) else (some t654)) = some r := H
        have A8 := Aside0.mk A80
        clear A80
        by_cases c9 : t654 = 0
        ·rw [if_pos c9] at H
         have c9b0 : (t654 == 0) = true := beq_iff_eq.mpr c9
         have c9b1 : (t654 != 0) = false := bne_eq_false_iff_eq.mpr c9
         clear c9
         have H' := Aside0.mk H
         clear H
         have p652 : 0 ≤ (x11_1 : Int) := dd_
         have q652 : x11_1 < (l0.length : Int) := dd_
         obtain ⟨ad652, e652, hx652_0⟩ := Kd.at_int HR0.out x11_1 p652 q652
         cases e652
         replace p652 := eq_true p652
         replace q652 := eq_true q652
         have p653 : 0 ≤ (x11_1 : Int) := dd_
         have q653 : x11_1 < (l1.length : Int) := dd_
         obtain ⟨ad653, e653, hx653_0⟩ := Kd.at_int HR1.out x11_1 p653 q653
         cases e653
         replace p653 := eq_true p653
         replace q653 := eq_true q653
         go_wp2_with (first | (refine goesL_ (some 26) rfl rfl Try.func119 (by kernel_rfl) rfl #[.int .i64 (rd l0 x11_1), .int .i64 (rd l1 x11_1)] rfl ll_ ?_; (with_reducible refine (cmp_Compare_int.calls (rd l0 x11_1) (rd l1 x11_1) t654 _ A8.out).mono ?_); rintro e w' ⟨rfl, ⟨nd, rfl⟩⟩; refine ⟨_, rfl, ?_⟩))
         go_roundg k1
         case measure => have := HK1.out; omega
         case rel => exact ⟨(wrap64 (x11_1 + 1)), (by first | rfl | (simp; done) | (simp [*]; done)), H', ⟨by have := HK1.out; omega⟩, by repeat (first | exact Drawn0.refl _ | apply Drawn0.step)⟩
        ·rw [if_neg c9] at H
         have c9b0 : (t654 == 0) = false := beq_eq_false_iff_ne.mpr c9
         have c9b1 : (t654 != 0) = true := bne_iff_ne.mpr c9
         obtain rfl := Option.some.inj H
         have p652 : 0 ≤ (x11_1 : Int) := dd_
         have q652 : x11_1 < (l0.length : Int) := dd_
         obtain ⟨ad652, e652, hx652_0⟩ := Kd.at_int HR0.out x11_1 p652 q652
         cases e652
         replace p652 := eq_true p652
         replace q652 := eq_true q652
         have p653 : 0 ≤ (x11_1 : Int) := dd_
         have q653 : x11_1 < (l1.length : Int) := dd_
         obtain ⟨ad653, e653, hx653_0⟩ := Kd.at_int HR1.out x11_1 p653 q653
         cases e653
         replace p653 := eq_true p653
         replace q653 := eq_true q653
         go_wp2_with (first | (refine goesL_ (some 26) rfl rfl Try.func119 (by kernel_rfl) rfl #[.int .i64 (rd l0 x11_1), .int .i64 (rd l1 x11_1)] rfl ll_ ?_; (with_reducible refine (cmp_Compare_int.calls (rd l0 x11_1) (rd l1 x11_1) t654 _ A8.out).mono ?_); rintro e w' ⟨rfl, ⟨nd, rfl⟩⟩; refine ⟨_, rfl, ?_⟩))
         go_ret
         exact ⟨by first | rfl | (simp; done) | (simp [*]; done), by repeat (first | exact Drawn0.refl _ | apply Drawn0.step)⟩
       ·rw [if_neg c7] at H
        exact absurd H (by simp)
     ·rw [if_neg c5] at H
      exact absurd H (by simp)
    ·rw [if_neg c4] at H
     exact absurd H (by simp)
   ·rw [if_neg c3] at H
    have c3b0 : decide (x11_1 < (l0.length : Int)) = false := decide_eq_false c3
    clear c3
    by_cases c10 : (l0.length : Int) < (l1.length : Int)
    ·rw [if_pos c10] at H
     have c10b0 : decide ((l0.length : Int) < (l1.length : Int)) = true := decide_eq_true c10
     have c10b1 : decide (l0.length < l1.length) = true := decide_eq_true (Int.ofNat_lt.mp c10)
     clear c10
     obtain rfl := Option.some.inj H
     go_wp2
     go_ret
     exact ⟨by first | rfl | (simp; done) | (simp [*]; done), by repeat (first | exact Drawn0.refl _ | apply Drawn0.step)⟩
    ·rw [if_neg c10] at H
     have c10b0 : decide ((l0.length : Int) < (l1.length : Int)) = false := decide_eq_false c10
     have c10b1 : decide (l0.length < l1.length) = false := decide_eq_false (fun h => c10 (Int.ofNat_lt.mpr h))
     clear c10
     obtain rfl := Option.some.inj H
     go_wp2
     go_ret
     exact ⟨by first | rfl | (simp; done) | (simp [*]; done), by repeat (first | exact Drawn0.refl _ | apply Drawn0.step)⟩
end Go.Proofs.Ytbfafjejmljcpaa.P

set_option linter.unusedVariables false
set_option linter.unusedSimpArgs false
namespace Go.Proofs.Ytbfafjejmljcpaa.X
open Go.RowKit Go.Proofs.YtbfafjejmljcpaaW.PrintWords Go.Proofs.YtbfafjejmljcpaaW.PrintLast Go.Proofs.Ytbfafjejmljcpaa.P

def gapI (a b : List Int) : Int := firstI 9 fun i => rd a i != rd b i
def lessB (a b : List Int) : Bool := decide (0 ≤ gapI a b) && decide (rd a (gapI a b) < rd b (gapI a b))
def cmpI (a b : List Int) : Int := if gapI a b < 0 then 0 else if rd a (gapI a b) < rd b (gapI a b) then -1 else 1
theorem gapI_ge (a b : List Int) : -1 ≤ gapI a b := by
  unfold gapI
  by_cases h : ∃ i : Int, 0 ≤ i ∧ i < 9 ∧ (rd a i != rd b i) = true
  · obtain ⟨i, h0, h1, h2⟩ := h
    have := firstI_spec (n := 9) (p := fun i => rd a i != rd b i) i h0 h1 h2
    omega
  · rw [firstI_none fun i h0 h1 => Bool.eq_false_iff.2 fun h2 => h ⟨i, h0, h1, h2⟩]; omega
theorem cmpI_less {a b : List Int} : decide (cmpI a b ≥ 0) = !lessB a b := by
  unfold cmpI lessB
  have := gapI_ge a b
  by_cases h : gapI a b < 0
  · rw [if_pos h, decide_eq_false (by omega : ¬ 0 ≤ gapI a b)]; rfl
  · rw [if_neg h, decide_eq_true (by omega : 0 ≤ gapI a b)]
    by_cases h2 : rd a (gapI a b) < rd b (gapI a b)
    · rw [if_pos h2, decide_eq_true h2]; rfl
    · rw [if_neg h2, decide_eq_false h2]; rfl
theorem isNaN_eq (x : Int) : cmp_isNaN_int.f x = some false := by
  unfold cmp_isNaN_int.f
  simp
theorem cmpInt_eq (x y : Int) : cmp_Compare_int.f x y = some (if x < y then -1 else if x > y then 1 else 0) := by
  unfold cmp_Compare_int.f
  rw [isNaN_eq, isNaN_eq]
  simp only [Option.bind_some, Bool.false_eq_true, if_false]
  split <;> (try split) <;> rfl
theorem compare_loop (a b : List Int) (ha : a.length = 9) (hb : b.length = 9) (d : Nat) : ∀ i : Int, 0 ≤ i → i + d = 9 → (∀ j : Int, 0 ≤ j → j < i → rd a j = rd b j) → Ev (fun k => slices_Compare_int_int.l0 k a b a 9 i) (cmpI a b) := by
  induction d with
  | zero =>
    intro i h0 h1 h
    refine Ev.step (fun k => by rw [slices_Compare_int_int.l0]) ?_
    refine Ev.neg (by omega) (Ev.neg (by omega) (Ev.done ?_))
    have : gapI a b = -1 := firstI_none fun j j0 j1 => by rw [h j j0 (by omega)]; simp
    unfold cmpI; rw [this]; rfl
  | succ d ih =>
    intro i h0 h1 h
    refine Ev.step (fun k => by rw [slices_Compare_int_int.l0]) ?_
    rw [w64 (x := i + 1) (by omega) (by omega), cmpInt_eq]
    refine Ev.pos (by omega) (Ev.pos h0 (Ev.pos (by omega) (Ev.neg (by omega) (Ev.pos (by omega) (Ev.fix rfl ?_)))))
    have gap : rd a i ≠ rd b i → gapI a b = i := fun hne => firstI_some i h0 (by omega) (by simpa using hne) fun j j0 j1 => by rw [h j j0 j1]; simp
    by_cases c1 : rd a i < rd b i
    · rw [if_pos c1]
      refine Ev.neg (by decide) (Ev.done ?_)
      unfold cmpI; rw [gap (by omega), if_neg (by omega), if_pos c1]
    · rw [if_neg c1]
      by_cases c2 : rd a i > rd b i
      · rw [if_pos c2]
        refine Ev.neg (by decide) (Ev.done ?_)
        unfold cmpI; rw [gap (by omega), if_neg (by omega), if_neg c1]
      · rw [if_neg c2]
        refine Ev.pos rfl (ih (i + 1) (by omega) (by omega) fun j j0 j1 => ?_)
        by_cases e : j = i
        · rw [e]; omega
        · exact h j j0 (by omega)
theorem compare_ev (a b : List Int) (ha : a.length = 9) (hb : b.length = 9) : Ev (fun k => slices_Compare_int_int.f k a b) (cmpI a b) := by
  unfold slices_Compare_int_int.f
  rw [show (a.length : Int) = 9 by omega]
  exact compare_loop a b ha hb 9 0 (by omega) (by omega) (fun j j0 j1 => by omega)
theorem leafB_parts {l : List Int} (h : leafB l = true) : l.length = 9 ∧ (∀ i : Int, 0 ≤ i → i < 9 → stepB l i = true) ∧ (∀ i k : Int, 0 ≤ i → i < 9 → 0 ≤ k → k < 9 → sumB l i k = true) := by
  unfold leafB at h
  simp only [Bool.and_eq_true, decide_eq_true_eq] at h
  exact ⟨h.1, fun i i0 i1 => allI_int h.2.1 i i0 i1, fun i k i0 i1 k0 k1 => allI_int (allI_int h.2.2 i i0 i1) k k0 k1⟩
theorem leaf_near {l : List Int} (h : leafB l = true) {i : Int} (i0 : 0 ≤ i) (i1 : i < 9) : 0 ≤ rd l i ∧ rd l i < 81 := by
  have := (leafB_parts h).2.1 i i0 i1
  unfold stepB at this
  exact nearB_iff.1 (Bool.and_eq_true _ _ ▸ this).1
theorem leaf_step {l : List Int} (h : leafB l = true) {i : Int} (i0 : 0 < i) (i1 : i < 9) : rd l (i - 1) < rd l i := by
  have := (leafB_parts h).2.1 i (by omega) i1
  unfold stepB at this
  have := (Bool.and_eq_true _ _ ▸ this).2
  rw [decide_eq_true i0] at this
  simpa using this
theorem leaf_lt {l : List Int} (h : leafB l = true) (d : Nat) : ∀ i : Int, 0 ≤ i → i + 1 + d < 9 → rd l i < rd l (i + 1 + d) := by
  induction d with
  | zero =>
    intro i i0 i1
    have := leaf_step h (i := i + 1) (by omega) (by omega)
    rw [show i + 1 - 1 = i by omega] at this
    simpa using this
  | succ d ih =>
    intro i i0 i1
    have h1 := ih i i0 (by omega)
    have h2 := leaf_step h (i := i + 1 + ((d + 1 : Nat) : Int)) (by omega) (by omega)
    rw [show i + 1 + ((d + 1 : Nat) : Int) - 1 = i + 1 + (d : Int) by omega] at h2
    omega
theorem leaf_asc {l : List Int} (h : leafB l = true) {i j : Int} (i0 : 0 ≤ i) (ij : i < j) (j1 : j < 9) : rd l i < rd l j := by
  have := leaf_lt h (j - i - 1).toNat i i0 (by omega)
  rwa [show i + 1 + ((j - i - 1).toNat : Int) = j by omega] at this
theorem mem_rd {l : List Int} {v : Int} (h : v ∈ l) : ∃ i : Int, 0 ≤ i ∧ i < l.length ∧ rd l i = v := by
  obtain ⟨i, hi, e⟩ := List.mem_iff_getElem.1 h
  exact ⟨i, by omega, by omega, by rw [rd_cast l i hi, e]⟩
theorem addF_three (x : Int) (h0 : 0 ≤ x) (h1 : x < 81) : addF (addF x x) x = 0 := by
  have k : ∀ u : Int, 0 ≤ u → u < 9 → addN (addN u u) u = 0 := fun u u0 u1 => nine1 (P := fun u => addN (addN u u) u = 0) (by decide +kernel) u u0 u1
  have r1 := addN_range (x / 9) (x / 9)
  have r2 := addN_range (x % 9) (x % 9)
  have e1 := k (x / 9) (by omega) (by omega)
  have e2 := k (x % 9) (by omega) (by omega)
  unfold addF
  rw [show (9 * addN (x / 9) (x / 9) + addN (x % 9) (x % 9)) / 9 = addN (x / 9) (x / 9) by omega, show (9 * addN (x / 9) (x / 9) + addN (x % 9) (x % 9)) % 9 = addN (x % 9) (x % 9) by omega, e1, e2]
  rfl
theorem leaf_sum {l : List Int} (h : leafB l = true) {x y : Int} (hx : x ∈ l) (hy : y ∈ l) : addF x y ∈ l := by
  have hl := (leafB_parts h).1
  obtain ⟨i, i0, i1, rfl⟩ := mem_rd hx
  obtain ⟨j, j0, j1, rfl⟩ := mem_rd hy
  have := (leafB_parts h).2.2 i j i0 (by omega) j0 (by omega)
  unfold sumB at this
  exact of_decide_eq_true this
theorem leaf_zero {l : List Int} (h : leafB l = true) : rd l 0 = 0 := by
  have hl := (leafB_parts h).1
  have hm : rd l 0 ∈ l := rd_mem (by omega) (by omega)
  have hn := leaf_near h (i := 0) (by omega) (by omega)
  have hz := leaf_sum h (leaf_sum h hm hm) hm
  rw [addF_three _ hn.1 hn.2] at hz
  obtain ⟨i, i0, i1, e⟩ := mem_rd hz
  by_cases e0 : i = 0
  · rw [e0] at e; exact e
  · have := leaf_asc h (i := 0) (j := i) (by omega) (by omega) (by omega)
    omega
theorem leaf_pos {l : List Int} (h : leafB l = true) {i : Int} (i0 : 0 < i) (i1 : i < 9) : 0 < rd l i := by
  have := leaf_asc h (i := 0) (j := i) (by omega) i0 i1
  have := leaf_zero h
  omega
theorem leaf_take {l : List Int} (h : leafB l = true) {i : Int} (i0 : 0 ≤ i) (i1 : i < 9) : rd l i ∉ l.take i.toNat := by
  intro hm
  obtain ⟨j, hj, e⟩ := List.mem_take_iff_getElem.1 hm
  have := leaf_asc h (i := (j : Int)) (j := i) (by omega) (by omega) i1
  rw [rd_cast l j (by omega), e] at this
  omega
def seenS (l : List (List Int)) (i p : Int) : Bool := (List.range i.toNat).any fun (j : Nat) => decide (p ∈ rd_LI l (j : Int))
theorem seenS_zero (l : List (List Int)) (p : Int) : seenS l 0 p = false := rfl
theorem seenS_succ (l : List (List Int)) {i : Int} (h0 : 0 ≤ i) (p : Int) : seenS l (i + 1) p = (seenS l i p || decide (p ∈ rd_LI l i)) := by
  unfold seenS
  rw [show (i + 1).toNat = i.toNat + 1 by omega, List.range_succ, List.any_append]
  simp [Int.toNat_of_nonneg h0]
def freshB (l : List (List Int)) (i : Int) : Bool := (rd_LI l i).all fun p => decide (p ≤ 0) || !seenS l i p
def ordB (l : List (List Int)) (i : Int) : Bool := decide (i ≤ 0) || lessB (rd_LI l (i - 1)) (rd_LI l i)
def leafOk (l : List (List Int)) (i : Int) : Bool := leafB (rd_LI l i) && (ordB l i && freshB l i)
def spreadB (l : List (List Int)) : Bool := decide (l.length = 10) && allI 10 (leafOk l)
theorem spreadB_hit {l : List (List Int)} {i : Int} (h0 : 0 ≤ i) (h1 : i < 10) (h : leafOk l i = false) : spreadB l = false := by
  cases e : spreadB l with
  | false => rfl
  | true =>
    unfold spreadB at e
    have := allI_int (Bool.and_eq_true _ _ ▸ e).2 i h0 h1
    rw [h] at this; exact absurd this (by decide)
theorem spreadB_all {l : List (List Int)} (hl : l.length = 10) (h : ∀ i : Int, 0 ≤ i → i < 10 → leafOk l i = true) : spreadB l = true := by
  unfold spreadB
  rw [decide_eq_true hl, allI_int_iff.2 h]; rfl
theorem spreadB_parts {l : List (List Int)} (h : spreadB l = true) : l.length = 10 ∧ ∀ i : Int, 0 ≤ i → i < 10 → leafOk l i = true := by
  unfold spreadB at h
  simp only [Bool.and_eq_true, decide_eq_true_eq] at h
  exact ⟨h.1, fun i i0 i1 => allI_int h.2 i i0 i1⟩
theorem leafOk_parts {l : List (List Int)} {i : Int} (h : leafOk l i = true) : leafB (rd_LI l i) = true ∧ ordB l i = true ∧ freshB l i = true := by
  unfold leafOk at h
  simp only [Bool.and_eq_true] at h
  exact h
end Go.Proofs.Ytbfafjejmljcpaa.X

set_option linter.unusedVariables false
set_option linter.unusedSimpArgs false
namespace Go.Proofs.Ytbfafjejmljcpaa.X
open Go.RowKit Go.Proofs.YtbfafjejmljcpaaW.PrintWords

theorem rd_getElem {l : List Int} {i : Int} (h0 : 0 ≤ i) (h1 : i < l.length) : rd l i = l[i.toNat]'(by omega) := by
  unfold rd
  rw [List.getD_eq_getElem?_getD]
  simp [show i.toNat < l.length by omega]
end Go.Proofs.Ytbfafjejmljcpaa.X

set_option linter.unusedVariables false
set_option linter.unusedSimpArgs false
namespace Go.Proofs.Ytbfafjejmljcpaa.X
open Go.RowKit Go.Proofs.YtbfafjejmljcpaaW.PrintWords Go.Proofs.YtbfafjejmljcpaaW.PrintLast Go.Proofs.Ytbfafjejmljcpaa.P

theorem isLeaf_calls (A0 : Option Addr) (c0 : Nat) (l : List Int) (w : World) (hr : Kd.C (Kd.int .i64) w A0 l.length l) (hc : l.length ≤ c0) :
    Calls Try.prog 56 #[.slice A0 l.length c0] w fun e w' => e = .returned (.bool (leafB l)) ∧ Drawn0 w w' := by
  obtain ⟨k, hk⟩ := (implLeaf_ev l).rounds
  exact impl_isLeaf.calls k A0 c0 l _ w hr hc hk
theorem compare_calls (A0 : Option Addr) (c0 : Nat) (a : List Int) (A1 : Option Addr) (c1 : Nat) (b : List Int) (ha : a.length = 9) (hb : b.length = 9) (w : World) (hr : Kd.C (Kd.int .i64) w A0 a.length a) (hc : a.length ≤ c0) (hr1 : Kd.C (Kd.int .i64) w A1 b.length b) (hc1 : b.length ≤ c1) :
    Calls Try.prog 84 #[.slice A0 a.length c0, .slice A1 b.length c1] w fun e w' => e = .returned (.int .i64 (cmpI a b)) ∧ Drawn0 w w' := by
  obtain ⟨k, hk⟩ := (compare_ev a b ha hb).rounds
  exact slices_Compare_int_int.calls k A0 c0 a A1 c1 b _ w hr hc hr1 hc1 hk
theorem freshB_all {l : List (List Int)} {i : Int} (hl : (rd_LI l i).length = 9) (h : ∀ j : Int, 0 ≤ j → j < 9 → (decide (rd (rd_LI l i) j ≤ 0) || !seenS l i (rd (rd_LI l i) j)) = true) : freshB l i = true := by
  unfold freshB
  rw [List.all_eq_true]
  intro p hp
  obtain ⟨j, j0, j1, rfl⟩ := mem_rd hp
  exact h j j0 (by omega)
theorem freshB_hit {l : List (List Int)} {i j : Int} (hl : (rd_LI l i).length = 9) (j0 : 0 ≤ j) (j1 : j < 9) (h : (decide (rd (rd_LI l i) j ≤ 0) || !seenS l i (rd (rd_LI l i) j)) = false) : freshB l i = false := by
  cases e : freshB l i with
  | false => rfl
  | true =>
    unfold freshB at e
    have := List.all_eq_true.1 e _ (rd_mem (i := j) (by omega) j0)
    rw [h] at this; exact absurd this (by decide)
set_option maxRecDepth 100000 in
set_option maxHeartbeats 8000000 in
theorem isSpread_calls (A0 : Option Addr) (c0 : Nat) (l : List (List Int)) (w : World) (hr : Kd.C (Kd.slice 3 (Kd.int .i64)) w A0 l.length l) :
    Calls Try.prog 51 #[.slice A0 l.length c0] w fun e w' => e = .returned (.bool (spreadB l)) ∧ Below w.heap.size w w' := by
  have hz : ∀ w, Sem.run Try.prog (zeroValue 78) w = .ok (.agg (bA 81 (fun _ => false))) w := fun _ => by kernel_rfl
  have hst := fun w => arr_store (P := Try.prog) 78 81 (fun _ => false) (by kernel_rfl) w
  have HR := Aside0.mk hr
  clear hr
  by_cases hl : l.length = 10
  case neg =>
    have e : spreadB l = false := by unfold spreadB; rw [decide_eq_false hl]; rfl
    have E := Aside0.mk e
    have l1 : ((l.length : Int) == 10) = false := beq_eq_false_iff_ne.2 (by omega)
    have l2 : ((l.length : Int) != 10) = true := by rw [bne, l1]; rfl
    clear e hl
    go_enter Try.func51, Try.ntmps51
    go_wp2
    go_ret
    exact ⟨by rw [E.out]; rfl, Below.refl _ _⟩
  case pos =>
  have l1 : ((l.length : Int) == 10) = true := beq_iff_eq.2 (by omega)
  have l2 : ((l.length : Int) != 10) = false := by rw [bne, l1]; rfl
  have HL := Aside0.mk hl
  have HS := Aside0.mk (Arr.alloc w 78 81 (fun _ => false))
  have HB3 := Aside0.mk ((Below.refl w.heap.size w).alloc (Nat.le_refl _) (.cells (bA 81 (fun _ => false)) 78))
  clear hl
  go_enter Try.func51, Try.ntmps51
  go_wp2
  go_loopg [14] 10 (fun kq v14 w' => ∃ i : Int, v14 = .int .i64 i ∧ Aside0 (0 ≤ i ∧ i ≤ 10) ∧ Aside0 ((10 : Int) - i ≤ kq) ∧ Aside0 (∀ j : Int, 0 ≤ j → j < i → leafOk l j = true) ∧ Aside0 (Arr w' w.heap.size 78 81 (fun p => seenS l i (p : Int))) ∧ Aside0 (Below w.heap.size w w'))
  case atStart => exact ⟨0, rfl, ⟨by omega⟩, ⟨by omega⟩, ⟨fun x h0 h1 => by omega⟩, ⟨HS.out.congr (fun j hj => rfl)⟩, HB3⟩
  case round =>
    clear HS HB3 hz hst
    obtain ⟨i, rfl, HI, HK, HA, HS, HB⟩ := hrel
    have h0 : 0 ≤ i := HI.out.1
    by_cases c6 : i < (l.length : Int)
    case neg =>
      go_wp2
      go_ret
      have hall : spreadB l = true := spreadB_all HL.out fun j j0 j1 => HA.out j j0 (by have := HI.out; have := HL.out; omega)
      exact ⟨by rw [hall]; rfl, HB.out⟩
    case pos =>
    have c10 : i < 10 := by have := HL.out; omega
    obtain ⟨ad, A1, c1, e1, hx, hcap, hin⟩ := at_LI HR.out i h0 c6
    cases e1
    replace hx := pw_cell_below HB.out hx
    have HIN := Aside0.mk hin
    have HCAP := Aside0.mk hcap
    have hcall := isLeaf_calls A1 c1 (rd_LI l i) wr (Kd.C_below hin HB.out) hcap
    have hleaf : leafB (rd_LI l i) = false → spreadB l = false := fun h => spreadB_hit h0 c10 (by unfold leafOk; rw [h]; rfl)
    have hord : ordB l i = false → spreadB l = false := fun h => spreadB_hit h0 c10 (by unfold leafOk; rw [h, Bool.false_and, Bool.and_false])
    have HORD := Aside0.mk hord
    clear hin hcap hord
    obtain ⟨L, hL⟩ : ∃ L, rd_LI l i = L := ⟨_, rfl⟩
    have HLL := Aside0.mk hL
    rw [hL] at hcall hx HIN HCAP hleaf
    clear hL
    by_cases hlf : leafB L = true
    case neg =>
      have hlf := Bool.eq_false_iff.2 hlf
      have E := Aside0.mk (hleaf hlf)
      rw [hlf] at hcall
      have HC := Aside0.mk hcall
      clear hcall hleaf hlf
      go_wp2_with (go_at_call 56; refine HC.out.mono ?_; rintro e w' ⟨rfl, ⟨nd, rfl⟩⟩)
      go_ret
      exact ⟨by rw [E.out]; rfl, pw_below_drewN HB.out _⟩
    case pos =>
    rw [hlf] at hcall
    have HC := Aside0.mk hcall
    have HLF := Aside0.mk hlf
    clear hcall hleaf hlf
    go_upto_region 7 with (fail)
    go_cut [35] (fun v35 wc => v35 = .bool (!ordB l i) ∧ Aside0 (Drawn0 wr wc))
    case first =>
      by_cases ci : i = 0
      · subst ci
        go_wp2_with (go_at_call 56; refine HC.out.mono ?_; rintro e w' ⟨rfl, ⟨nd, rfl⟩⟩)
        go_meet
        case rel => exact ⟨rfl, ⟨⟨_, rfl⟩⟩⟩
      · have hpos : decide (0 < i) = true := decide_eq_true (by omega)
        have zw : IntKind.i64.wrap (i - 1) = i - 1 := by rw [IntKind.wrap_i64]; omega
        have i1 : (0 : Int) ≤ i - 1 := by omega
        have i2 : i - 1 < (l.length : Int) := by omega
        obtain ⟨ad2, A2, c2, e1, hx2, hcap2, hin2⟩ := at_LI HR.out (i - 1) i1 i2
        cases e1
        have hlp := (leafOk_parts (HA.out (i - 1) i1 (by omega))).1
        have ho : ordB l i = lessB (rd_LI l (i - 1)) L := by unfold ordB; rw [decide_eq_false (by omega : ¬ i ≤ 0), HLL.out]; rfl
        obtain ⟨P, hP⟩ : ∃ P, rd_LI l (i - 1) = P := ⟨_, rfl⟩
        rw [hP] at hx2 hcap2 hin2 hlp ho
        replace hx2 := pw_cell_below HB.out hx2
        rw [show (i - 1).toNat = i.toNat - 1 by omega] at hx2
        have i3 : (1 : Int) ≤ i := by omega
        have i4 : i < (l.length : Int) + 1 := by omega
        have HC2 := Aside0.mk (fun n => compare_calls A2 c2 P A1 c1 L (leafB_parts hlp).1 (leafB_parts HLF.out).1 (wr.drewN n) (Kd.C_drewN (Kd.C_below hin2 HB.out) n) hcap2 (Kd.C_drewN (Kd.C_below HIN.out HB.out) n) HCAP.out)
        have hge := cmpI_less (a := P) (b := L)
        obtain ⟨c, hc⟩ : ∃ c, cmpI P L = c := ⟨_, rfl⟩
        rw [hc] at HC2 hge
        have hge2 : decide (0 ≤ c) = !lessB P L := hge
        obtain ⟨o, hoo⟩ : ∃ o, lessB P L = o := ⟨_, rfl⟩
        rw [hoo] at hge hge2 ho
        have HOE := Aside0.mk ho
        clear hP hin2 hlp ho hc hoo hcap2 ci
        go_wp2_with (first | (go_at_call 56; refine HC.out.mono ?_; rintro e w' ⟨rfl, ⟨nd, rfl⟩⟩) | (go_at_call 84; refine (HC2.out _).mono ?_; rintro e w' ⟨rfl, ⟨nd2, rfl⟩⟩))
        go_meet
        case rel => (rw [HOE.out]; exact ⟨rfl, ⟨⟨_, by first | exact World.drewN_drewN .. | rfl⟩⟩⟩)
    case rest =>
      clear HC hx
      obtain ⟨rfl, HD⟩ := hcut
      have HBc := Aside0.mk (HB.out.trans (HD.out.below.mono HB.out.size))
      have HSc := Aside0.mk (HS.out.below HD.out.below)
      clear HD HS HB
      by_cases hord : ordB l i = true
      case neg =>
        have hord := Bool.eq_false_iff.2 hord
        have E := Aside0.mk (HORD.out hord)
        rw [hord]
        clear hord
        go_wp2
        go_ret
        exact ⟨by rw [E.out]; rfl, HBc.out⟩
      case pos =>
      have HO := Aside0.mk hord
      have HL9 := Aside0.mk (leafB_parts HLF.out).1
      rw [hord]
      clear hord HORD
      go_wp2
      go_loopg [38] 9 (fun kq v38 w' => ∃ k : Int, v38 = .int .i64 k ∧ Aside0 (0 ≤ k ∧ k ≤ 9) ∧ Aside0 ((9 : Int) - k ≤ kq) ∧ Aside0 (∀ j : Int, 0 ≤ j → j < k → (decide (rd L j ≤ 0) || !seenS l i (rd L j)) = true) ∧ Aside0 (Arr w' w.heap.size 78 81 (fun p => seenS l i (p : Int) || decide ((p : Int) ∈ L.take k.toNat))) ∧ Aside0 (Below w.heap.size w w'))
      case atStart => exact ⟨0, rfl, ⟨by omega⟩, ⟨by omega⟩, ⟨fun x h0 h1 => by omega⟩, ⟨HSc.out.congr (fun j hj => by simp)⟩, HBc⟩
      case round =>
        clear HSc HBc
        obtain ⟨k, rfl, KI, KK, KA, KS, KB⟩ := hrel
        have k0 : 0 ≤ k := KI.out.1
        by_cases c9 : k < (L.length : Int)
        case neg =>
          have hk : k = 9 := by have := KI.out; have := HL9.out; omega
          have hfr : freshB l i = true := freshB_all (by rw [HLL.out]; exact HL9.out) fun j j0 j1 => by rw [HLL.out]; exact KA.out j j0 (by omega)
          have HOK := Aside0.mk (show leafOk l i = true by unfold leafOk; rw [HLL.out, HLF.out, HO.out, hfr]; rfl)
          have HTK := Aside0.mk (show L.take k.toNat = L from List.take_of_length_le (by have := HL9.out; omega))
          have zw : IntKind.i64.wrap (i + 1) = i + 1 := by rw [IntKind.wrap_i64]; omega
          clear hfr hk
          go_wp2
          go_roundg (10 - (i.toNat + 1))
          case measure => have := HK.out; omega
          case rel =>
            refine ⟨i + 1, rfl, ⟨by omega⟩, ⟨by omega⟩, ⟨fun j j0 j1 => ?_⟩, ⟨KS.out.congr fun j hj => ?_⟩, KB⟩
            · by_cases e : j = i
              · rw [e]; exact HOK.out
              · exact HA.out j j0 (by omega)
            · rw [seenS_succ l h0, HLL.out, HTK.out]
        case pos =>
        have k9 : k < 9 := by have := HL9.out; omega
        obtain ⟨a1, e1, g1⟩ := Kd.at_int (Kd.C_below HIN.out KB.out) k k0 c9
        subst e1
        obtain ⟨p0, p1⟩ := leaf_near HLF.out k0 k9
        have hnt := leaf_take HLF.out k0 k9
        have hkey : (seenS l i ((rd L k).toNat : Int) || decide (((rd L k).toNat : Int) ∈ L.take k.toNat)) = seenS l i (rd L k) := by
          rw [Int.toNat_of_nonneg p0, decide_eq_false hnt, Bool.or_false]
        have hcl := KS.out.cell (rd L k).toNat (by omega)
        rw [hkey] at hcl
        have hf := KS.out.frozen (rd L k).toNat
        have hhit : (decide (rd L k ≤ 0) || !seenS l i (rd L k)) = false → spreadB l = false := fun h => spreadB_hit h0 c10 (by
          unfold leafOk; rw [freshB_hit (by rw [HLL.out]; exact HL9.out) k0 k9 (by rw [HLL.out]; exact h), Bool.and_false, Bool.and_false])
        have HHIT := Aside0.mk hhit
        have KS6 := Aside0.mk (KS.out.set (rd L k).toNat true)
        have KB2 := Aside0.mk (KB.out.setCell (p := ⟨w.heap.size, (rd L k).toNat, none⟩) (Nat.le_refl _) (.bool true))
        have HSET := Aside0.mk (show ∀ j : Nat, (if j = (rd L k).toNat then true else (seenS l i (j : Int) || decide ((j : Int) ∈ L.take k.toNat))) = (seenS l i (j : Int) || decide ((j : Int) ∈ L.take (k + 1).toNat)) from fun j => by
          rw [show (k + 1).toNat = k.toNat + 1 by omega, List.take_add_one, List.getElem?_eq_getElem (by omega), Option.toList_some]
          have e2 : L[k.toNat]'(by omega) = rd L k := (rd_getElem k0 c9).symm
          rw [e2]
          by_cases e : j = (rd L k).toNat
          · rw [if_pos e]
            have : (j : Int) ∈ L.take k.toNat ++ [rd L k] := by rw [List.mem_append]; right; rw [List.mem_singleton]; omega
            rw [decide_eq_true this, Bool.or_true]
          · rw [if_neg e]
            congr 1
            refine decide_eq_decide.2 ?_
            rw [List.mem_append, List.mem_singleton]
            exact ⟨fun h => .inl h, fun h => h.elim id fun h => absurd h (by omega)⟩)
        clear hhit hkey hnt
        obtain ⟨p, hp⟩ : ∃ p, rd L k = p := ⟨_, rfl⟩
        rw [hp] at g1 p0 p1 hcl hf HHIT KS6 KB2 HSET
        have HP := Aside0.mk hp
        have zw : IntKind.i64.wrap (k + 1) = k + 1 := by rw [IntKind.wrap_i64]; omega
        have p81 : p < 81 := p1
        clear hp
        by_cases hp0 : 0 < p
        case neg =>
          have d0 : decide (0 < p) = false := decide_eq_false hp0
          go_wp2
          go_roundg (9 - (k.toNat + 1))
          case measure => have := KK.out; omega
          case rel =>
            refine ⟨k + 1, rfl, ⟨by omega⟩, ⟨by omega⟩, ⟨fun j j0 j1 => ?_⟩, ⟨KS6.out.congr fun j hj => HSET.out j⟩, KB2⟩
            by_cases e : j = k
            · rw [e, HP.out, decide_eq_true (by omega : p ≤ 0)]; rfl
            · exact KA.out j j0 (by omega)
        case pos =>
          have d0 : decide (0 < p) = true := decide_eq_true hp0
          by_cases hs : seenS l i p = true
          case pos =>
            rw [hs] at hcl
            have E := Aside0.mk (HHIT.out (by rw [hs, decide_eq_false (by omega : ¬ p ≤ 0)]; rfl))
            clear hs
            go_wp2
            go_ret
            exact ⟨by rw [E.out]; rfl, KB.out⟩
          case neg =>
            have hs := Bool.eq_false_iff.2 hs
            rw [hs] at hcl
            have HF := Aside0.mk hs
            clear hs
            go_wp2
            go_roundg (9 - (k.toNat + 1))
            case measure => have := KK.out; omega
            case rel =>
              refine ⟨k + 1, rfl, ⟨by omega⟩, ⟨by omega⟩, ⟨fun j j0 j1 => ?_⟩, ⟨KS6.out.congr fun j hj => HSET.out j⟩, KB2⟩
              by_cases e : j = k
              · rw [e, HP.out, HF.out, Bool.not_false, Bool.or_true]
              · exact KA.out j j0 (by omega)
end Go.Proofs.Ytbfafjejmljcpaa.X
namespace Go.Proofs.Ytbfafjejmljcpaa.P
open Go.RowKit Go.Proofs.YtbfafjejmljcpaaW.PrintWords Go.Proofs.YtbfafjejmljcpaaW.PrintLast
def impl_isSpread.f (l0 : List (List Int)) : Option Bool := some (X.spreadB l0)
theorem impl_isSpread.calls (A0 : Option Addr) (c0 : Nat) (l0 : List (List Int)) (r : Bool) (w : World) (hr0 : Kd.C (Kd.slice 3 (Kd.int .i64)) w A0 l0.length l0) (hc0 : l0.length ≤ c0) (h : impl_isSpread.f l0 = some r) :
    Calls Try.prog 51 #[.slice A0 l0.length c0] w fun e w' => e = .returned (.bool r) ∧ Below w.heap.size w w' := by
  obtain rfl := Option.some.inj h
  exact X.isSpread_calls A0 c0 l0 w hr0
end Go.Proofs.Ytbfafjejmljcpaa.P

namespace Go.Proofs.Ytbfafjejmljcpaa.P
open Go.RowKit Go.Proofs.YtbfafjejmljcpaaW.PrintWords Go.Proofs.YtbfafjejmljcpaaW.PrintLast
set_option linter.unusedVariables false
set_option linter.unusedSimpArgs false

def impl_SpreadIn.f (l0 : List (List Int)) : Option (Bool) := (impl_isSpread.f l0).bind fun t901 => (some t901)
set_option maxHeartbeats 8000000 in
set_option maxRecDepth 100000 in
theorem impl_SpreadIn.calls (A0 : Option Addr) (c0 : Nat) (l0 : List (List Int)) (r : Bool) (w : World) (hr0 : Kd.C (Kd.slice 3 (Kd.int .i64)) w A0 l0.length l0) (hc0 : l0.length ≤ c0) (h : impl_SpreadIn.f l0 = some r) :
  Calls Try.prog 37 #[.slice A0 l0.length c0] w fun e w' => e = .returned (.bool r) ∧ Below w.heap.size w w' := by
 have HR0 := Aside0.mk hr0
 have HC0 := Aside0.mk hc0
 clear hr0 hc0
 have HB := Aside0.mk (Below.refl w.heap.size w)
 have H : ((impl_isSpread.f l0).bind fun t901 => (some t901)) = some r := h
 clear h
 replace H := Option.bind_eq_some_iff.mp H
 obtain ⟨t901, A20, H⟩ := H
 replace H : (some t901) = some r := H
 have A2 := Aside0.mk A20
 clear A20
 obtain rfl := Option.some.inj H
 go_enter Try.func37, Try.ntmps37
 go_wp2_with (first | (refine goesL_ (some 4) rfl rfl Try.func51 (by kernel_rfl) rfl #[.slice A0 l0.length c0] rfl ll_ ?_; (with_reducible refine (impl_isSpread.calls _ _ l0 t901 _ ?side1 ?side2 A2.out).mono ?_); (case side1 => exact ss_ HR0); (case side2 => exact HC0.out); rintro e w3 ⟨rfl, hb⟩; refine ⟨_, rfl, ?_⟩; have n0_ := Aside0.mk (below_step (bb_ HB) hb); clear HB; have HB := n0_; clear n0_; (try clear hb); (try clear hb2); (try clear hk); (try clear hi)))
 go_ret
 exact ⟨ee_, bb_ HB⟩
end Go.Proofs.Ytbfafjejmljcpaa.P

namespace Go.Proofs.Ytbfafjejmljcpaa.P
open Go.RowKit Go.Proofs.YtbfafjejmljcpaaW.PrintWords Go.Proofs.YtbfafjejmljcpaaW.PrintLast
set_option linter.unusedVariables false
set_option linter.unusedSimpArgs false

def slices_Equal_int_int.l0 : Nat → List Int → List Int → Int → Int → Option (Bool)
 | 0, _, _, _, _ => none
 | k + 1, x0, x1, x12, x13 => if x13 < x12 then (if 0 ≤ x13 then (if x13 < (x0.length : Int) then (if x13 < (x1.length : Int) then (if (rd x0 x13) = (rd x1 x13) then (slices_Equal_int_int.l0 k x0 x1 x12 (wrap64 (x13 + 1))) else (some false)) else (none)) else (none)) else (none)) else (some true)
def slices_Equal_int_int.f (k : Nat) (l0 : List Int) (l1 : List Int) : Option (Bool) := if (l0.length : Int) = (l1.length : Int) then (slices_Equal_int_int.l0 k l0 l1 (l0.length : Int) 0) else (some false)
set_option maxHeartbeats 8000000 in
set_option maxRecDepth 100000 in
theorem slices_Equal_int_int.calls (k : Nat) (A0 : Option Addr) (c0 : Nat) (l0 : List Int) (A1 : Option Addr) (c1 : Nat) (l1 : List Int) (r : Bool) (w : World) (hr0 : Kd.C (Kd.int .i64) w A0 l0.length l0) (hc0 : l0.length ≤ c0) (hr1 : Kd.C (Kd.int .i64) w A1 l1.length l1) (hc1 : l1.length ≤ c1) (h : slices_Equal_int_int.f k l0 l1 = some r) :
  Calls Try.prog 117 #[.slice A0 l0.length c0, .slice A1 l1.length c1] w fun e w' => e = .returned (.bool r) ∧ Drawn0 w w' := by
 have HR0 := Aside0.mk hr0
 have HC0 := Aside0.mk hc0
 clear hr0 hc0
 have HR1 := Aside0.mk hr1
 have HC1 := Aside0.mk hc1
 clear hr1 hc1
 have H : (if (l0.length : Int) = (l1.length : Int) then (slices_Equal_int_int.l0 k l0 l1 (l0.length : Int) 0) else (some false)) = some r := h
 clear h
 by_cases c3 : (l0.length : Int) = (l1.length : Int)
 ·rw [if_pos c3] at H
  have c3b0 : ((l0.length : Int) == (l1.length : Int)) = true := beq_iff_eq.mpr c3
  have c3b1 : ((l0.length : Int) != (l1.length : Int)) = false := bne_eq_false_iff_eq.mpr c3
  have c3b2 : (l0.length == l1.length) = true := by first | simpa using c3 | (simp at c3 ⊢; omega)
  clear c3
  have H' := Aside0.mk H
  clear H
  go_enter Try.func117, Try.ntmps117
  go_wp2
  repeat (go_quiet (fail); try go_wp2)
  go_loopg [13] k (fun kq v13 w' => ∃ (x13_1 : Int), v13 = .int .i64 x13_1 ∧ Aside0 (slices_Equal_int_int.l0 kq l0 l1 (l0.length : Int) x13_1 = some r) ∧ Aside0 (kq ≤ k) ∧ Drawn0 w w')
  case atStart => exact ⟨(0), (by first | rfl | (simp; done) | (simp [*]; done)), H', ⟨Nat.le_refl _⟩, by repeat (first | exact Drawn0.refl _ | apply Drawn0.step)⟩
  case round =>
   clear H'
   try clear c1
   try clear p2
   try clear c3
   try clear c3b0
   try clear c3b1
   try clear c3b2
   obtain ⟨x13_1, rfl, HA, HK1, ⟨m1, rfl⟩⟩ := hrel
   cases gk with
   | zero => exact absurd HA.out (by simp [slices_Equal_int_int.l0])
   | succ k1 =>
    have H := HA.out
    clear HA
    simp only [slices_Equal_int_int.l0] at H
    by_cases c4 : x13_1 < (l0.length : Int)
    ·rw [if_pos c4] at H
     have c4b0 : decide (x13_1 < (l0.length : Int)) = true := decide_eq_true c4
     clear c4
     by_cases c5 : 0 ≤ x13_1
     ·rw [if_pos c5] at H
      have c5b0 : decide (0 ≤ x13_1) = true := decide_eq_true c5
      clear c5
      by_cases c6 : x13_1 < (l0.length : Int)
      ·rw [if_pos c6] at H
       have c6b0 : decide (x13_1 < (l0.length : Int)) = true := decide_eq_true c6
       clear c6
       by_cases c7 : x13_1 < (l1.length : Int)
       ·rw [if_pos c7] at H
        have c7b0 : decide (x13_1 < (l1.length : Int)) = true := decide_eq_true c7
        clear c7
        by_cases c8 : (rd l0 x13_1) = (rd l1 x13_1)
        ·rw [if_pos c8] at H
         have c8b0 : ((rd l0 x13_1) == (rd l1 x13_1)) = true := beq_iff_eq.mpr c8
         have c8b1 : ((rd l0 x13_1) != (rd l1 x13_1)) = false := bne_eq_false_iff_eq.mpr c8
         clear c8
         have H' := Aside0.mk H
         clear H
         have p999 : 0 ≤ (x13_1 : Int) := dd_
         have q999 : x13_1 < (l0.length : Int) := dd_
         obtain ⟨ad999, e999, hx999_0⟩ := Kd.at_int HR0.out x13_1 p999 q999
         cases e999
         replace p999 := eq_true p999
         replace q999 := eq_true q999
         have p1000 : 0 ≤ (x13_1 : Int) := dd_
         have q1000 : x13_1 < (l1.length : Int) := dd_
         obtain ⟨ad1000, e1000, hx1000_0⟩ := Kd.at_int HR1.out x13_1 p1000 q1000
         cases e1000
         replace p1000 := eq_true p1000
         replace q1000 := eq_true q1000
         go_wp2
         repeat (go_quiet (fail); try go_wp2)
         go_roundg k1
         case measure => have := HK1.out; omega
         case rel => exact ⟨(wrap64 (x13_1 + 1)), (by first | rfl | (simp; done) | (simp [*]; done)), H', ⟨by have := HK1.out; omega⟩, by repeat (first | exact Drawn0.refl _ | apply Drawn0.step)⟩
        ·rw [if_neg c8] at H
         have c8b0 : ((rd l0 x13_1) == (rd l1 x13_1)) = false := beq_eq_false_iff_ne.mpr c8
         have c8b1 : ((rd l0 x13_1) != (rd l1 x13_1)) = true := bne_iff_ne.mpr c8
         obtain rfl := Option.some.inj H
         have p999 : 0 ≤ (x13_1 : Int) := dd_
         have q999 : x13_1 < (l0.length : Int) := dd_
         obtain ⟨ad999, e999, hx999_0⟩ := Kd.at_int HR0.out x13_1 p999 q999
         cases e999
         replace p999 := eq_true p999
         replace q999 := eq_true q999
         have p1000 : 0 ≤ (x13_1 : Int) := dd_
         have q1000 : x13_1 < (l1.length : Int) := dd_
         obtain ⟨ad1000, e1000, hx1000_0⟩ := Kd.at_int HR1.out x13_1 p1000 q1000
         cases e1000
         replace p1000 := eq_true p1000
         replace q1000 := eq_true q1000
         go_wp2
         repeat (go_quiet (fail); try go_wp2)
         go_ret
         exact ⟨by first | rfl | (simp; done) | (simp [*]; done), by repeat (first | exact Drawn0.refl _ | apply Drawn0.step)⟩
       ·rw [if_neg c7] at H
        exact absurd H (by simp)
      ·rw [if_neg c6] at H
       exact absurd H (by simp)
     ·rw [if_neg c5] at H
      exact absurd H (by simp)
    ·rw [if_neg c4] at H
     have c4b0 : decide (x13_1 < (l0.length : Int)) = false := decide_eq_false c4
     clear c4
     obtain rfl := Option.some.inj H
     go_wp2
     repeat (go_quiet (fail); try go_wp2)
     go_ret
     exact ⟨by first | rfl | (simp; done) | (simp [*]; done), by repeat (first | exact Drawn0.refl _ | apply Drawn0.step)⟩
 ·rw [if_neg c3] at H
  have c3b0 : ((l0.length : Int) == (l1.length : Int)) = false := beq_eq_false_iff_ne.mpr c3
  have c3b1 : ((l0.length : Int) != (l1.length : Int)) = true := bne_iff_ne.mpr c3
  have c3b2 : (l0.length == l1.length) = false := by first | simpa using c3 | (simp at c3 ⊢; omega)
  obtain rfl := Option.some.inj H
  go_enter Try.func117, Try.ntmps117
  go_wp2
  repeat (go_quiet (fail); try go_wp2)
  go_ret
  exact ⟨by first | rfl | (simp; done) | (simp [*]; done), by repeat (first | exact Drawn0.refl _ | apply Drawn0.step)⟩
end Go.Proofs.Ytbfafjejmljcpaa.P

set_option linter.unusedVariables false
set_option linter.unusedSimpArgs false
namespace Go.Proofs.Ytbfafjejmljcpaa.X
open Go.RowKit Go.Proofs.YtbfafjejmljcpaaW.PrintWords Go.Proofs.YtbfafjejmljcpaaW.PrintLast Go.Proofs.Ytbfafjejmljcpaa.P

def FnS (g : Nat) (lb : Array Value) (w : World) (D : List Int → Prop) (p : List Int → Bool) : Prop :=
  ∀ (W : World) (A : Option Addr) (c : Nat) (x : List Int), Below w.heap.size w W → D x → Kd.C (Kd.int .i64) W A x.length x → x.length ≤ c → Calls Try.prog g (#[.slice A x.length c] ++ lb) W fun e W' => e = .returned (.bool (p x)) ∧ Below W.heap.size W W'
def idxS (p : List Int → Bool) (l : List (List Int)) : Int := match l.findIdx? p with | some i => i | none => -1
theorem rd_L1_get {l : List (List Int)} {j : Nat} (h : j < l.length) : rd_LI l (j : Int) = l[j] := by
  unfold rd_LI
  rw [List.getD_eq_getElem?_getD]
  simp [h]
theorem idxS_none {p : List Int → Bool} {l : List (List Int)} (h : ∀ j : Nat, (j : Int) < l.length → p (rd_LI l j) = false) : idxS p l = -1 := by
  have : l.findIdx? p = none := by
    rw [List.findIdx?_eq_none_iff]
    intro x hx
    obtain ⟨j, hj, rfl⟩ := List.mem_iff_getElem.1 hx
    have := h j (by omega)
    rwa [rd_L1_get hj] at this
  unfold idxS; rw [this]
theorem idxS_some {p : List Int → Bool} {l : List (List Int)} (i : Int) (h0 : 0 ≤ i) (h1 : i < l.length) (hp : p (rd_LI l i) = true) (h : ∀ j : Nat, (j : Int) < i → p (rd_LI l j) = false) : idxS p l = i := by
  have : l.findIdx? p = some i.toNat := by
    rw [List.findIdx?_eq_some_iff_getElem]
    refine ⟨by omega, ?_, ?_⟩
    · rw [← rd_L1_get (by omega), Int.toNat_of_nonneg h0]; exact hp
    · intro j hj
      have := h j (by omega)
      rw [rd_L1_get (by omega)] at this
      rw [this]; decide
  unfold idxS; rw [this]; show ((i.toNat : Nat) : Int) = i; omega
theorem idxS_any (p : List Int → Bool) (l : List (List Int)) : decide (0 ≤ idxS p l) = l.any p := by
  unfold idxS
  cases h : l.findIdx? p with
  | none =>
    rw [List.findIdx?_eq_none_iff] at h
    have : l.any p = false := by rw [List.any_eq_false]; intro x hx; simp [h x hx]
    rw [this]; rfl
  | some i =>
    obtain ⟨hi, hp, _⟩ := List.findIdx?_eq_some_iff_getElem.1 h
    have : l.any p = true := List.any_eq_true.2 ⟨_, List.getElem_mem hi, hp⟩
    rw [this]; simp
theorem rd_L1_mem {l : List (List Int)} {i : Int} (h1 : i < l.length) (h0 : 0 ≤ i) : rd_LI l i ∈ l := by
  unfold rd_LI
  rw [List.getD_eq_getElem?_getD, List.getElem?_eq_getElem (by omega)]
  exact List.getElem_mem _
set_option maxHeartbeats 4000000 in
theorem indexFuncS_calls (g : Nat) (lb : Array Value) (eg : Eg g) (p : List Int → Bool) (A0 : Option Addr) (c0 : Nat) (l : List (List Int)) (w : World) (hr : Kd.C (Kd.slice 3 (Kd.int .i64)) w A0 l.length l) (hp : FnS g lb w (fun x => x ∈ l) p) :
    Calls Try.prog 144 #[.slice A0 l.length c0, .func (.func g) #[] lb] w fun e w' => e = .returned (.int .i64 (idxS p l)) ∧ Below w.heap.size w w' := by
  have HR0 := Aside0.mk hr
  have HP := Aside0.mk hp
  have hm : l.length ≤ 9223372036854775807 := hr.2.1
  clear hr hp
  unfold Eg at eg
  go_enter Try.func144, Try.ntmps144
  go_wp2
  go_loopg [8] l.length (fun kq v8 w' => ∃ i : Int, v8 = .int .i64 i ∧ Aside0 (0 ≤ i ∧ i ≤ l.length) ∧ Aside0 ((l.length : Int) - i ≤ kq) ∧ Aside0 (∀ j : Nat, (j : Int) < i → p (rd_LI l j) = false) ∧ Aside0 (Below w.heap.size w w'))
  case atStart => exact ⟨0, rfl, ⟨by omega⟩, ⟨by omega⟩, ⟨fun j hj => by omega⟩, ⟨Below.refl _ _⟩⟩
  case round =>
    obtain ⟨i, rfl, HI, HK, HA, HB⟩ := hrel
    have h0 : 0 ≤ i := HI.out.1
    by_cases c6 : i < (l.length : Int)
    · obtain ⟨ad, A1, c1, e1, hx, hcap, hin⟩ := at_LI HR0.out i h0 c6
      cases e1
      replace hx := pw_cell_below HB.out hx
      have hcall := HP.out wr A1 c1 (rd_LI l i) HB.out (rd_L1_mem c6 h0) (Kd.C_below hin HB.out) hcap
      clear hin hcap
      by_cases hv : p (rd_LI l i) = true
      · rw [hv] at hcall
        have HV := Aside0.mk hv
        have HC := Aside0.mk hcall
        clear hcall hv
        go_wp2_with (go_at_fn g; refine HC.out.mono ?_; rintro e w' ⟨rfl, hb'⟩)
        go_ret
        exact ⟨by rw [idxS_some i h0 c6 HV.out HA.out]; rfl, bstep HB.out hb'⟩
      · have hv := Bool.eq_false_iff.2 hv
        rw [hv] at hcall
        have HV := Aside0.mk hv
        have HC := Aside0.mk hcall
        clear hcall hv
        go_wp2_with (go_at_fn g; refine HC.out.mono ?_; rintro e w' ⟨rfl, hb'⟩)
        go_roundg (l.length - (i.toNat + 1))
        case measure => have := HK.out; omega
        case rel =>
          refine ⟨i + 1, rfl, ⟨by omega⟩, ⟨by omega⟩, ⟨fun j hj => ?_⟩, ⟨bstep HB.out hb'⟩⟩
          by_cases e : (j : Int) = i
          · rw [e]; exact HV.out
          · exact HA.out j (by omega)
    · go_wp2
      go_ret
      have hi : i = l.length := by have := HI.out; omega
      exact ⟨by rw [idxS_none (fun j hj => HA.out j (by omega))]; rfl, HB.out⟩
set_option maxHeartbeats 1000000 in
theorem containsFuncS_calls (g : Nat) (lb : Array Value) (eg : Eg g) (p : List Int → Bool) (A0 : Option Addr) (c0 : Nat) (l : List (List Int)) (w : World) (hr : Kd.C (Kd.slice 3 (Kd.int .i64)) w A0 l.length l) (hp : FnS g lb w (fun x => x ∈ l) p) :
    Calls Try.prog 115 #[.slice A0 l.length c0, .func (.func g) #[] lb] w fun e w' => e = .returned (.bool (l.any p)) ∧ Below w.heap.size w w' := by
  have HC := Aside0.mk (indexFuncS_calls g lb eg p A0 c0 l w hr hp)
  rw [← idxS_any]
  clear hr hp
  go_enter Try.func115, Try.ntmps115
  go_wp2_with (go_at_call 144; refine HC.out.mono ?_; rintro e w' ⟨rfl, hb'⟩)
  go_ret
  exact ⟨rfl, hb'⟩
theorem equal_loop (a b : List Int) (hl : a.length ≤ 1099511627776) (hab : a.length = b.length) (d : Nat) : ∀ (i : Int), 0 ≤ i → i + d = a.length → (∀ j : Nat, (j : Int) < i → rd a (j : Int) = rd b (j : Int)) → Ev (fun k => slices_Equal_int_int.l0 k a b (a.length : Int) i) (decide (a = b)) := by
  induction d with
  | zero =>
    intro i h0 h1 h
    refine Ev.step (fun k => by rw [slices_Equal_int_int.l0]) ?_
    refine Ev.neg (by omega) (Ev.done ?_)
    rw [decide_eq_true (ext_rd hab fun j hj => h j (by omega))]
  | succ d ih =>
    intro i h0 h1 h
    refine Ev.step (fun k => by rw [slices_Equal_int_int.l0]) ?_
    rw [w64 (x := i + 1) (by omega) (by omega)]
    refine Ev.pos (by omega) (Ev.pos (by omega) (Ev.pos (by omega) (Ev.pos (by omega) ?_)))
    by_cases e : rd a i = rd b i
    · refine Ev.pos e (ih (i + 1) (by omega) (by omega) fun j hj => ?_)
      by_cases ej : (j : Int) = i
      · rw [ej]; exact e
      · exact h j (by omega)
    · refine Ev.neg e (Ev.done ?_)
      rw [decide_eq_false (fun hab => e (by rw [hab]))]
theorem equal_ev (a b : List Int) (hl : a.length ≤ 1099511627776) : Ev (fun k => slices_Equal_int_int.f k a b) (decide (a = b)) := by
  unfold slices_Equal_int_int.f
  by_cases h : a.length = b.length
  · exact Ev.pos (by omega) (equal_loop a b hl h a.length 0 (by omega) (by omega) fun j hj => by omega)
  · refine Ev.neg (by omega) (Ev.done ?_)
    rw [decide_eq_false (fun hab => h (by rw [hab]))]
set_option maxHeartbeats 1000000 in
theorem hasLeaf1_calls (b : Nat) (A0 : Option Addr) (c0 : Nat) (t : List Int) (w : World) (hb : BoxT w b A0 c0 t) (hc0 : t.length ≤ c0) (A : Option Addr) (c : Nat) (x : List Int) (hl : x.length ≤ 1099511627776) (hx : Kd.C (Kd.int .i64) w A x.length x) (hc : x.length ≤ c) :
    Calls Try.prog 116 #[.slice A x.length c, .pointer (some ⟨b, 0, none⟩)] w fun e w' => e = .returned (.bool (decide (x = t))) ∧ Below w.heap.size w w' := by
  obtain ⟨k, hk⟩ := (equal_ev x t hl).rounds
  have HC := Aside0.mk (slices_Equal_int_int.calls k A c x A0 c0 t _ w hx hc hb.read hc0 hk)
  have hcell := hb.cell
  clear hb hx hk
  go_enter Try.func116, Try.ntmps116
  go_wp2_with (go_at_call 117; refine HC.out.mono ?_; rintro e w' ⟨rfl, ⟨nd, rfl⟩⟩)
  go_ret
  exact ⟨rfl, Drawn0.below ⟨⟨_, rfl⟩⟩⟩
theorem entersHL1 : Eg 116 := enters_of Try.func116 (by kernel_rfl) rfl
set_option maxHeartbeats 1000000 in
theorem hasLeaf_calls (A0 : Option Addr) (c0 : Nat) (l : List (List Int)) (A1 : Option Addr) (c1 : Nat) (t : List Int) (w : World) (hr : Kd.C (Kd.slice 3 (Kd.int .i64)) w A0 l.length l) (hr1 : Kd.C (Kd.int .i64) w A1 t.length t) (hc1 : t.length ≤ c1) (hl : ∀ x ∈ l, x.length ≤ 1099511627776) :
    Calls Try.prog 82 #[.slice A0 l.length c0, .slice A1 t.length c1] w fun e w' => e = .returned (.bool (decide (t ∈ l))) ∧ Below w.heap.size w w' := by
  have hmf : ∀ (fn : Fn) (first cap : Array Value) (w : World), (Instr.makeFunc fn first cap).run Try.prog w = .ok (.func fn first cap) w := fun _ _ _ _ => rfl
  have hb0 : Below w.heap.size w (w.alloc (.cells #[.slice A1 t.length c1] 23)) := (Below.refl _ _).alloc (Nat.le_refl _) _
  have hb1 : (w.alloc (.cells #[.slice A1 t.length c1] 23)).cell? ⟨w.heap.size, 0, none⟩ = some (.slice A1 t.length c1) := World.cell?_alloc_new w _ _ 0
  have hbx : BoxT (w.alloc (.cells #[.slice A1 t.length c1] 23)) w.heap.size A1 c1 t := ⟨hb1, Kd.C_below hr1 hb0⟩
  have hcall := containsFuncS_calls 116 #[.pointer (some ⟨w.heap.size, 0, none⟩)] entersHL1 (fun x => decide (x = t)) A0 c0 l _ (Kd.C_below hr hb0)
    (fun W A c x hW hd hx hc => hasLeaf1_calls _ A1 c1 t W (hbx.below hW) hc1 A c x (hl x hd) hx hc)
  have e : (l.any fun x => decide (x = t)) = decide (t ∈ l) := by
    cases h : l.any fun x => decide (x = t) with
    | true => obtain ⟨x, hx, hxt⟩ := List.any_eq_true.1 h; have := of_decide_eq_true hxt; subst this; exact (decide_eq_true hx).symm
    | false => exact (decide_eq_false fun ht => by have := List.any_eq_false.1 h t ht; exact this (decide_eq_true rfl)).symm
  rw [e] at hcall
  have HC := Aside0.mk hcall
  have HB := Aside0.mk hb0
  clear hr hr1 hb0 hb1 hbx hcall e hl
  go_enter Try.func82, Try.ntmps82
  go_wp2_with (go_at_call 115; refine HC.out.mono ?_; rintro e w' ⟨rfl, hb⟩)
  go_ret
  exact ⟨rfl, bstep HB.out hb⟩
end Go.Proofs.Ytbfafjejmljcpaa.X
namespace Go.Proofs.Ytbfafjejmljcpaa.P
open Go.RowKit Go.Proofs.YtbfafjejmljcpaaW.PrintWords Go.Proofs.YtbfafjejmljcpaaW.PrintLast
def impl_hasLeaf.f (l0 : List (List Int)) (l1 : List Int) : Option Bool := if (l0.all fun x => decide (x.length ≤ 1099511627776)) = true then some (decide (l1 ∈ l0)) else none
theorem impl_hasLeaf.calls (A0 : Option Addr) (c0 : Nat) (l0 : List (List Int)) (A1 : Option Addr) (c1 : Nat) (l1 : List Int) (r : Bool) (w : World) (hr0 : Kd.C (Kd.slice 3 (Kd.int .i64)) w A0 l0.length l0) (hc0 : l0.length ≤ c0) (hr1 : Kd.C (Kd.int .i64) w A1 l1.length l1) (hc1 : l1.length ≤ c1) (h : impl_hasLeaf.f l0 l1 = some r) :
    Calls Try.prog 82 #[.slice A0 l0.length c0, .slice A1 l1.length c1] w fun e w' => e = .returned (.bool r) ∧ Below w.heap.size w w' := by
  unfold impl_hasLeaf.f at h
  by_cases hl : (l0.all fun x => decide (x.length ≤ 1099511627776)) = true
  · rw [if_pos hl] at h
    obtain rfl := Option.some.inj h
    exact X.hasLeaf_calls A0 c0 l0 A1 c1 l1 w hr0 hr1 hc1 fun x hx => of_decide_eq_true (List.all_eq_true.1 hl x hx)
  · rw [if_neg hl] at h; exact absurd h (by simp)
end Go.Proofs.Ytbfafjejmljcpaa.P

namespace Go.Proofs.Ytbfafjejmljcpaa.P
open Go.RowKit Go.Proofs.YtbfafjejmljcpaaW.PrintWords Go.Proofs.YtbfafjejmljcpaaW.PrintLast
set_option linter.unusedVariables false
set_option linter.unusedSimpArgs false

def impl_sameLeaves.l0 : Nat → List (List Int) → Int → List (List Int) → Int → Int → Option (Int)
 | 0, _, _, _, _, _ => none
 | k + 1, x1, x5, x8, x9, x10 => if x10 < x9 then (if 0 ≤ x10 then (if x10 < (x8.length : Int) then ((impl_hasLeaf.f x1 (rd_LI x8 x10)).bind fun t656 => (if t656 = true then (impl_sameLeaves.l0 k x1 (wrap64 (x5 + 1)) x8 x9 (wrap64 (x10 + 1))) else (impl_sameLeaves.l0 k x1 x5 x8 x9 (wrap64 (x10 + 1))))) else (none)) else (none)) else (some x5)
def impl_sameLeaves.f (k : Nat) (l0 : List (List Int)) (l1 : List (List Int)) : Option (Int) := impl_sameLeaves.l0 k l1 0 l0 (l0.length : Int) 0
set_option maxHeartbeats 8000000 in
set_option maxRecDepth 100000 in
theorem impl_sameLeaves.calls (k : Nat) (A0 : Option Addr) (c0 : Nat) (l0 : List (List Int)) (A1 : Option Addr) (c1 : Nat) (l1 : List (List Int)) (r : Int) (w : World) (hr0 : Kd.C (Kd.slice 3 (Kd.int .i64)) w A0 l0.length l0) (hc0 : l0.length ≤ c0) (hr1 : Kd.C (Kd.slice 3 (Kd.int .i64)) w A1 l1.length l1) (hc1 : l1.length ≤ c1) (h : impl_sameLeaves.f k l0 l1 = some r) :
  Calls Try.prog 52 #[.slice A0 l0.length c0, .slice A1 l1.length c1] w fun e w' => e = .returned (.int .i64 r) ∧ Below w.heap.size w w' := by
 have HR0 := Aside0.mk hr0
 have HC0 := Aside0.mk hc0
 clear hr0 hc0
 have HR1 := Aside0.mk hr1
 have HC1 := Aside0.mk hc1
 clear hr1 hc1
 have HB := Aside0.mk (Below.refl w.heap.size w)
 have H : (impl_sameLeaves.l0 k l1 0 l0 (l0.length : Int) 0) = some r := h
 clear h
 have H' := Aside0.mk H
 clear H
 go_enter Try.func52, Try.ntmps52
 go_wp2
 go_loopg [5, 10] k (fun kq v5 v10 w' => ∃ (x5_1 : Int) (x10_1 : Int), v5 = .int .i64 x5_1 ∧ v10 = .int .i64 x10_1 ∧ Aside0 (impl_sameLeaves.l0 kq l1 x5_1 l0 (l0.length : Int) x10_1 = some r) ∧ Aside0 (kq ≤ k) ∧ Aside0 (Below w.heap.size w w'))
 case atStart => exact ⟨(0), (0), (by first | rfl | (simp; done) | (simp [*]; done)), (by first | rfl | (simp; done) | (simp [*]; done)), H', ⟨Nat.le_refl _⟩, ⟨by repeat (first | (with_reducible first | exact HB.out | apply below_alloc | apply pw_below_drewN | apply below_drew1) | exact HB.out)⟩⟩
 case round =>
  clear H'
  try clear c1
  try clear p2
  obtain ⟨x5_1, x10_1, rfl, rfl, HA, HK1, HB⟩ := hrel
  cases gk with
  | zero => exact absurd HA.out (by simp [impl_sameLeaves.l0])
  | succ k1 =>
   have H := HA.out
   clear HA
   simp only [impl_sameLeaves.l0] at H
   by_cases c3 : x10_1 < (l0.length : Int)
   ·rw [if_pos c3] at H
    have c3b0 : decide (x10_1 < (l0.length : Int)) = true := decide_eq_true c3
    clear c3
    by_cases c4 : 0 ≤ x10_1
    ·rw [if_pos c4] at H
     have c4b0 : decide (0 ≤ x10_1) = true := decide_eq_true c4
     clear c4
     by_cases c5 : x10_1 < (l0.length : Int)
     ·rw [if_pos c5] at H
      have c5b0 : decide (x10_1 < (l0.length : Int)) = true := decide_eq_true c5
      clear c5
      replace H := Option.bind_eq_some_iff.mp H
      obtain ⟨t656, A60, H⟩ := H
      replace H : (if t656 = true then (impl_sameLeaves.l0 k1 l1 (wrap64 (x5_1 + 1)) l0 (l0.length : Int) (wrap64 (x10_1 + 1))) else (impl_sameLeaves.l0 k1 l1 x5_1 l0 (l0.length : Int) (wrap64 (x10_1 + 1)))) = some r := H
      have A6 := Aside0.mk A60
      clear A60
      by_cases c7 : t656 = true
      ·subst c7
       have H1 : (impl_sameLeaves.l0 k1 l1 (wrap64 (x5_1 + 1)) l0 (l0.length : Int) (wrap64 (x10_1 + 1))) = some r := by rw [if_pos rfl] at H; exact H
       clear H
       have H := H1
       clear H1
       have H' := Aside0.mk H
       clear H
       have p655 : 0 ≤ (x10_1 : Int) := dd_
       have q655 : x10_1 < (l0.length : Int) := dd_
       obtain ⟨ad655, A655_0, c655_0, e655, hx655_0, hl655_0, hi655_0⟩ := at_LI HR0.out x10_1 p655 q655
       cases e655
       replace hx655_0 := hc_ HB hx655_0
       have HR655_0 := Aside0.mk hi655_0
       have HC655_0 := Aside0.mk hl655_0
       clear hi655_0 hl655_0
       replace p655 := eq_true p655
       replace q655 := eq_true q655
       go_wp2_with (first | (refine goesL_ (some 16) rfl rfl Try.func82 (by kernel_rfl) rfl #[.slice A1 l1.length c1, .slice A655_0 (rd_LI l0 x10_1).length c655_0] rfl ll_ ?_; (with_reducible refine (impl_hasLeaf.calls _ _ l1 _ _ (rd_LI l0 x10_1) true _ ?side1 ?side2 ?side3 ?side4 A6.out).mono ?_); (case side1 => exact sb_ HR1 HB); (case side2 => exact HC1.out); (case side3 => exact sb_ HR655_0 HB); (case side4 => exact HC655_0.out); rintro e w8 ⟨rfl, hb⟩; refine ⟨_, rfl, ?_⟩; have n0_ := Aside0.mk (below_step (bb_ HB) hb); clear HB; have HB := n0_; clear n0_; (try clear hb); (try clear hb2); (try clear hk); (try clear hi)))
       go_roundg k1
       case measure => have := HK1.out; omega
       case rel => exact ⟨(wrap64 (x5_1 + 1)), (wrap64 (x10_1 + 1)), (by first | rfl | (simp; done) | (simp [*]; done)), (by first | rfl | (simp; done) | (simp [*]; done)), H', ⟨by have := HK1.out; omega⟩, ⟨by repeat (first | (with_reducible first | exact HB.out | apply below_alloc | apply pw_below_drewN | apply below_drew1) | exact HB.out)⟩⟩
      ·replace c7 := Bool.eq_false_iff.mpr c7
       subst c7
       have H1 : (impl_sameLeaves.l0 k1 l1 x5_1 l0 (l0.length : Int) (wrap64 (x10_1 + 1))) = some r := by rw [if_neg (show ¬ (false = true) by decide)] at H; exact H
       clear H
       have H := H1
       clear H1
       have H' := Aside0.mk H
       clear H
       have p655 : 0 ≤ (x10_1 : Int) := dd_
       have q655 : x10_1 < (l0.length : Int) := dd_
       obtain ⟨ad655, A655_0, c655_0, e655, hx655_0, hl655_0, hi655_0⟩ := at_LI HR0.out x10_1 p655 q655
       cases e655
       replace hx655_0 := hc_ HB hx655_0
       have HR655_0 := Aside0.mk hi655_0
       have HC655_0 := Aside0.mk hl655_0
       clear hi655_0 hl655_0
       replace p655 := eq_true p655
       replace q655 := eq_true q655
       go_wp2_with (first | (refine goesL_ (some 16) rfl rfl Try.func82 (by kernel_rfl) rfl #[.slice A1 l1.length c1, .slice A655_0 (rd_LI l0 x10_1).length c655_0] rfl ll_ ?_; (with_reducible refine (impl_hasLeaf.calls _ _ l1 _ _ (rd_LI l0 x10_1) false _ ?side1 ?side2 ?side3 ?side4 A6.out).mono ?_); (case side1 => exact sb_ HR1 HB); (case side2 => exact HC1.out); (case side3 => exact sb_ HR655_0 HB); (case side4 => exact HC655_0.out); rintro e w9 ⟨rfl, hb⟩; refine ⟨_, rfl, ?_⟩; have n0_ := Aside0.mk (below_step (bb_ HB) hb); clear HB; have HB := n0_; clear n0_; (try clear hb); (try clear hb2); (try clear hk); (try clear hi)))
       go_roundg k1
       case measure => have := HK1.out; omega
       case rel => exact ⟨(x5_1), (wrap64 (x10_1 + 1)), (by first | rfl | (simp; done) | (simp [*]; done)), (by first | rfl | (simp; done) | (simp [*]; done)), H', ⟨by have := HK1.out; omega⟩, ⟨by repeat (first | (with_reducible first | exact HB.out | apply below_alloc | apply pw_below_drewN | apply below_drew1) | exact HB.out)⟩⟩
     ·rw [if_neg c5] at H
      exact absurd H (by simp)
    ·rw [if_neg c4] at H
     exact absurd H (by simp)
   ·rw [if_neg c3] at H
    have c3b0 : decide (x10_1 < (l0.length : Int)) = false := decide_eq_false c3
    clear c3
    obtain rfl := Option.some.inj H
    go_wp2
    go_ret
    exact ⟨ee_, bb_ HB⟩
end Go.Proofs.Ytbfafjejmljcpaa.P

namespace Go.Proofs.Ytbfafjejmljcpaa.P
open Go.RowKit Go.Proofs.YtbfafjejmljcpaaW.PrintWords Go.Proofs.YtbfafjejmljcpaaW.PrintLast
set_option linter.unusedVariables false
set_option linter.unusedSimpArgs false

def impl_SpreadSame.f (k : Nat) (l0 : List (List Int)) (l1 : List (List Int)) : Option (Int × Bool) := (impl_isSpread.f l0).bind fun t657 => (if t657 = true then ((impl_isSpread.f l1).bind fun t658 => (if t658 = true then ((impl_sameLeaves.f k l0 l1).bind fun t659 => (some (t659, true))) else (some (0, false)))) else (some (0, false)))
set_option maxHeartbeats 8000000 in
set_option maxRecDepth 100000 in
theorem impl_SpreadSame.calls (k : Nat) (A0 : Option Addr) (c0 : Nat) (l0 : List (List Int)) (A1 : Option Addr) (c1 : Nat) (l1 : List (List Int)) (r1 : Int) (r2 : Bool) (w : World) (hr0 : Kd.C (Kd.slice 3 (Kd.int .i64)) w A0 l0.length l0) (hc0 : l0.length ≤ c0) (hr1 : Kd.C (Kd.slice 3 (Kd.int .i64)) w A1 l1.length l1) (hc1 : l1.length ≤ c1) (h : impl_SpreadSame.f k l0 l1 = some (r1, r2)) :
  Calls Try.prog 19 #[.slice A0 l0.length c0, .slice A1 l1.length c1] w fun e w' => e = .returned (.tuple #[.int .i64 r1, .bool r2]) ∧ Below w.heap.size w w' := by
 have HR0 := Aside0.mk hr0
 have HC0 := Aside0.mk hc0
 clear hr0 hc0
 have HR1 := Aside0.mk hr1
 have HC1 := Aside0.mk hc1
 clear hr1 hc1
 have HB := Aside0.mk (Below.refl w.heap.size w)
 have H : ((impl_isSpread.f l0).bind fun t657 => (if t657 = true then ((impl_isSpread.f l1).bind fun t658 => (if t658 = true then ((impl_sameLeaves.f k l0 l1).bind fun t659 => (some (t659, true))) else (some (0, false)))) else (some (0, false)))) = some (r1, r2) := h
 clear h
 replace H := Option.bind_eq_some_iff.mp H
 obtain ⟨t657, A30, H⟩ := H
 replace H : (if t657 = true then ((impl_isSpread.f l1).bind fun t658 => (if t658 = true then ((impl_sameLeaves.f k l0 l1).bind fun t659 => (some (t659, true))) else (some (0, false)))) else (some (0, false))) = some (r1, r2) := H
 have A3 := Aside0.mk A30
 clear A30
 by_cases c4 : t657 = true
 ·subst c4
  have H1 : ((impl_isSpread.f l1).bind fun t658 => (if t658 = true then ((impl_sameLeaves.f k l0 l1).bind fun t659 => (some (t659, true))) else (some (0, false)))) = some (r1, r2) := by rw [if_pos rfl] at H; exact H
  clear H
  have H := H1
  clear H1
  replace H := Option.bind_eq_some_iff.mp H
  obtain ⟨t658, A50, H⟩ := H
  replace H : (if t658 = true then ((impl_sameLeaves.f k l0 l1).bind fun t659 => (some (t659, true))) else (some (0, false))) = some (r1, r2) := H
  have A5 := Aside0.mk A50
  clear A50
  by_cases c6 : t658 = true
  ·subst c6
   have H1 : ((impl_sameLeaves.f k l0 l1).bind fun t659 => (some (t659, true))) = some (r1, r2) := by rw [if_pos rfl] at H; exact H
   clear H
   have H := H1
   clear H1
   replace H := Option.bind_eq_some_iff.mp H
   obtain ⟨t659, A70, H⟩ := H
   replace H : (some (t659, true)) = some (r1, r2) := H
   have A7 := Aside0.mk A70
   clear A70
   simp only [Option.some.injEq, Prod.mk.injEq] at H
   obtain ⟨rfl, rfl⟩ := H
   go_enter Try.func19, Try.ntmps19
   go_wp2_with (first | (refine goesL_ (some 7) rfl rfl Try.func51 (by kernel_rfl) rfl #[.slice A0 l0.length c0] rfl ll_ ?_; (with_reducible refine (impl_isSpread.calls _ _ l0 true _ ?side1 ?side2 A3.out).mono ?_); (case side1 => exact ss_ HR0); (case side2 => exact HC0.out); rintro e w8 ⟨rfl, hb⟩; refine ⟨_, rfl, ?_⟩; have n0_ := Aside0.mk (below_step (bb_ HB) hb); clear HB; have HB := n0_; clear n0_; (try clear hb); (try clear hb2); (try clear hk); (try clear hi)) | (go_at_call 51; (with_reducible refine (impl_isSpread.calls _ _ l1 true _ ?side1 ?side2 A5.out).mono ?_); (case side1 => exact sb_ HR1 HB); (case side2 => exact HC1.out); rintro e w9 ⟨rfl, hb⟩; have n0_ := Aside0.mk (below_step (bb_ HB) hb); clear HB; have HB := n0_; clear n0_; (try clear hb); (try clear hb2); (try clear hk); (try clear hi)) | (refine goesL_ (some 16) rfl rfl Try.func52 (by kernel_rfl) rfl #[.slice A0 l0.length c0, .slice A1 l1.length c1] rfl ll_ ?_; (with_reducible refine (impl_sameLeaves.calls k _ _ l0 _ _ l1 t659 _ ?side1 ?side2 ?side3 ?side4 A7.out).mono ?_); (case side1 => exact sb_ HR0 HB); (case side2 => exact HC0.out); (case side3 => exact sb_ HR1 HB); (case side4 => exact HC1.out); rintro e w10 ⟨rfl, hb⟩; refine ⟨_, rfl, ?_⟩; have n0_ := Aside0.mk (below_step (bb_ HB) hb); clear HB; have HB := n0_; clear n0_; (try clear hb); (try clear hb2); (try clear hk); (try clear hi)))
   go_ret2
   exact ⟨ee_, bb_ HB⟩
  ·replace c6 := Bool.eq_false_iff.mpr c6
   subst c6
   have H1 : (some (0, false)) = some (r1, r2) := by rw [if_neg (show ¬ (false = true) by decide)] at H; exact H
   clear H
   have H := H1
   clear H1
   simp only [Option.some.injEq, Prod.mk.injEq] at H
   obtain ⟨rfl, rfl⟩ := H
   go_enter Try.func19, Try.ntmps19
   go_wp2_with (first | (refine goesL_ (some 7) rfl rfl Try.func51 (by kernel_rfl) rfl #[.slice A0 l0.length c0] rfl ll_ ?_; (with_reducible refine (impl_isSpread.calls _ _ l0 true _ ?side1 ?side2 A3.out).mono ?_); (case side1 => exact ss_ HR0); (case side2 => exact HC0.out); rintro e w11 ⟨rfl, hb⟩; refine ⟨_, rfl, ?_⟩; have n0_ := Aside0.mk (below_step (bb_ HB) hb); clear HB; have HB := n0_; clear n0_; (try clear hb); (try clear hb2); (try clear hk); (try clear hi)) | (go_at_call 51; (with_reducible refine (impl_isSpread.calls _ _ l1 false _ ?side1 ?side2 A5.out).mono ?_); (case side1 => exact sb_ HR1 HB); (case side2 => exact HC1.out); rintro e w12 ⟨rfl, hb⟩; have n0_ := Aside0.mk (below_step (bb_ HB) hb); clear HB; have HB := n0_; clear n0_; (try clear hb); (try clear hb2); (try clear hk); (try clear hi)))
   go_ret2
   exact ⟨ee_, bb_ HB⟩
 ·replace c4 := Bool.eq_false_iff.mpr c4
  subst c4
  have H1 : (some (0, false)) = some (r1, r2) := by rw [if_neg (show ¬ (false = true) by decide)] at H; exact H
  clear H
  have H := H1
  clear H1
  simp only [Option.some.injEq, Prod.mk.injEq] at H
  obtain ⟨rfl, rfl⟩ := H
  go_enter Try.func19, Try.ntmps19
  go_wp2_with (first | (refine goesL_ (some 7) rfl rfl Try.func51 (by kernel_rfl) rfl #[.slice A0 l0.length c0] rfl ll_ ?_; (with_reducible refine (impl_isSpread.calls _ _ l0 false _ ?side1 ?side2 A3.out).mono ?_); (case side1 => exact ss_ HR0); (case side2 => exact HC0.out); rintro e w13 ⟨rfl, hb⟩; refine ⟨_, rfl, ?_⟩; have n0_ := Aside0.mk (below_step (bb_ HB) hb); clear HB; have HB := n0_; clear n0_; (try clear hb); (try clear hb2); (try clear hk); (try clear hi)))
  go_ret2
  exact ⟨ee_, bb_ HB⟩
end Go.Proofs.Ytbfafjejmljcpaa.P

namespace Go.Proofs.Ytbfafjejmljcpaa.P
open Go.RowKit Go.Proofs.YtbfafjejmljcpaaW.PrintWords Go.Proofs.YtbfafjejmljcpaaW.PrintLast
set_option linter.unusedVariables false
set_option linter.unusedSimpArgs false

def laws_sameInts.l0 : Nat → List Int → List Int → Int → Option (Bool)
 | 0, _, _, _ => none
 | k + 1, x0, x1, x5 => if x5 < (x0.length : Int) then (if 0 ≤ x5 then (if x5 < (x1.length : Int) then (if (rd x0 x5) = (rd x1 x5) then (laws_sameInts.l0 k x0 x1 (wrap64 (x5 + 1))) else (some false)) else (none)) else (none)) else (some true)
def laws_sameInts.f (k : Nat) (l0 : List Int) (l1 : List Int) : Option (Bool) := if (l0.length : Int) = (l1.length : Int) then (laws_sameInts.l0 k l0 l1 0) else (some false)
set_option maxHeartbeats 8000000 in
set_option maxRecDepth 100000 in
theorem laws_sameInts.calls (k : Nat) (A0 : Option Addr) (c0 : Nat) (l0 : List Int) (A1 : Option Addr) (c1 : Nat) (l1 : List Int) (r : Bool) (w : World) (hr0 : Kd.C (Kd.int .i64) w A0 l0.length l0) (hc0 : l0.length ≤ c0) (hr1 : Kd.C (Kd.int .i64) w A1 l1.length l1) (hc1 : l1.length ≤ c1) (h : laws_sameInts.f k l0 l1 = some r) :
  Calls Try.prog 17 #[.slice A0 l0.length c0, .slice A1 l1.length c1] w fun e w' => e = .returned (.bool r) ∧ Drawn0 w w' := by
 have HR0 := Aside0.mk hr0
 have HC0 := Aside0.mk hc0
 clear hr0 hc0
 have HR1 := Aside0.mk hr1
 have HC1 := Aside0.mk hc1
 clear hr1 hc1
 have H : (if (l0.length : Int) = (l1.length : Int) then (laws_sameInts.l0 k l0 l1 0) else (some false)) = some r := h
 clear h
 by_cases c3 : (l0.length : Int) = (l1.length : Int)
 ·rw [if_pos c3] at H
  have c3b0 : ((l0.length : Int) == (l1.length : Int)) = true := beq_iff_eq.mpr c3
  have c3b1 : ((l0.length : Int) != (l1.length : Int)) = false := bne_eq_false_iff_eq.mpr c3
  have c3b2 : (l0.length == l1.length) = true := by first | simpa using c3 | (simp at c3 ⊢; omega)
  clear c3
  have H' := Aside0.mk H
  clear H
  go_enter Try.func17, Try.ntmps17
  go_wp2
  repeat (go_quiet (fail); try go_wp2)
  go_loopg [5] k (fun kq v5 w' => ∃ (x5_1 : Int), v5 = .int .i64 x5_1 ∧ Aside0 (laws_sameInts.l0 kq l0 l1 x5_1 = some r) ∧ Aside0 (kq ≤ k) ∧ Drawn0 w w')
  case atStart => exact ⟨(0), (by first | rfl | (simp; done) | (simp [*]; done)), H', ⟨Nat.le_refl _⟩, by repeat (first | exact Drawn0.refl _ | apply Drawn0.step)⟩
  case round =>
   clear H'
   try clear c1
   try clear p2
   try clear c3
   try clear c3b0
   try clear c3b1
   try clear c3b2
   obtain ⟨x5_1, rfl, HA, HK1, ⟨m1, rfl⟩⟩ := hrel
   cases gk with
   | zero => exact absurd HA.out (by simp [laws_sameInts.l0])
   | succ k1 =>
    have H := HA.out
    clear HA
    simp only [laws_sameInts.l0] at H
    by_cases c4 : x5_1 < (l0.length : Int)
    ·rw [if_pos c4] at H
     have c4b0 : decide (x5_1 < (l0.length : Int)) = true := decide_eq_true c4
     clear c4
     by_cases c5 : 0 ≤ x5_1
     ·rw [if_pos c5] at H
      have c5b0 : decide (0 ≤ x5_1) = true := decide_eq_true c5
      clear c5
      by_cases c6 : x5_1 < (l1.length : Int)
      ·rw [if_pos c6] at H
       have c6b0 : decide (x5_1 < (l1.length : Int)) = true := decide_eq_true c6
       clear c6
       by_cases c7 : (rd l0 x5_1) = (rd l1 x5_1)
       ·rw [if_pos c7] at H
        have c7b0 : ((rd l0 x5_1) == (rd l1 x5_1)) = true := beq_iff_eq.mpr c7
        have c7b1 : ((rd l0 x5_1) != (rd l1 x5_1)) = false := bne_eq_false_iff_eq.mpr c7
        clear c7
        have H' := Aside0.mk H
        clear H
        have p361 : 0 ≤ (x5_1 : Int) := dd_
        have q361 : x5_1 < (l0.length : Int) := dd_
        obtain ⟨ad361, e361, hx361_0⟩ := Kd.at_int HR0.out x5_1 p361 q361
        cases e361
        replace p361 := eq_true p361
        replace q361 := eq_true q361
        have p362 : 0 ≤ (x5_1 : Int) := dd_
        have q362 : x5_1 < (l1.length : Int) := dd_
        obtain ⟨ad362, e362, hx362_0⟩ := Kd.at_int HR1.out x5_1 p362 q362
        cases e362
        replace p362 := eq_true p362
        replace q362 := eq_true q362
        go_wp2
        repeat (go_quiet (fail); try go_wp2)
        go_roundg k1
        case measure => have := HK1.out; omega
        case rel => exact ⟨(wrap64 (x5_1 + 1)), (by first | rfl | (simp; done) | (simp [*]; done)), H', ⟨by have := HK1.out; omega⟩, by repeat (first | exact Drawn0.refl _ | apply Drawn0.step)⟩
       ·rw [if_neg c7] at H
        have c7b0 : ((rd l0 x5_1) == (rd l1 x5_1)) = false := beq_eq_false_iff_ne.mpr c7
        have c7b1 : ((rd l0 x5_1) != (rd l1 x5_1)) = true := bne_iff_ne.mpr c7
        obtain rfl := Option.some.inj H
        have p361 : 0 ≤ (x5_1 : Int) := dd_
        have q361 : x5_1 < (l0.length : Int) := dd_
        obtain ⟨ad361, e361, hx361_0⟩ := Kd.at_int HR0.out x5_1 p361 q361
        cases e361
        replace p361 := eq_true p361
        replace q361 := eq_true q361
        have p362 : 0 ≤ (x5_1 : Int) := dd_
        have q362 : x5_1 < (l1.length : Int) := dd_
        obtain ⟨ad362, e362, hx362_0⟩ := Kd.at_int HR1.out x5_1 p362 q362
        cases e362
        replace p362 := eq_true p362
        replace q362 := eq_true q362
        go_wp2
        repeat (go_quiet (fail); try go_wp2)
        go_ret
        exact ⟨by first | rfl | (simp; done) | (simp [*]; done), by repeat (first | exact Drawn0.refl _ | apply Drawn0.step)⟩
      ·rw [if_neg c6] at H
       exact absurd H (by simp)
     ·rw [if_neg c5] at H
      exact absurd H (by simp)
    ·rw [if_neg c4] at H
     have c4b0 : decide (x5_1 < (l0.length : Int)) = false := decide_eq_false c4
     clear c4
     obtain rfl := Option.some.inj H
     go_wp2
     repeat (go_quiet (fail); try go_wp2)
     go_ret
     exact ⟨by first | rfl | (simp; done) | (simp [*]; done), by repeat (first | exact Drawn0.refl _ | apply Drawn0.step)⟩
 ·rw [if_neg c3] at H
  have c3b0 : ((l0.length : Int) == (l1.length : Int)) = false := beq_eq_false_iff_ne.mpr c3
  have c3b1 : ((l0.length : Int) != (l1.length : Int)) = true := bne_iff_ne.mpr c3
  have c3b2 : (l0.length == l1.length) = false := by first | simpa using c3 | (simp at c3 ⊢; omega)
  obtain rfl := Option.some.inj H
  go_enter Try.func17, Try.ntmps17
  go_wp2
  repeat (go_quiet (fail); try go_wp2)
  go_ret
  exact ⟨by first | rfl | (simp; done) | (simp [*]; done), by repeat (first | exact Drawn0.refl _ | apply Drawn0.step)⟩
end Go.Proofs.Ytbfafjejmljcpaa.P

namespace Go.Proofs.Ytbfafjejmljcpaa.P
open Go.RowKit Go.Proofs.YtbfafjejmljcpaaW.PrintWords Go.Proofs.YtbfafjejmljcpaaW.PrintLast
set_option linter.unusedVariables false
set_option linter.unusedSimpArgs false

def laws_sameRows.l0 : Nat → List (List Int) → List (List Int) → Int → Option (Bool)
 | 0, _, _, _ => none
 | k + 1, x0, x1, x5 => if x5 < (x0.length : Int) then (if 0 ≤ x5 then (if x5 < (x1.length : Int) then ((laws_sameInts.f k (rd_LI x0 x5) (rd_LI x1 x5)).bind fun t667 => (if t667 = true then (laws_sameRows.l0 k x0 x1 (wrap64 (x5 + 1))) else (some false))) else (none)) else (none)) else (some true)
def laws_sameRows.f (k : Nat) (l0 : List (List Int)) (l1 : List (List Int)) : Option (Bool) := if (l0.length : Int) = (l1.length : Int) then (laws_sameRows.l0 k l0 l1 0) else (some false)
set_option maxHeartbeats 8000000 in
set_option maxRecDepth 100000 in
theorem laws_sameRows.calls (k : Nat) (A0 : Option Addr) (c0 : Nat) (l0 : List (List Int)) (A1 : Option Addr) (c1 : Nat) (l1 : List (List Int)) (r : Bool) (w : World) (hr0 : Kd.C (Kd.slice 3 (Kd.int .i64)) w A0 l0.length l0) (hc0 : l0.length ≤ c0) (hr1 : Kd.C (Kd.slice 3 (Kd.int .i64)) w A1 l1.length l1) (hc1 : l1.length ≤ c1) (h : laws_sameRows.f k l0 l1 = some r) :
  Calls Try.prog 21 #[.slice A0 l0.length c0, .slice A1 l1.length c1] w fun e w' => e = .returned (.bool r) ∧ Drawn0 w w' := by
 have HR0 := Aside0.mk hr0
 have HC0 := Aside0.mk hc0
 clear hr0 hc0
 have HR1 := Aside0.mk hr1
 have HC1 := Aside0.mk hc1
 clear hr1 hc1
 have H : (if (l0.length : Int) = (l1.length : Int) then (laws_sameRows.l0 k l0 l1 0) else (some false)) = some r := h
 clear h
 by_cases c3 : (l0.length : Int) = (l1.length : Int)
 ·rw [if_pos c3] at H
  have c3b0 : ((l0.length : Int) == (l1.length : Int)) = true := beq_iff_eq.mpr c3
  have c3b1 : ((l0.length : Int) != (l1.length : Int)) = false := bne_eq_false_iff_eq.mpr c3
  have c3b2 : (l0.length == l1.length) = true := by first | simpa using c3 | (simp at c3 ⊢; omega)
  clear c3
  have H' := Aside0.mk H
  clear H
  go_enter Try.func21, Try.ntmps21
  go_wp2
  repeat (go_quiet (fail); try go_wp2)
  go_loopg [5] k (fun kq v5 w' => ∃ (x5_1 : Int), v5 = .int .i64 x5_1 ∧ Aside0 (laws_sameRows.l0 kq l0 l1 x5_1 = some r) ∧ Aside0 (kq ≤ k) ∧ Drawn0 w w')
  case atStart => exact ⟨(0), (by first | rfl | (simp; done) | (simp [*]; done)), H', ⟨Nat.le_refl _⟩, by repeat (first | exact Drawn0.refl _ | apply Drawn0.step)⟩
  case round =>
   clear H'
   try clear c1
   try clear c2
   try clear p2
   try clear c3
   try clear c3b0
   try clear c3b1
   try clear c3b2
   obtain ⟨x5_1, rfl, HA, HK1, ⟨m1, rfl⟩⟩ := hrel
   cases gk with
   | zero => exact absurd HA.out (by simp [laws_sameRows.l0])
   | succ k1 =>
    have H := HA.out
    clear HA
    simp only [laws_sameRows.l0] at H
    by_cases c4 : x5_1 < (l0.length : Int)
    ·rw [if_pos c4] at H
     have c4b0 : decide (x5_1 < (l0.length : Int)) = true := decide_eq_true c4
     clear c4
     by_cases c5 : 0 ≤ x5_1
     ·rw [if_pos c5] at H
      have c5b0 : decide (0 ≤ x5_1) = true := decide_eq_true c5
      clear c5
      by_cases c6 : x5_1 < (l1.length : Int)
      ·rw [if_pos c6] at H
       have c6b0 : decide (x5_1 < (l1.length : Int)) = true := decide_eq_true c6
       clear c6
       replace H := Option.bind_eq_some_iff.mp H
       obtain ⟨t667, A70, H⟩ := H
       replace H : (if t667 = true then (laws_sameRows.l0 k1 l0 l1 (wrap64 (x5_1 + 1))) else (some false)) = some r := H
       have A7 := Aside0.mk A70
       clear A70
       by_cases c8 : t667 = true
       ·subst c8
        have H1 : (laws_sameRows.l0 k1 l0 l1 (wrap64 (x5_1 + 1))) = some r := by rw [if_pos rfl] at H; exact H
        clear H
        have H := H1
        clear H1
        have H' := Aside0.mk H
        clear H
        have p665 : 0 ≤ (x5_1 : Int) := dd_
        have q665 : x5_1 < (l0.length : Int) := dd_
        obtain ⟨ad665, A665_0, c665_0, e665, hx665_0, hl665_0, hi665_0⟩ := at_LI HR0.out x5_1 p665 q665
        cases e665
        have HR665_0 := Aside0.mk hi665_0
        have HC665_0 := Aside0.mk hl665_0
        clear hi665_0 hl665_0
        replace p665 := eq_true p665
        replace q665 := eq_true q665
        have p666 : 0 ≤ (x5_1 : Int) := dd_
        have q666 : x5_1 < (l1.length : Int) := dd_
        obtain ⟨ad666, A666_0, c666_0, e666, hx666_0, hl666_0, hi666_0⟩ := at_LI HR1.out x5_1 p666 q666
        cases e666
        have HR666_0 := Aside0.mk hi666_0
        have HC666_0 := Aside0.mk hl666_0
        clear hi666_0 hl666_0
        replace p666 := eq_true p666
        replace q666 := eq_true q666
        go_wp2_with (first | (go_at_call 17; (with_reducible refine (laws_sameInts.calls k1 _ _ (rd_LI l0 x5_1) _ _ (rd_LI l1 x5_1) true _ ?side1 ?side2 ?side3 ?side4 A7.out).mono ?_); (case side1 => exact ss_ HR665_0); (case side2 => exact HC665_0.out); (case side3 => exact ss_ HR666_0); (case side4 => exact HC666_0.out); rintro e w' ⟨rfl, ⟨nd, rfl⟩⟩; (try first | exact ⟨rfl, _, World.drewN_drewN _ _ _⟩ | exact ⟨rfl, _, Eq.trans (World.drewN_drewN _ _ _) (congrArg (World.drewN _) (Nat.add_assoc _ _ _))⟩)))
        repeat (go_quiet (first | (go_at_call 17; (with_reducible refine (laws_sameInts.calls k1 _ _ (rd_LI l0 x5_1) _ _ (rd_LI l1 x5_1) true _ ?side1 ?side2 ?side3 ?side4 A7.out).mono ?_); (case side1 => exact ss_ HR665_0); (case side2 => exact HC665_0.out); (case side3 => exact ss_ HR666_0); (case side4 => exact HC666_0.out); rintro e w' ⟨rfl, ⟨nd, rfl⟩⟩; (try first | exact ⟨rfl, _, World.drewN_drewN _ _ _⟩ | exact ⟨rfl, _, Eq.trans (World.drewN_drewN _ _ _) (congrArg (World.drewN _) (Nat.add_assoc _ _ _))⟩))); try go_wp2_with (first | (go_at_call 17; (with_reducible refine (laws_sameInts.calls k1 _ _ (rd_LI l0 x5_1) _ _ (rd_LI l1 x5_1) true _ ?side1 ?side2 ?side3 ?side4 A7.out).mono ?_); (case side1 => exact ss_ HR665_0); (case side2 => exact HC665_0.out); (case side3 => exact ss_ HR666_0); (case side4 => exact HC666_0.out); rintro e w' ⟨rfl, ⟨nd, rfl⟩⟩; (try first | exact ⟨rfl, _, World.drewN_drewN _ _ _⟩ | exact ⟨rfl, _, Eq.trans (World.drewN_drewN _ _ _) (congrArg (World.drewN _) (Nat.add_assoc _ _ _))⟩))))
        go_roundg k1
        case measure => have := HK1.out; omega
        case rel => exact ⟨(wrap64 (x5_1 + 1)), (by first | rfl | (simp; done) | (simp [*]; done)), H', ⟨by have := HK1.out; omega⟩, by repeat (first | exact Drawn0.refl _ | apply Drawn0.step)⟩
       ·replace c8 := Bool.eq_false_iff.mpr c8
        subst c8
        have H1 : (some false) = some r := by rw [if_neg (show ¬ (false = true) by decide)] at H; exact H
        clear H
        have H := H1
        clear H1
        obtain rfl := Option.some.inj H
        have p665 : 0 ≤ (x5_1 : Int) := dd_
        have q665 : x5_1 < (l0.length : Int) := dd_
        obtain ⟨ad665, A665_0, c665_0, e665, hx665_0, hl665_0, hi665_0⟩ := at_LI HR0.out x5_1 p665 q665
        cases e665
        have HR665_0 := Aside0.mk hi665_0
        have HC665_0 := Aside0.mk hl665_0
        clear hi665_0 hl665_0
        replace p665 := eq_true p665
        replace q665 := eq_true q665
        have p666 : 0 ≤ (x5_1 : Int) := dd_
        have q666 : x5_1 < (l1.length : Int) := dd_
        obtain ⟨ad666, A666_0, c666_0, e666, hx666_0, hl666_0, hi666_0⟩ := at_LI HR1.out x5_1 p666 q666
        cases e666
        have HR666_0 := Aside0.mk hi666_0
        have HC666_0 := Aside0.mk hl666_0
        clear hi666_0 hl666_0
        replace p666 := eq_true p666
        replace q666 := eq_true q666
        go_wp2_with (first | (go_at_call 17; (with_reducible refine (laws_sameInts.calls k1 _ _ (rd_LI l0 x5_1) _ _ (rd_LI l1 x5_1) false _ ?side1 ?side2 ?side3 ?side4 A7.out).mono ?_); (case side1 => exact ss_ HR665_0); (case side2 => exact HC665_0.out); (case side3 => exact ss_ HR666_0); (case side4 => exact HC666_0.out); rintro e w' ⟨rfl, ⟨nd, rfl⟩⟩; (try first | exact ⟨rfl, _, World.drewN_drewN _ _ _⟩ | exact ⟨rfl, _, Eq.trans (World.drewN_drewN _ _ _) (congrArg (World.drewN _) (Nat.add_assoc _ _ _))⟩)))
        repeat (go_quiet (first | (go_at_call 17; (with_reducible refine (laws_sameInts.calls k1 _ _ (rd_LI l0 x5_1) _ _ (rd_LI l1 x5_1) false _ ?side1 ?side2 ?side3 ?side4 A7.out).mono ?_); (case side1 => exact ss_ HR665_0); (case side2 => exact HC665_0.out); (case side3 => exact ss_ HR666_0); (case side4 => exact HC666_0.out); rintro e w' ⟨rfl, ⟨nd, rfl⟩⟩; (try first | exact ⟨rfl, _, World.drewN_drewN _ _ _⟩ | exact ⟨rfl, _, Eq.trans (World.drewN_drewN _ _ _) (congrArg (World.drewN _) (Nat.add_assoc _ _ _))⟩))); try go_wp2_with (first | (go_at_call 17; (with_reducible refine (laws_sameInts.calls k1 _ _ (rd_LI l0 x5_1) _ _ (rd_LI l1 x5_1) false _ ?side1 ?side2 ?side3 ?side4 A7.out).mono ?_); (case side1 => exact ss_ HR665_0); (case side2 => exact HC665_0.out); (case side3 => exact ss_ HR666_0); (case side4 => exact HC666_0.out); rintro e w' ⟨rfl, ⟨nd, rfl⟩⟩; (try first | exact ⟨rfl, _, World.drewN_drewN _ _ _⟩ | exact ⟨rfl, _, Eq.trans (World.drewN_drewN _ _ _) (congrArg (World.drewN _) (Nat.add_assoc _ _ _))⟩))))
        go_ret
        exact ⟨by first | rfl | (simp; done) | (simp [*]; done), by repeat (first | exact Drawn0.refl _ | apply Drawn0.step)⟩
      ·rw [if_neg c6] at H
       exact absurd H (by simp)
     ·rw [if_neg c5] at H
      exact absurd H (by simp)
    ·rw [if_neg c4] at H
     have c4b0 : decide (x5_1 < (l0.length : Int)) = false := decide_eq_false c4
     clear c4
     obtain rfl := Option.some.inj H
     go_wp2
     repeat (go_quiet (fail); try go_wp2)
     go_ret
     exact ⟨by first | rfl | (simp; done) | (simp [*]; done), by repeat (first | exact Drawn0.refl _ | apply Drawn0.step)⟩
 ·rw [if_neg c3] at H
  have c3b0 : ((l0.length : Int) == (l1.length : Int)) = false := beq_eq_false_iff_ne.mpr c3
  have c3b1 : ((l0.length : Int) != (l1.length : Int)) = true := bne_iff_ne.mpr c3
  have c3b2 : (l0.length == l1.length) = false := by first | simpa using c3 | (simp at c3 ⊢; omega)
  obtain rfl := Option.some.inj H
  go_enter Try.func21, Try.ntmps21
  go_wp2
  repeat (go_quiet (fail); try go_wp2)
  go_ret
  exact ⟨by first | rfl | (simp; done) | (simp [*]; done), by repeat (first | exact Drawn0.refl _ | apply Drawn0.step)⟩
end Go.Proofs.Ytbfafjejmljcpaa.P

namespace Go.Proofs.YtbfafjejmljcpaaW.PrintWords
open Go.RowKit
def Foot (P : World → Prop) (W : World) (ok : Nat → Prop) : Prop := ∀ W' : World, (∀ k, ok k → k < W.heap.size → W'.heap[k]? = W.heap[k]?) → P W'
theorem heap_lt {W W1 : World} {k : Nat} (h : W1.heap[k]? = W.heap[k]?) (hlt : k < W.heap.size) : k < W1.heap.size := by
  rw [Array.getElem?_eq_getElem hlt] at h
  exact (Array.getElem?_eq_some_iff.1 h).1
namespace Foot
variable {P Q : World → Prop} {W W1 : World} {ok ok' : Nat → Prop}
theorem now (h : Foot P W ok) : P W := h W (fun _ _ _ => rfl)
theorem mono (h : Foot P W ok) (hok : ∀ k, ok k → ok' k) : Foot P W ok' := fun W' hW => h W' (fun k hk hlt => hW k (hok k hk) hlt)
theorem bound (h : Foot P W ok) : Foot P W (fun k => ok k ∧ k < W.heap.size) := fun W' hW => h W' (fun k hk hlt => hW k ⟨hk, hlt⟩ hlt)
theorem step (h : Foot P W ok) (hm : ∀ k, ok k → k < W.heap.size → W1.heap[k]? = W.heap[k]?) : Foot P W1 ok := fun W' hW => h W' (fun k hk hlt => (hW k hk (heap_lt (hm k hk hlt) hlt)).trans (hm k hk hlt))
theorem imp (h : Foot P W ok) (hi : ∀ W', P W' → Q W') : Foot Q W ok := fun W' hW => hi W' (h W' hW)
theorem old (h : Foot P W ok) (hb : Below W.heap.size W W1) : Foot P W1 (fun k => ok k ∧ k < W.heap.size) := (h.bound).step (fun k _ hlt => hb.block k hlt)
end Foot
namespace Kd
def F {α : Type} (d : Kd α) (W : World) (ok : Nat → Prop) (A : Option Addr) (n : Nat) (xs : List α) : Prop := Foot (fun W => d.C W A n xs) W ok
def FK {α : Type} (d : Kd α) (W : World) (ok : Nat → Prop) (x : α) (c : List Value) : Prop := Foot (fun W => d.K W x c) W ok
section
variable {α β : Type} {d : Kd α} {e base n n' cc g N : Nat} {ok ok' okp S : Nat → Prop} {w w0 w1 W W1 : World} {A A' : Option Addr} {u v v1 : Value} {xs : List α} {xs' : List β} {d' : Kd β} {x : α} {c : List Value}
theorem F_now (h : F d W ok A n xs) : d.C W A n xs := Foot.now h
theorem F_mono (h : F d W ok A n xs) (hok : ∀ k, ok k → ok' k) : F d W ok' A n xs := Foot.mono h hok
theorem F_bound (h : F d W ok A n xs) : F d W (fun k => ok k ∧ k < W.heap.size) A n xs := Foot.bound h
theorem F_step (h : F d W ok A n xs) (hm : ∀ k, ok k → k < W.heap.size → W1.heap[k]? = W.heap[k]?) : F d W1 ok A n xs := Foot.step h hm
theorem F_imp (h : F d W ok A n xs) (hi : ∀ W', d.C W' A n xs → d'.C W' A' n' xs') : F d' W ok A' n' xs' := Foot.imp h hi
theorem F_below (h : F d W ok A n xs) (hb : Below W.heap.size W W1) : F d W1 ok A n xs := F_step h (fun k _ hlt => hb.block k hlt)
theorem F_alloc (h : F d W ok A n xs) (o : Obj) : F d (W.alloc o) ok A n xs := F_below h (below_alloc (Below.refl _ _) o)
theorem F_drew (h : F d W ok A n xs) : F d W.drew ok A n xs := F_below h (below_drew (Below.refl _ _))
theorem F_drewN (h : F d W ok A n xs) (m : Nat) : F d (W.drewN m) ok A n xs := F_below h (pw_below_drewN (Below.refl _ _) m)
theorem F_elder' (h : F d W ok A n xs) (hbase : ∀ k, v.ownBlock = some k → W.heap.size ≤ k) (hb : Below W.heap.size W W1) : F d W1 (fun k => ok k ∧ some k ≠ v.ownBlock) A n xs :=
  F_mono (Foot.old h hb) (fun k hk => ⟨hk.1, fun he => by have := hbase k he.symm; have := hk.2; omega⟩)
theorem F_after (h : F d W (fun k => ok k ∧ some k ≠ v.ownBlock) A n xs) (hg : W.grownBy W1 v.ownBlock) (hat : v1.ownBlock = v.ownBlock ∨ ∃ b, v1.ownBlock = some b ∧ W.heap.size ≤ b) : F d W1 (fun k => ok k ∧ some k ≠ v1.ownBlock) A n xs := by
  refine F_mono (Foot.step (F_bound h) (fun k hk hlt => hg.block k hlt hk.1.2)) (fun k hk => ⟨hk.1.1, ?_⟩)
  rcases hat with hat | ⟨b, hb, hle⟩
  · rw [hat]; exact hk.1.2
  · rw [hb]
    intro he
    injection he with he
    have := hk.2
    omega
theorem R_F (h : d.R e W base ok (.slice A n cc) xs) : F d W ok A n xs := fun W' hW => by
  have h2 := R_reads' (R_step h hW)
  rw [h2.1]
  exact h2.2.2
theorem FK_now (h : FK d W ok x c) : d.K W x c := Foot.now h
theorem FK_mono (h : FK d W ok x c) (hok : ∀ k, ok k → ok' k) : FK d W ok' x c := Foot.mono h hok
theorem FK_bound (h : FK d W ok x c) : FK d W (fun k => ok k ∧ k < W.heap.size) x c := Foot.bound h
theorem FK_step (h : FK d W ok x c) (hm : ∀ k, ok k → k < W.heap.size → W1.heap[k]? = W.heap[k]?) : FK d W1 ok x c := Foot.step h hm
theorem FK_of_M (h : d.M W base ok x c) : FK d W ok x c := fun _ hW => d.K_of_M (M_step h hW)
theorem emptied (W : World) (g : Nat) : ∃ W' : World, (∀ k, k ≠ g → W'.heap[k]? = W.heap[k]?) ∧ ∀ a : Addr, a.block = g → W'.cell? a = none := by
  refine ⟨{ W with heap := W.heap.setIfInBounds g (.cells #[] 0) }, fun k hk => by simp [Ne.symm hk], fun a ha => ?_⟩
  subst ha
  by_cases hlt : a.block < W.heap.size
  · simp [World.cell?, hlt]
  · simp [World.cell?, hlt]
end
end Kd
end Go.Proofs.YtbfafjejmljcpaaW.PrintWords

namespace Go.Proofs.YtbfafjejmljcpaaW.PrintWords
open Go.RowKit
section
variable {P : Program}
end
namespace Kd
section
variable {P : Program} {ops : Array Oper} {rest : List Oper} {o : Oper} {a : Act} {Q : Exit → Act → World → Prop} {Kc : Act → World → Prop} {α : Type}
end
section
variable {α : Type} {d : Kd α} {e : Nat} {w : World} {base : Nat} {ok : Nat → Prop} {v : Value} {xs : List α}
end
section
variable {P : Program} {ops : Array Oper} {rest : List Oper} {o : Oper} {a : Act} {Q : Exit → Act → World → Prop} {Kc : Act → World → Prop} {α : Type}
end
end Kd
end Go.Proofs.YtbfafjejmljcpaaW.PrintWords

namespace Go.Proofs.YtbfafjejmljcpaaW.PrintWords
open Go.RowKit
namespace Kd
def chunks (sz : Nat) (n : Nat) (inner : List Value) : List (List Value) := (List.range n).map fun j => (inner.drop (j * sz)).take sz
theorem chunks_length (sz n : Nat) (inner : List Value) : (chunks sz n inner).length = n := by simp [chunks]
theorem chunks_at {sz n : Nat} {inner : List Value} {j : Nat} (hj : j < n) : (chunks sz n inner)[j]? = some ((inner.drop (j * sz)).take sz) := by simp [chunks, hj]
theorem chunks_get {sz n : Nat} {inner : List Value} {j : Nat} {c : List Value} (h : (chunks sz n inner)[j]? = some c) : c = (inner.drop (j * sz)).take sz := by
  have hj : j < n := by have := (List.getElem?_eq_some_iff.1 h).1; rwa [chunks_length] at this
  rw [chunks_at hj] at h
  injection h with h
  exact h.symm
theorem reps_raw {α : Type} {Rr : α → List Value → Prop} {sz : Nat} {xs : List α} {inner : List Value} (h : Reps Rr sz xs inner) (hR : ∀ x c, Rr x c → c.length = sz ∧ ∀ u ∈ c, u.oneCell' = true) : Reps (fun x cs => cs = x ∧ cs.length = sz ∧ ∀ u ∈ cs, u.oneCell' = true) sz (chunks sz xs.length inner) inner := by
  refine ⟨by rw [chunks_length]; exact h.1, fun j p hj => ?_⟩
  have hjl : j < xs.length := by have := (List.getElem?_eq_some_iff.1 hj).1; rwa [chunks_length] at this
  have hp := chunks_get hj
  exact ⟨hp.symm, hR _ _ (h.2 j _ (List.getElem?_eq_getElem hjl))⟩
section
variable {α : Type} {d : Kd α} {e base n cc g : Nat} {ok ok' okp S : Nat → Prop} {w w1 W W1 : World} {A : Option Addr} {u v v1 : Value} {xs : List α} {x : α} {c : List Value}
theorem F_get (h : F d W ok A n xs) (z : α) (i : Int) (h0 : 0 ≤ i) (h1 : i < n) :
    ∃ ad c, A = some ad ∧ c.length = d.sz ∧ FK d W ok (xs.getD i.toNat z) c ∧ (∀ j u, c[j]? = some u → W.cell? (ad.add (i.toNat * d.sz + j)) = some u) ∧ (0 < d.sz → ok ad.block) := by
  obtain ⟨ad, c, rfl, hcl, hK, hcc⟩ := C_get (F_now h) z i h0 h1
  have hin : 0 < d.sz → ok ad.block := by
    intro hs
    by_cases hk : ok ad.block
    · exact hk
    · obtain ⟨W', h2, h3⟩ := emptied W ad.block
      obtain ⟨ad', c', he, hcl', _, hcc'⟩ := C_get (h W' (fun k hk' _ => h2 k (fun e => hk (e ▸ hk')))) z i h0 h1
      injection he with he
      subst he
      have h4 := hcc' 0 _ (List.getElem?_eq_getElem (by omega))
      rw [h3 _ (add_block _ _)] at h4
      cases h4
  refine ⟨ad, c, rfl, hcl, fun W' hW => ?_, hcc, hin⟩
  obtain ⟨ad', c', he, hcl', hK', hcc'⟩ := C_get (h W' hW) z i h0 h1
  injection he with he
  subst he
  have hc : c = c' := by
    apply List.ext_getElem?
    intro j
    by_cases hj : j < d.sz
    · have hb : W'.heap[ad.block]? = W.heap[ad.block]? := by
        have h5 := hcc j _ (List.getElem?_eq_getElem (by omega))
        have h6 := World.block_lt_of_cell? W _ h5
        rw [add_block] at h6
        exact hW _ (hin (by omega)) h6
      have h5 := hcc j _ (List.getElem?_eq_getElem (by omega))
      have h6 := hcc' j _ (List.getElem?_eq_getElem (by omega))
      have h7 : W'.cell? (ad.add (i.toNat * d.sz + j)) = W.cell? (ad.add (i.toNat * d.sz + j)) := by simp [World.cell?, add_block, hb]
      rw [h7, h5] at h6
      rw [List.getElem?_eq_getElem (by omega), List.getElem?_eq_getElem (by omega)]
      exact h6
    · rw [List.getElem?_eq_none (by omega), List.getElem?_eq_none (by omega)]
  rw [hc]
  exact hK'
theorem F_rows (h : F d W ok A n xs) : ReadsRow (fun x c => FK d W ok x c) d.sz W A n xs := by
  obtain ⟨hl, hm, hn⟩ := F_now h
  refine ⟨hl, hm, fun hp => ?_⟩
  obtain ⟨ad, rfl, _⟩ := hn hp
  refine ⟨ad, rfl, fun j p hj => ?_⟩
  obtain ⟨hjl, hjp⟩ := List.getElem?_eq_some_iff.1 hj
  obtain ⟨ad', c, he, hcl, hK, hcc, _⟩ := F_get h p (j : Int) (by omega) (by omega)
  injection he with he
  subst he
  simp only [Int.toNat_natCast] at hK hcc
  rw [List.getD_eq_getElem?_getD, hj] at hK
  exact ⟨c, hcl, hK, hcc⟩
def N {α : Type} (d : Kd α) (e : Nat) (w : World) (base : Nat) (ok : Nat → Prop) (v : Value) (xs : List α) : Prop :=
  (∀ k, v.ownBlock = some k → ok k) ∧ ∃ rows : List (List Value), rows.length = xs.length ∧ (raw d.sz).R e w base (fun k => some k = v.ownBlock) v rows ∧ ∀ (j : Nat) (x : α) (c : List Value), xs[j]? = some x → rows[j]? = some c → FK d w (fun k => ok k ∧ some k ≠ v.ownBlock) x c
theorem raw_tight {sz : Nat} {rows : List (List Value)} (h : (raw sz).R e w base ok v rows) : (raw sz).R e w base (fun k => some k = v.ownBlock) v rows := R_tight rfl h
theorem raw_any {sz : Nat} {rows : List (List Value)} (h : (raw sz).R e w base ok v rows) : (raw sz).R e w base (fun _ => True) v rows := R_mono h (fun _ _ => trivial)
theorem R_N (h : d.R e w base ok v xs) : N d e w base ok v xs := by
  obtain ⟨h0, inner, ho, hr⟩ := h
  refine ⟨h0, chunks d.sz xs.length inner, chunks_length _ _ _, ⟨fun k hk => hk.symm, inner, by rw [chunks_length]; exact ho, reps_raw hr (fun x c hp => ⟨d.K_len (d.K_of_M hp), d.K_one (d.K_of_M hp)⟩)⟩, fun j x c hx hc => ?_⟩
  rw [chunks_get hc]
  exact FK_of_M (hr.2 j x hx)
theorem S_N (h : Kd.S d e w base ok v xs) : N d e w base ok v xs := R_N (S_R h)
theorem N_mono (h : N d e w base ok v xs) (hok : ∀ k, ok k → ok' k) : N d e w base ok' v xs := by
  obtain ⟨h0, rows, hl, hR, hf⟩ := h
  exact ⟨fun k hk => hok k (h0 k hk), rows, hl, hR, fun j x c hx hc => FK_mono (hf j x c hx hc) (fun k hk => ⟨hok k hk.1, hk.2⟩)⟩
theorem N_lt (h : N d e w base ok v xs) : ∀ k, v.ownBlock = some k → k < w.heap.size := by
  obtain ⟨_, rows, _, hR, _⟩ := h
  exact R_lt hR
theorem N_base (h : N d e w base ok v xs) : ∀ k, v.ownBlock = some k → base ≤ k := by
  obtain ⟨_, rows, _, hR, _⟩ := h
  exact R_base hR
theorem N_base2 (h : N d e w base ok v xs) : v.ownBlock = none ∨ ∃ k, v.ownBlock = some k ∧ base ≤ k := by
  obtain ⟨_, rows, _, hR, _⟩ := h
  exact R_base2 hR
theorem N_typed (h : N d e w base ok v xs) : ∀ k, v.ownBlock = some k → ∃ cells, w.heap[k]? = some (.cells cells e (0, 0)) := by
  obtain ⟨_, rows, _, hR, _⟩ := h
  exact R_typed hR
theorem N_ne (h : N d e w base ok v xs) {t : Nat} {cells : Array Value} (hb : w.heap[g]? = some (.cells cells t (0, 0))) (ht : e ≠ t) : some g ≠ v.ownBlock := by
  obtain ⟨_, rows, _, hR, _⟩ := h
  exact R_ne hR hb ht
theorem N_bound (h : N d e w base ok v xs) : N d e w base (fun k => ok k ∧ k < w.heap.size) v xs := by
  have hlt := N_lt h
  obtain ⟨h0, rows, hl, hR, hf⟩ := h
  exact ⟨fun k hk => ⟨h0 k hk, hlt k hk⟩, rows, hl, hR, fun j x c hx hc => FK_mono (FK_bound (hf j x c hx hc)) (fun k hk => ⟨⟨hk.1.1, hk.2⟩, hk.1.2⟩)⟩
theorem N_lower {base' : Nat} (h : N d e w base ok v xs) (hb : base' ≤ base) : N d e w base' ok v xs := by
  obtain ⟨h0, rows, hl, hR, hf⟩ := h
  exact ⟨h0, rows, hl, R_lower hR hb, hf⟩
theorem N_step (h : N d e w base ok v xs) (hm : ∀ k, ok k → k < w.heap.size → w1.heap[k]? = w.heap[k]?) : N d e w1 base ok v xs := by
  obtain ⟨h0, rows, hl, hR, hf⟩ := h
  exact ⟨h0, rows, hl, R_step hR (fun k hk hlt => hm k (h0 k hk.symm) hlt), fun j x c hx hc => FK_step (hf j x c hx hc) (fun k hk hlt => hm k hk.1 hlt)⟩
theorem N_below (h : N d e w base ok v xs) (hb : Below w.heap.size w w1) : N d e w1 base ok v xs := N_step h (fun k _ hk => hb.block k hk)
theorem N_alloc (h : N d e w base ok v xs) (o : Obj) : N d e (w.alloc o) base ok v xs := N_below h (below_alloc (Below.refl _ _) o)
theorem N_drew (h : N d e w base ok v xs) : N d e w.drew base ok v xs := N_below h (below_drew (Below.refl _ _))
theorem N_drewN (h : N d e w base ok v xs) (m : Nat) : N d e (w.drewN m) base ok v xs := N_below h (pw_below_drewN (Below.refl _ _) m)
theorem N_keep (h : N d e w base ok v xs) (hk : KeepBut w w1 g none) (hok : ∀ k, ok k → k ≠ g) : N d e w1 base ok v xs := N_step h (fun k ho hlt => hk.2 k hlt (hok k ho) (by simp))
theorem N_elder' (h : N d e W base ok v xs) (hbase : ∀ k, u.ownBlock = some k → W.heap.size ≤ k) (hb : Below W.heap.size W w1) : N d e w1 base (fun k => ok k ∧ some k ≠ u.ownBlock) v xs :=
  N_mono (N_below (N_bound h) hb) (fun k hk => ⟨hk.1, fun he => by have := hbase k he.symm; have := hk.2; omega⟩)
theorem N_after (h : N d e W base (fun k => ok k ∧ some k ≠ u.ownBlock) v xs) {u1 : Value} (hg : W.grownBy w1 u.ownBlock) (hat : u1.ownBlock = u.ownBlock ∨ ∃ b, u1.ownBlock = some b ∧ W.heap.size ≤ b) : N d e w1 base (fun k => ok k ∧ some k ≠ u1.ownBlock) v xs := by
  refine N_mono (N_step (N_bound h) (fun k hk hlt => hg.block k hlt hk.1.2)) (fun k hk => ⟨hk.1.1, ?_⟩)
  rcases hat with hat | ⟨b, hb, hle⟩
  · rw [hat]; exact hk.1.2
  · rw [hb]
    intro he
    injection he with he
    have := hk.2
    omega
theorem N_oldK (h : N d e W base (fun k => ok k ∧ k ≠ g) v xs) (hk : KeepBut W w1 g none) : N d e w1 base (fun k => ok k ∧ k < W.heap.size) v xs := N_mono (N_keep (N_bound h) hk (fun _ hk => hk.1.2)) (fun _ hk => ⟨hk.1.1, hk.2⟩)
theorem N_told {b : Nat} (h : N d e w1 base (fun k => ok k ∧ k < b) v xs) (hbase : ∀ k, u.ownBlock = some k → b ≤ k) : N d e w1 base (fun k => (ok k ∧ some k ≠ u.ownBlock) ∧ k < b) v xs :=
  N_mono h (fun k hk => ⟨⟨hk.1, fun e => Nat.lt_irrefl _ (Nat.lt_of_lt_of_le hk.2 (hbase k e.symm))⟩, hk.2⟩)
theorem N_slice (h : N d e w base ok v xs) : ∃ A c, v = .slice A xs.length c := by
  obtain ⟨_, rows, hl, hR, _⟩ := h
  obtain ⟨A, c, he⟩ := R_slice hR
  exact ⟨A, c, by rw [he, hl]⟩
theorem N_form (h : N d e w base ok v xs) (hp : 0 < xs.length) : ∃ g cap, v = .slice (some ⟨g, 0, none⟩) xs.length cap ∧ base ≤ g ∧ g < w.heap.size ∧ ∃ cells, w.heap[g]? = some (.cells cells e (0, 0)) := by
  obtain ⟨_, rows, hl, hR, _⟩ := h
  rw [← hl] at hp ⊢
  exact R_form hR hp
theorem N_reads' {n c : Nat} (h : N d e w base ok (.slice A n c) xs) : n = xs.length ∧ n ≤ c ∧ d.C w A xs.length xs := by
  obtain ⟨_, rows, hl, hR, hf⟩ := h
  obtain ⟨hn, hc, hC⟩ := R_reads' hR
  refine ⟨by omega, hc, ?_⟩
  rw [hl] at hC
  refine ⟨rfl, hC.2.1, fun hp => ?_⟩
  obtain ⟨ad, he, hcell⟩ := hC.2.2 hp
  refine ⟨ad, he, fun j p hj => ?_⟩
  have hjl : j < rows.length := by have := (List.getElem?_eq_some_iff.1 hj).1; omega
  obtain ⟨c', hcl, hK, hcc⟩ := hcell j _ (List.getElem?_eq_getElem hjl)
  have hk := FK_now (hf j p _ hj (List.getElem?_eq_getElem hjl))
  refine ⟨c', hcl, ?_, hcc⟩
  rw [show c' = rows[j] from hK.1]
  exact hk
theorem N_F {n : Nat} (h : N d e w base ok (.slice A n cc) xs) : F d w ok A n xs := fun W' hW => by
  have h2 := N_reads' (N_step h hW)
  rw [h2.1]
  exact h2.2.2
theorem N_elem {n cap : Nat} (h : N d e W base ok (.slice (some ⟨g, 0, none⟩) n cap) xs) (z : α) (i : Int) (h0 : 0 ≤ i) (h1 : i < n) :
    ∃ c, c.length = d.sz ∧ FK d W (fun k => ok k ∧ k ≠ g) (xs.getD i.toNat z) c ∧ (∀ j u, c[j]? = some u → W.cell? ⟨g, i.toNat * d.sz + j, none⟩ = some u) ∧ ∀ j, W.frozen? ⟨g, i.toNat * d.sz + j, none⟩ = false := by
  obtain ⟨_, rows, hl, hR, hf⟩ := h
  have hn := (R_reads' hR).1
  obtain ⟨c, hcl, hM, hcc, hfr⟩ := R_elem hR [] i h0 h1
  have hil : i.toNat < rows.length := by omega
  have hil' : i.toNat < xs.length := by omega
  have hc : c = rows[i.toNat] := by
    have h2 := hM.1
    rwa [List.getD_eq_getElem?_getD, List.getElem?_eq_getElem hil] at h2
  refine ⟨c, hcl, ?_, hcc, hfr⟩
  rw [List.getD_eq_getElem?_getD, List.getElem?_eq_getElem hil']
  exact FK_mono (hf _ _ _ (List.getElem?_eq_getElem hil') (by rw [hc]; exact List.getElem?_eq_getElem hil)) (fun k hk => ⟨hk.1, fun he => hk.2 (by rw [he]; simp [Value.ownBlock])⟩)
theorem N_get {ad : Addr} {n cap : Nat} (h : N d e W base ok (.slice (some ad) n cap) xs) (z : α) (i : Int) (h0 : 0 ≤ i) (h1 : i < n) :
    ∃ c, c.length = d.sz ∧ FK d W (fun k => ok k ∧ some k ≠ (Value.slice (some ad) n cap).ownBlock) (xs.getD i.toNat z) c ∧ ∀ j u, c[j]? = some u → W.cell? (ad.add (i.toNat * d.sz + j)) = some u := by
  obtain ⟨g, rfl⟩ : ∃ g, ad = ⟨g, 0, none⟩ := by
    obtain ⟨_, rows, _, hR, _⟩ := h
    exact R_head hR
  obtain ⟨c, hcl, hM, hcc, _⟩ := N_elem h z i h0 h1
  refine ⟨c, hcl, FK_mono hM (fun k hk => ⟨hk.1, fun he => hk.2 (by simpa [Value.ownBlock] using he)⟩), fun j u hu => ?_⟩
  rw [add_at, Nat.zero_add]
  exact hcc j u hu
end
end Kd
end Go.Proofs.YtbfafjejmljcpaaW.PrintWords

namespace Go.Proofs.Ytbfafjejmljcpaa.P
open Go.RowKit Go.Proofs.YtbfafjejmljcpaaW.PrintWords Go.Proofs.YtbfafjejmljcpaaW.PrintLast
set_option linter.unusedVariables false
set_option linter.unusedSimpArgs false

def IsS76 (w0 W : World) (g : Nat) (f0 : List Int) (f1 : Int) : Prop := ∃ A0 c0, W.heap[g]? = some (.cells #[.slice A0 f0.length c0, .int .i64 f1] 76 (0, 0)) ∧ w0.heap.size ≤ g ∧ Kd.C (Kd.int .u8) w0 A0 f0.length f0
theorem IsS76.grown {w0 W : World} {g : Nat} {f0 : List Int} {f1 : Int} {W1 : World} {row : Option Nat} (h : IsS76 w0 W g f0 f1) (hw : W.grownBy W1 row) (hne : some g ≠ row) : IsS76 w0 W1 g f0 f1 := by
 obtain ⟨A0, c0, hb, hg, hr0⟩ := h
 exact ⟨A0, c0, blk_grown hb hw hne, hg, hr0⟩
theorem IsS76.own_neN {w0 W : World} {g : Nat} {f0 : List Int} {f1 : Int} {α : Type} {d : Kd α} {e : Nat} {base : Nat} {ok : Nat → Prop} {v : Value} {xs : List α} (h : IsS76 w0 W g f0 f1) (ho : Kd.N d e W base ok v xs) (ht : e ≠ 76) : some g ≠ v.ownBlock := by
 obtain ⟨A0, c0, hb, hg, hr0⟩ := h
 exact Kd.N_ne ho hb ht
theorem IsS76.fresh {w0 W : World} {g : Nat} {f0 : List Int} {f1 : Int} (h : IsS76 w0 W g f0 f1) : ∀ k, W.heap.size ≤ k → k ≠ g := by
 obtain ⟨A0, c0, hb, hg, hr0⟩ := h
 exact Kd.freshB hb
theorem IsS76.kept {w0 W : World} {g : Nat} {f0 : List Int} {f1 : Int} {W1 : World} {S : Nat → Prop} (h : IsS76 w0 W g f0 f1) (hk : Kept W W1 S) (hne : ¬ S g) : IsS76 w0 W1 g f0 f1 := by
 obtain ⟨A0, c0, hb, hg, hr0⟩ := h
 exact ⟨A0, c0, blk_kept hb hk hne, hg, hr0⟩
theorem IsS76.below {w0 W : World} {g : Nat} {f0 : List Int} {f1 : Int} {W1 : World} (h : IsS76 w0 W g f0 f1) (hw : Below W.heap.size W W1) : IsS76 w0 W1 g f0 f1 := h.grown (grown_of_below hw none) (by simp)
theorem IsS76.alloc {w0 W : World} {g : Nat} {f0 : List Int} {f1 : Int} (h : IsS76 w0 W g f0 f1) (o : Obj) : IsS76 w0 (W.alloc o) g f0 f1 := h.below (below_alloc (Below.refl _ _) o)
theorem IsS76.drewN {w0 W : World} {g : Nat} {f0 : List Int} {f1 : Int} (h : IsS76 w0 W g f0 f1) (m : Nat) : IsS76 w0 (W.drewN m) g f0 f1 := h
theorem IsS76.drew {w0 W : World} {g : Nat} {f0 : List Int} {f1 : Int} (h : IsS76 w0 W g f0 f1) : IsS76 w0 W.drew g f0 f1 := h
theorem IsS76.at_ {w0 W : World} {g : Nat} {f0 : List Int} {f1 : Int} {w' : World} {m : Nat} (hq : W.drewN m = w') (h : IsS76 w0 W g f0 f1) : IsS76 w0 w' g f0 f1 := by subst hq; exact IsS76.drewN h m
theorem IsS76.apart {w0 W : World} {g : Nat} {f0 : List Int} {f1 : Int} {α : Type} {d : Kd α} {e : Nat} {base : Nat} {ok : Nat → Prop} {v : Value} {xs : List α} (h : IsS76 w0 W g f0 f1) (ho : d.R e W base ok v xs) (ht : ∀ q, q ∈ e :: d.E → q ≠ 76) : d.R e W base (fun k => ok k ∧ k ≠ g) v xs := by
 obtain ⟨A0, c0, hb, hg, hr0⟩ := h
 exact Kd.R_types ho hb ht
theorem IsS76.own_ne {w0 W : World} {g : Nat} {f0 : List Int} {f1 : Int} {α : Type} {d : Kd α} {e : Nat} {base : Nat} {ok : Nat → Prop} {v : Value} {xs : List α} (h : IsS76 w0 W g f0 f1) (ho : d.R e W base ok v xs) (ht : e ≠ 76) : some g ≠ v.ownBlock := by
 obtain ⟨A0, c0, hb, hg, hr0⟩ := h
 exact Kd.R_ne ho hb ht
theorem IsS76.lt {w0 W : World} {g : Nat} {f0 : List Int} {f1 : Int} (h : IsS76 w0 W g f0 f1) : g < W.heap.size := by
 obtain ⟨A0, c0, hb, hg, hr0⟩ := h
 exact blk_lt hb
theorem IsS76.ge {w0 W : World} {g : Nat} {f0 : List Int} {f1 : Int} (h : IsS76 w0 W g f0 f1) : w0.heap.size ≤ g := by
 obtain ⟨A0, c0, hb, hg, hr0⟩ := h
 exact hg
theorem cellS76_0 {W : World} {g : Nat} {A0 : Option Addr} {c0 : Nat} {f0 : List Int} {f1 : Int} (h : W.heap[g]? = some (.cells #[.slice A0 f0.length c0, .int .i64 f1] 76 (0, 0))) : W.cell? ⟨g, 0, none⟩ = some (.slice A0 f0.length c0) := (blk_cell h 0).trans rfl
theorem cellS76_1 {W : World} {g : Nat} {A0 : Option Addr} {c0 : Nat} {f0 : List Int} {f1 : Int} (h : W.heap[g]? = some (.cells #[.slice A0 f0.length c0, .int .i64 f1] 76 (0, 0))) : W.cell? ⟨g, 1, none⟩ = some (.int .i64 f1) := (blk_cell h 1).trans rfl
theorem IsS76.set_1 {w0 W : World} {g : Nat} {f0 : List Int} {f1 : Int} (h : IsS76 w0 W g f0 f1) (x : Int) : IsS76 w0 (W.setCell ⟨g, 1, none⟩ (.int .i64 x)) g f0 x := by
 obtain ⟨A0, c0, hb, hg, hr0⟩ := h
 exact ⟨A0, c0, by simpa using blk_set hb 1 (.int .i64 x), hg, hr0⟩
def spec_l6Open.f (l0 : List Int) : Option (List Int × Int) := if (l0.length : Int) > 2000 then (if 2000 ≤ (l0.length : Int) then (some (l0.take 2000, 0)) else (none)) else (some (l0, 0))
set_option maxHeartbeats 8000000 in
set_option maxRecDepth 100000 in
theorem spec_l6Open.calls (A0 : Option Addr) (c0 : Nat) (l0 : List Int) (r1 : List Int) (r2 : Int) (w0 w : World) (hB : Below w0.heap.size w0 w) (hr0 : Kd.C (Kd.int .u8) w0 A0 l0.length l0) (hc0 : l0.length ≤ c0) (h : spec_l6Open.f l0 = some (r1, r2)) :
  Calls Try.prog 49 #[.slice A0 l0.length c0] w fun e w' => ∃ g_ : Nat, e = .returned (.pointer (some ⟨g_, 0, none⟩)) ∧ IsS76 w0 w' g_ r1 r2 ∧ Below w0.heap.size w0 w' ∧ Below w.heap.size w w' := by
 have hu76 := Try.underlying76
 have HR0 := Aside0.mk hr0
 have HC0 := Aside0.mk hc0
 clear hr0 hc0
 have HBW := Aside0.mk (Below.refl w.heap.size w)
 have HW0 := Aside0.mk hB.size
 have HB := Aside0.mk hB
 clear hB
 have H : (if (l0.length : Int) > 2000 then (if 2000 ≤ (l0.length : Int) then (some (l0.take 2000, 0)) else (none)) else (some (l0, 0))) = some (r1, r2) := h
 clear h
 by_cases c2 : (l0.length : Int) > 2000
 ·rw [if_pos c2] at H
  have c2b0 : decide (2000 < (l0.length : Int)) = true := decide_eq_true c2
  have c2b1 : decide (2000 < l0.length) = true := decide_eq_true (by omega)
  clear c2
  by_cases c3 : 2000 ≤ (l0.length : Int)
  ·rw [if_pos c3] at H
   have c3b0 := eq_true c3
   have c3b1 : decide (2000 ≤ (l0.length : Int)) = true := decide_eq_true c3
   clear c3
   simp only [Option.some.injEq, Prod.mk.injEq] at H
   obtain ⟨rfl, rfl⟩ := H
   obtain ⟨i04, hi04, _, hsz4, _⟩ := info_parts info5
   obtain ⟨hcut4, hA4, hC4⟩ := print_take_of (P := Try.prog) (Value.int .u8) 0 22 5 .i64 Try.underlying22 hi04 hsz4 A0 c0 l0 2000 (by omega) (dd_) HC0.out
   have HR101 := Aside0.mk (Kd.C_of_reads (h1 := fun _ => rfl) (hA4 _ (Kd.reads_of_C HR0.out)))
   have HC101 := Aside0.mk hC4
   clear hA4 hC4 hi04 hsz4
   go_enter Try.func49, Try.ntmps49
   go_wp2_with (first | ((with_reducible refine gate_dst (N := 10) rfl ?_); refine box_event ?hg (N := 10) ?hd (cs := #[.slice A0 (l0.take 2000).length c0, .int .i64 0]) (t := 76) ?hr ?_; (case hd => rfl); (case hg => rfl); (case hr => first | (go_simp; done) | (go_simp; rfl)); intro gb102 hg w5 hbox hb; have n0_ := Aside0.mk (below_step HBW.out hb); have n1_ := Aside0.mk (below_step (bb_ HB) hb); have n2_ := Aside0.mk (hbox); have n3_ := Aside0.mk ((by rw [hg]; exact (below_size (by repeat (first | (with_reducible first | exact HBW.out | apply below_alloc | apply pw_below_drewN | apply below_drew1) | exact HBW.out))) : w.heap.size ≤ gb102)); have n4_ := Aside0.mk ((Nat.le_trans HW0.out (by rw [hg]; exact (below_size (by repeat (first | (with_reducible first | exact HBW.out | apply below_alloc | apply pw_below_drewN | apply below_drew1) | exact HBW.out))) : w.heap.size ≤ gb102) : w0.heap.size ≤ gb102)); clear HBW; clear HB; have HBW := n0_; have HB := n1_; have BK102 := n2_; have GW102 := n3_; have GE102 := n4_; clear n0_ n1_ n2_ n3_ n4_; clear hb hbox hg))
   go_ret
   exact ⟨_, rfl, (show IsS76 w0 _ gb102 (l0.take 2000) 0 from ⟨_, _, by (with_reducible repeat (first | refine blk_drewN ?_ _ | refine blk_drew ?_ | refine blk_alloc ?_ _)); exact BK102.out, GE102.out, HR101.out⟩), by repeat (first | (with_reducible first | exact HB.out | apply below_alloc | apply pw_below_drewN | apply below_drew1 | refine below_set ?_ GE102.out) | exact HB.out), by repeat (first | (with_reducible first | exact HBW.out | apply below_alloc | apply pw_below_drewN | apply below_drew1 | refine below_set ?_ GW102.out) | exact HBW.out)⟩
  ·rw [if_neg c3] at H
   exact absurd H (by simp)
 ·rw [if_neg c2] at H
  have c2b0 : decide (2000 < (l0.length : Int)) = false := decide_eq_false c2
  have c2b1 : decide (2000 < l0.length) = false := decide_eq_false (by omega)
  clear c2
  simp only [Option.some.injEq, Prod.mk.injEq] at H
  obtain ⟨rfl, rfl⟩ := H
  go_enter Try.func49, Try.ntmps49
  go_wp2_with (first | ((with_reducible refine gate_dst (N := 10) rfl ?_); refine box_event ?hg (N := 10) ?hd (cs := #[.slice A0 l0.length c0, .int .i64 0]) (t := 76) ?hr ?_; (case hd => rfl); (case hg => rfl); (case hr => first | (go_simp; done) | (go_simp; rfl)); intro gb103 hg w6 hbox hb; have n0_ := Aside0.mk (below_step HBW.out hb); have n1_ := Aside0.mk (below_step (bb_ HB) hb); have n2_ := Aside0.mk (hbox); have n3_ := Aside0.mk ((by rw [hg]; exact (below_size (by repeat (first | (with_reducible first | exact HBW.out | apply below_alloc | apply pw_below_drewN | apply below_drew1) | exact HBW.out))) : w.heap.size ≤ gb103)); have n4_ := Aside0.mk ((Nat.le_trans HW0.out (by rw [hg]; exact (below_size (by repeat (first | (with_reducible first | exact HBW.out | apply below_alloc | apply pw_below_drewN | apply below_drew1) | exact HBW.out))) : w.heap.size ≤ gb103) : w0.heap.size ≤ gb103)); clear HBW; clear HB; have HBW := n0_; have HB := n1_; have BK103 := n2_; have GW103 := n3_; have GE103 := n4_; clear n0_ n1_ n2_ n3_ n4_; clear hb hbox hg))
  go_ret
  exact ⟨_, rfl, (show IsS76 w0 _ gb103 l0 0 from ⟨_, _, by (with_reducible repeat (first | refine blk_drewN ?_ _ | refine blk_drew ?_ | refine blk_alloc ?_ _)); exact BK103.out, GE103.out, HR0.out⟩), by repeat (first | (with_reducible first | exact HB.out | apply below_alloc | apply pw_below_drewN | apply below_drew1 | refine below_set ?_ GE103.out) | exact HB.out), by repeat (first | (with_reducible first | exact HBW.out | apply below_alloc | apply pw_below_drewN | apply below_drew1 | refine below_set ?_ GW103.out) | exact HBW.out)⟩
end Go.Proofs.Ytbfafjejmljcpaa.P

namespace Go.Proofs.Ytbfafjejmljcpaa.P
open Go.RowKit Go.Proofs.YtbfafjejmljcpaaW.PrintWords Go.Proofs.YtbfafjejmljcpaaW.PrintLast
set_option linter.unusedVariables false
set_option linter.unusedSimpArgs false

def spec_l6lLess.l0 : Nat → List Int → List Int → Int → Option (Bool)
 | 0, _, _, _ => none
 | k + 1, x0, x1, x5 => if x5 < 9 then (if 0 ≤ x5 then (if x5 < (x0.length : Int) then (if x5 < (x1.length : Int) then (if (rd x0 x5) = (rd x1 x5) then (spec_l6lLess.l0 k x0 x1 (wrap64 (x5 + 1))) else (some (decide ((rd x0 x5) < (rd x1 x5))))) else (none)) else (none)) else (none)) else (some false)
def spec_l6lLess.f (k : Nat) (l0 : List Int) (l1 : List Int) : Option (Bool) := spec_l6lLess.l0 k l0 l1 0
set_option maxHeartbeats 8000000 in
set_option maxRecDepth 100000 in
theorem spec_l6lLess.calls (k : Nat) (A0 : Option Addr) (c0 : Nat) (l0 : List Int) (A1 : Option Addr) (c1 : Nat) (l1 : List Int) (r : Bool) (w : World) (hr0 : Kd.C (Kd.int .i64) w A0 l0.length l0) (hc0 : l0.length ≤ c0) (hr1 : Kd.C (Kd.int .i64) w A1 l1.length l1) (hc1 : l1.length ≤ c1) (h : spec_l6lLess.f k l0 l1 = some r) :
  Calls Try.prog 93 #[.slice A0 l0.length c0, .slice A1 l1.length c1] w fun e w' => e = .returned (.bool r) ∧ Drawn0 w w' := by
 have HR0 := Aside0.mk hr0
 have HC0 := Aside0.mk hc0
 clear hr0 hc0
 have HR1 := Aside0.mk hr1
 have HC1 := Aside0.mk hc1
 clear hr1 hc1
 have H : (spec_l6lLess.l0 k l0 l1 0) = some r := h
 clear h
 have H' := Aside0.mk H
 clear H
 go_enter Try.func93, Try.ntmps93
 go_wp2
 repeat (go_quiet (fail); try go_wp2)
 go_loopg [5] k (fun kq v5 w' => ∃ (x5_1 : Int), v5 = .int .i64 x5_1 ∧ Aside0 (spec_l6lLess.l0 kq l0 l1 x5_1 = some r) ∧ Aside0 (kq ≤ k) ∧ Drawn0 w w')
 case atStart => exact ⟨(0), (by first | rfl | (simp; done) | (simp [*]; done)), H', ⟨Nat.le_refl _⟩, by repeat (first | exact Drawn0.refl _ | apply Drawn0.step)⟩
 case round =>
  clear H'
  try clear c1
  try clear p2
  obtain ⟨x5_1, rfl, HA, HK1, ⟨m1, rfl⟩⟩ := hrel
  cases gk with
  | zero => exact absurd HA.out (by simp [spec_l6lLess.l0])
  | succ k1 =>
   have H := HA.out
   clear HA
   simp only [spec_l6lLess.l0] at H
   by_cases c3 : x5_1 < 9
   ·rw [if_pos c3] at H
    have c3b0 : decide (x5_1 < 9) = true := decide_eq_true c3
    clear c3
    by_cases c4 : 0 ≤ x5_1
    ·rw [if_pos c4] at H
     have c4b0 : decide (0 ≤ x5_1) = true := decide_eq_true c4
     clear c4
     by_cases c5 : x5_1 < (l0.length : Int)
     ·rw [if_pos c5] at H
      have c5b0 : decide (x5_1 < (l0.length : Int)) = true := decide_eq_true c5
      clear c5
      by_cases c6 : x5_1 < (l1.length : Int)
      ·rw [if_pos c6] at H
       have c6b0 : decide (x5_1 < (l1.length : Int)) = true := decide_eq_true c6
       clear c6
       by_cases c7 : (rd l0 x5_1) = (rd l1 x5_1)
       ·rw [if_pos c7] at H
        have c7b0 : ((rd l0 x5_1) == (rd l1 x5_1)) = true := beq_iff_eq.mpr c7
        have c7b1 : ((rd l0 x5_1) != (rd l1 x5_1)) = false := bne_eq_false_iff_eq.mpr c7
        clear c7
        have H' := Aside0.mk H
        clear H
        have p388 : 0 ≤ (x5_1 : Int) := dd_
        have q388 : x5_1 < (l0.length : Int) := dd_
        obtain ⟨ad388, e388, hx388_0⟩ := Kd.at_int HR0.out x5_1 p388 q388
        cases e388
        replace p388 := eq_true p388
        replace q388 := eq_true q388
        have p389 : 0 ≤ (x5_1 : Int) := dd_
        have q389 : x5_1 < (l1.length : Int) := dd_
        obtain ⟨ad389, e389, hx389_0⟩ := Kd.at_int HR1.out x5_1 p389 q389
        cases e389
        replace p389 := eq_true p389
        replace q389 := eq_true q389
        go_wp2
        repeat (go_quiet (fail); try go_wp2)
        go_roundg k1
        case measure => have := HK1.out; omega
        case rel => exact ⟨(wrap64 (x5_1 + 1)), (by first | rfl | (simp; done) | (simp [*]; done)), H', ⟨by have := HK1.out; omega⟩, by repeat (first | exact Drawn0.refl _ | apply Drawn0.step)⟩
       ·rw [if_neg c7] at H
        have c7b0 : ((rd l0 x5_1) == (rd l1 x5_1)) = false := beq_eq_false_iff_ne.mpr c7
        have c7b1 : ((rd l0 x5_1) != (rd l1 x5_1)) = true := bne_iff_ne.mpr c7
        obtain rfl := Option.some.inj H
        have p388 : 0 ≤ (x5_1 : Int) := dd_
        have q388 : x5_1 < (l0.length : Int) := dd_
        obtain ⟨ad388, e388, hx388_0⟩ := Kd.at_int HR0.out x5_1 p388 q388
        cases e388
        replace p388 := eq_true p388
        replace q388 := eq_true q388
        have p389 : 0 ≤ (x5_1 : Int) := dd_
        have q389 : x5_1 < (l1.length : Int) := dd_
        obtain ⟨ad389, e389, hx389_0⟩ := Kd.at_int HR1.out x5_1 p389 q389
        cases e389
        replace p389 := eq_true p389
        replace q389 := eq_true q389
        have p390 : 0 ≤ (x5_1 : Int) := dd_
        have q390 : x5_1 < (l0.length : Int) := dd_
        obtain ⟨ad390, e390, hx390_0⟩ := Kd.at_int HR0.out x5_1 p390 q390
        obtain rfl : ad388 = ad390 := (by injection e390)
        replace p390 := eq_true p390
        replace q390 := eq_true q390
        have p391 : 0 ≤ (x5_1 : Int) := dd_
        have q391 : x5_1 < (l1.length : Int) := dd_
        obtain ⟨ad391, e391, hx391_0⟩ := Kd.at_int HR1.out x5_1 p391 q391
        obtain rfl : ad389 = ad391 := (by injection e391)
        replace p391 := eq_true p391
        replace q391 := eq_true q391
        go_wp2
        repeat (go_quiet (fail); try go_wp2)
        go_ret
        exact ⟨by first | rfl | (simp; done) | (simp [*]; done), by repeat (first | exact Drawn0.refl _ | apply Drawn0.step)⟩
      ·rw [if_neg c6] at H
       exact absurd H (by simp)
     ·rw [if_neg c5] at H
      exact absurd H (by simp)
    ·rw [if_neg c4] at H
     exact absurd H (by simp)
   ·rw [if_neg c3] at H
    have c3b0 : decide (x5_1 < 9) = false := decide_eq_false c3
    clear c3
    obtain rfl := Option.some.inj H
    go_wp2
    repeat (go_quiet (fail); try go_wp2)
    go_ret
    exact ⟨by first | rfl | (simp; done) | (simp [*]; done), by repeat (first | exact Drawn0.refl _ | apply Drawn0.step)⟩
end Go.Proofs.Ytbfafjejmljcpaa.P

namespace Go.Proofs.YtbfafjejmljcpaaW.PrintWords
open Go.RowKit
namespace Kd
section
variable {α : Type} {d : Kd α} {W : World} {g n : Nat} {S ok : Nat → Prop} {A : Option Addr} {ad : Addr} {xs : List α}
end
end Kd
end Go.Proofs.YtbfafjejmljcpaaW.PrintWords

namespace Go.Proofs.YtbfafjejmljcpaaW.PrintWords
open Go.RowKit
section
variable {w w' u : World} {m B g : Nat} {o : Obj} {row : Option Nat} {S : Nat → Prop} {a : Addr} {v : Value}
theorem below_at (hq : w.drewN m = w') (h : Below B u w) : Below B u w' := by subst hq; exact pw_below_drewN h m
end
namespace Kd
section
variable {α : Type} {d : Kd α} {e base n m : Nat} {ok : Nat → Prop} {w w' : World} {v : Value} {A : Option Addr} {xs : List α}
theorem R_at (hq : w.drewN m = w') (h : d.R e w base ok v xs) : d.R e w' base ok v xs := by subst hq; exact R_drewN h m
end
end Kd
end Go.Proofs.YtbfafjejmljcpaaW.PrintWords

namespace Go.Proofs.Ytbfafjejmljcpaa.P
open Go.RowKit Go.Proofs.YtbfafjejmljcpaaW.PrintWords Go.Proofs.YtbfafjejmljcpaaW.PrintLast
set_option linter.unusedVariables false
set_option linter.unusedSimpArgs false

mutual
def spec_SpreadIn.l0 : Nat → List (List Int) → List Bool → Int → Option (Bool)
 | 0, _, _, _ => none
 | k + 1, x0, x3, x4 => if x4 < 10 then (if 0 ≤ x4 then (if x4 < (x0.length : Int) then ((spec_LeafIn.f k (rd_LI x0 x4)).bind fun t479 => (if t479 = true then (if x4 > 0 then (if 0 ≤ (wrap64 (x4 - 1)) then (if (wrap64 (x4 - 1)) < (x0.length : Int) then ((spec_l6lLess.f k (rd_LI x0 (wrap64 (x4 - 1))) (rd_LI x0 x4)).bind fun t482 => (spec_SpreadIn.j1 k x0 x3 x4 (!t482))) else (none)) else (none)) else (spec_SpreadIn.j1 k x0 x3 x4 false)) else (spec_SpreadIn.j1 k x0 x3 x4 true))) else (none)) else (none)) else (some true)
def spec_SpreadIn.j1 : Nat → List (List Int) → List Bool → Int → Bool → Option (Bool)
 | 0, _, _, _, _ => none
 | k + 1, x0, x3, x4, x36 => if x36 = true then (some false) else (spec_SpreadIn.l1 k x0 x3 x4 1)
def spec_SpreadIn.l1 : Nat → List (List Int) → List Bool → Int → Int → Option (Bool)
 | 0, _, _, _, _ => none
 | k + 1, x0, x3, x4, x5 => if x5 < 9 then (if 0 ≤ x4 then (if x4 < (x0.length : Int) then (if 0 ≤ x5 then (if x5 < ((rd_LI x0 x4).length : Int) then (if 0 ≤ (rd (rd_LI x0 x4) x5) then (if (rd (rd_LI x0 x4) x5) < (x3.length : Int) then (if rdOf false x3 (rd (rd_LI x0 x4) x5) = true then (some false) else (spec_SpreadIn.l1 k x0 (x3.set ((rd (rd_LI x0 x4) x5) : Int).toNat true) x4 (wrap64 (x5 + 1)))) else (none)) else (none)) else (none)) else (none)) else (none)) else (none)) else (spec_SpreadIn.l0 k x0 x3 (wrap64 (x4 + 1)))
end
def spec_SpreadIn.f (k : Nat) (l0 : List (List Int)) : Option (Bool) := if (l0.length : Int) = 10 then (if 81 ≤ 281474976710656 then (spec_SpreadIn.l0 k l0 (List.replicate 81 false) 0) else (none)) else (some false)
set_option maxHeartbeats 8000000 in
set_option maxRecDepth 100000 in
theorem spec_SpreadIn.calls (k : Nat) (A0 : Option Addr) (c0 : Nat) (l0 : List (List Int)) (r : Bool) (w : World) (hr0 : Kd.C (Kd.slice 3 (Kd.int .i64)) w A0 l0.length l0) (hc0 : l0.length ≤ c0) (h : spec_SpreadIn.f k l0 = some r) :
  Calls Try.prog 53 #[.slice A0 l0.length c0] w fun e w' => e = .returned (.bool r) ∧ Below w.heap.size w w' := by
 have HR0 := Aside0.mk hr0
 have HC0 := Aside0.mk hc0
 clear hr0 hc0
 have HB := Aside0.mk (Below.refl w.heap.size w)
 have H : (if (l0.length : Int) = 10 then (if 81 ≤ 281474976710656 then (spec_SpreadIn.l0 k l0 (List.replicate 81 false) 0) else (none)) else (some false)) = some r := h
 clear h
 by_cases c2 : (l0.length : Int) = 10
 ·rw [if_pos c2] at H
  have c2b0 : ((l0.length : Int) == 10) = true := beq_iff_eq.mpr c2
  have c2b1 : ((l0.length : Int) != 10) = false := bne_eq_false_iff_eq.mpr c2
  clear c2
  by_cases c3 : 81 ≤ 281474976710656
  ·rw [if_pos c3] at H
   have c3b0 := eq_true c3
   have c3b1 : decide (81 ≤ 281474976710656) = true := decide_eq_true c3
   clear c3
   obtain ⟨y475, hy475⟩ : ∃ y_ : List Bool, y_ = (List.replicate 81 false) := ⟨_, rfl⟩
   replace H : (spec_SpreadIn.l0 k l0 y475 0) = some r := by first | (rw [hy475]; with_reducible exact H) | (have H2_ := (Option.bind_some _ _).symm.trans H; rw [hy475]; with_reducible exact H2_) | (have H2_ := (Option.bind_some _ _).symm.trans H; with_reducible exact H2_) | with_reducible exact H | (rw [hy475]; exact H) | exact H
   have Ny475 := Aside0.mk hy475
   clear hy475
   have H' := Aside0.mk H
   clear H
   go_enter Try.func53, Try.ntmps53
   go_wp2_with (first | ((with_reducible refine gate_dst (N := 9) rfl ?_); refine Kd.R_make Kd.bool _ 4 rfl (N := 9) rfl 52 _ _ rfl 81 rfl rfl Try.underlying52 (.bool false) 1 info4 rfl (by decide) (by omega) false (ok := fun _ => True) (okp := fun _ => True) rfl (fun _ hk => hk) trivial (by omega) (by omega) (Below.refl _ _) (Nat.le_refl _) ?_; intro v476 w4 ho5 hb hg_ hnew_; clear hg_ hnew_; (first | rw [← Ny475.out] at ho5 | (simp only [Int.reduceToNat] at ho5; rw [← Ny475.out] at ho5)); have n0_ := Aside0.mk (Kd.R_lower ho5 (below_size (bb_ HB))); have n1_ := Aside0.mk (below_step (bb_ HB) hb); clear HB; have HO477 := n0_; have HB := n1_; clear n0_ n1_; clear hb ho5))
   repeat (go_quiet (first | ((with_reducible refine gate_dst (N := 9) rfl ?_); refine Kd.R_make Kd.bool _ 4 rfl (N := 9) rfl 52 _ _ rfl 81 rfl rfl Try.underlying52 (.bool false) 1 info4 rfl (by decide) (by omega) false (ok := fun _ => True) (okp := fun _ => True) rfl (fun _ hk => hk) trivial (by omega) (by omega) (Below.refl _ _) (Nat.le_refl _) ?_; intro v476 w4 ho5 hb hg_ hnew_; clear hg_ hnew_; (first | rw [← Ny475.out] at ho5 | (simp only [Int.reduceToNat] at ho5; rw [← Ny475.out] at ho5)); have n0_ := Aside0.mk (Kd.R_lower ho5 (below_size (bb_ HB))); have n1_ := Aside0.mk (below_step (bb_ HB) hb); clear HB; have HO477 := n0_; have HB := n1_; clear n0_ n1_; clear hb ho5)); try go_wp2_with (first | ((with_reducible refine gate_dst (N := 9) rfl ?_); refine Kd.R_make Kd.bool _ 4 rfl (N := 9) rfl 52 _ _ rfl 81 rfl rfl Try.underlying52 (.bool false) 1 info4 rfl (by decide) (by omega) false (ok := fun _ => True) (okp := fun _ => True) rfl (fun _ hk => hk) trivial (by omega) (by omega) (Below.refl _ _) (Nat.le_refl _) ?_; intro v476 w4 ho5 hb hg_ hnew_; clear hg_ hnew_; (first | rw [← Ny475.out] at ho5 | (simp only [Int.reduceToNat] at ho5; rw [← Ny475.out] at ho5)); have n0_ := Aside0.mk (Kd.R_lower ho5 (below_size (bb_ HB))); have n1_ := Aside0.mk (below_step (bb_ HB) hb); clear HB; have HO477 := n0_; have HB := n1_; clear n0_ n1_; clear hb ho5)))
   go_loopg [4] k (fun kq v4 w' => ∃ (x3_1 : List Bool) (x4_1 : Int), v4 = .int .i64 x4_1 ∧ Aside0 (spec_SpreadIn.l0 kq l0 x3_1 x4_1 = some r) ∧ Aside0 (kq ≤ k) ∧ Aside0 (Kd.R Kd.bool 4 w' w.heap.size (fun _ => True) v476 x3_1) ∧ Aside0 (Below w.heap.size w w'))
   case atStart => exact ⟨(y475), (0), (by first | rfl | (simp; done) | (simp [*]; done)), H', ⟨Nat.le_refl _⟩, ⟨rr_ HO477⟩, ⟨by repeat (first | (with_reducible first | exact HB.out | apply below_alloc | apply pw_below_drewN | apply below_drew1) | exact HB.out)⟩⟩
   case round =>
    clear H'
    try clear c2
    try clear c2b0
    try clear c2b1
    try clear p2
    try clear c3
    try clear c3b0
    try clear c3b1
    try clear c5
    obtain ⟨x3_1, x4_1, rfl, HA, HK1, HO_3, HB⟩ := hrel
    cases gk with
    | zero => exact absurd HA.out (by simp [spec_SpreadIn.l0])
    | succ k1 =>
     have H := HA.out
     clear HA
     simp only [spec_SpreadIn.l0] at H
     by_cases c6 : x4_1 < 10
     ·rw [if_pos c6] at H
      have c6b0 : decide (x4_1 < 10) = true := decide_eq_true c6
      clear c6
      have HC7 := Aside0.mk H
      clear H
      go_upto_region 7 with (fail)
      repeat (go_quiet (fail); go_upto_region 7 with (fail))
      go_cut [36] (fun v36 wc => ∃ (kq : Nat) (x36_6 : Bool), v36 = .bool x36_6 ∧ Aside0 (spec_SpreadIn.j1 kq l0 x3_1 x4_1 x36_6 = some r) ∧ Aside0 (kq ≤ k1) ∧ Aside0 (Kd.R Kd.bool 4 wc w.heap.size (fun _ => True) v476 x3_1) ∧ Aside0 (Below w.heap.size w wc))
      case first =>
       have H := HC7.out
       clear HC7
       by_cases c8 : 0 ≤ x4_1
       ·rw [if_pos c8] at H
        have c8b0 : decide (0 ≤ x4_1) = true := decide_eq_true c8
        clear c8
        (first | rw [c8b0] | (simp only [i64_w, i32_w]; rw [c8b0]) | skip)
        by_cases c9 : x4_1 < (l0.length : Int)
        ·rw [if_pos c9] at H
         have c9b0 : decide (x4_1 < (l0.length : Int)) = true := decide_eq_true c9
         clear c9
         replace H := Option.bind_eq_some_iff.mp H
         obtain ⟨t479, A100, H⟩ := H
         replace H : (if t479 = true then (if x4_1 > 0 then (if 0 ≤ (wrap64 (x4_1 - 1)) then (if (wrap64 (x4_1 - 1)) < (l0.length : Int) then ((spec_l6lLess.f k1 (rd_LI l0 (wrap64 (x4_1 - 1))) (rd_LI l0 x4_1)).bind fun t482 => (spec_SpreadIn.j1 k1 l0 x3_1 x4_1 (!t482))) else (none)) else (none)) else (spec_SpreadIn.j1 k1 l0 x3_1 x4_1 false)) else (spec_SpreadIn.j1 k1 l0 x3_1 x4_1 true)) = some r := H
         have A10 := Aside0.mk A100
         clear A100
         by_cases c11 : t479 = true
         ·subst c11
          have H1 : (if x4_1 > 0 then (if 0 ≤ (wrap64 (x4_1 - 1)) then (if (wrap64 (x4_1 - 1)) < (l0.length : Int) then ((spec_l6lLess.f k1 (rd_LI l0 (wrap64 (x4_1 - 1))) (rd_LI l0 x4_1)).bind fun t482 => (spec_SpreadIn.j1 k1 l0 x3_1 x4_1 (!t482))) else (none)) else (none)) else (spec_SpreadIn.j1 k1 l0 x3_1 x4_1 false)) = some r := by rw [if_pos rfl] at H; exact H
          clear H
          have H := H1
          clear H1
          by_cases c12 : x4_1 > 0
          ·rw [if_pos c12] at H
           have c12b0 : decide (0 < x4_1) = true := decide_eq_true c12
           clear c12
           obtain ⟨ji13, hji13⟩ : ∃ j_ : Int, (wrap64 (x4_1 - 1)) = j_ := ⟨_, rfl⟩
           replace H : (if 0 ≤ (ji13) then (if (ji13) < (l0.length : Int) then ((spec_l6lLess.f k1 (rd_LI l0 (ji13)) (rd_LI l0 x4_1)).bind fun t482 => (spec_SpreadIn.j1 k1 l0 x3_1 x4_1 (!t482))) else (none)) else (none)) = some r := by first | (rw [hji13] at H; exact H) | (simp only [hji13] at H ⊢; exact H)
           (try rw [hji13] at A10)
           have hji13w : (IntKind.i64.wrap (x4_1 - 1)) = ji13 := (i64_w _).trans hji13
           by_cases c14 : 0 ≤ (ji13)
           ·rw [if_pos c14] at H
            have c14b0 : decide (0 ≤ (ji13)) = true := decide_eq_true c14
            clear c14
            by_cases c15 : (ji13) < (l0.length : Int)
            ·rw [if_pos c15] at H
             have c15b0 : decide ((ji13) < (l0.length : Int)) = true := decide_eq_true c15
             clear c15
             replace H := Option.bind_eq_some_iff.mp H
             obtain ⟨t482, A160, H⟩ := H
             replace H : (spec_SpreadIn.j1 k1 l0 x3_1 x4_1 (!t482)) = some r := H
             have A16 := Aside0.mk A160
             clear A160
             have H' := Aside0.mk H
             clear H
             have p478 : 0 ≤ (x4_1 : Int) := dd_
             have q478 : x4_1 < (l0.length : Int) := dd_
             obtain ⟨ad478, A478_0, c478_0, e478, hx478_0, hl478_0, hi478_0⟩ := at_LI HR0.out x4_1 p478 q478
             cases e478
             replace hx478_0 := hc_ HB hx478_0
             have HR478_0 := Aside0.mk hi478_0
             have HC478_0 := Aside0.mk hl478_0
             clear hi478_0 hl478_0
             replace p478 := eq_true p478
             replace q478 := eq_true q478
             go_wp2_with (first | (go_at_call 24; (with_reducible refine (spec_LeafIn.calls k1 _ _ (rd_LI l0 x4_1) true _ ?side1 ?side2 A10.out).mono ?_); (case side1 => exact sb_ HR478_0 HB); (case side2 => exact HC478_0.out); rintro e w' ⟨rfl, ⟨nd, rfl⟩⟩; (try first | exact ⟨rfl, _, World.drewN_drewN _ _ _⟩ | exact ⟨rfl, _, Eq.trans (World.drewN_drewN _ _ _) (congrArg (World.drewN _) (Nat.add_assoc _ _ _))⟩); have p480 : 0 ≤ ((ji13) : Int) := dd_; have q480 : (ji13) < (l0.length : Int) := dd_; obtain ⟨ad480, A480_0, c480_0, e480, hx480_0, hl480_0, hi480_0⟩ := at_LI HR0.out (ji13) p480 q480; obtain rfl : ad478 = ad480 := (by injection e480); replace hx480_0 := hc_ HB hx480_0; have HR480_0 := Aside0.mk hi480_0; have HC480_0 := Aside0.mk hl480_0; clear hi480_0 hl480_0; replace p480 := eq_true p480; replace q480 := eq_true q480; have p481 : 0 ≤ (x4_1 : Int) := dd_; have q481 : x4_1 < (l0.length : Int) := dd_; obtain ⟨ad481, A481_0, c481_0, e481, hx481_0, hl481_0, hi481_0⟩ := at_LI HR0.out x4_1 p481 q481; obtain rfl : ad478 = ad481 := (by injection e481); replace hx481_0 := hc_ HB hx481_0; have HR481_0 := Aside0.mk hi481_0; have HC481_0 := Aside0.mk hl481_0; clear hi481_0 hl481_0; replace p481 := eq_true p481; replace q481 := eq_true q481; have ea_ := Option.some.inj (hx478_0.symm.trans hx481_0); injection ea_ with ea_ en_ ec_; subst ea_; subst ec_; clear en_) | (go_at_call 93; (with_reducible refine (spec_l6lLess.calls k1 _ _ (rd_LI l0 (ji13)) _ _ (rd_LI l0 x4_1) t482 _ ?side1 ?side2 ?side3 ?side4 A16.out).mono ?_); (case side1 => repeat (first | exact (Kd.C_below HR480_0.out (bb_ HB)) | (with_reducible refine Kd.C_alloc ?_ _) | (with_reducible refine Kd.C_drewN ?_ _) | (with_reducible refine Kd.C_drew ?_))); (case side2 => exact HC480_0.out); (case side3 => repeat (first | exact (Kd.C_below HR481_0.out (bb_ HB)) | (with_reducible refine Kd.C_alloc ?_ _) | (with_reducible refine Kd.C_drewN ?_ _) | (with_reducible refine Kd.C_drew ?_))); (case side4 => exact HC481_0.out); rintro e w' ⟨rfl, ⟨nd, rfl⟩⟩; (try first | exact ⟨rfl, _, World.drewN_drewN _ _ _⟩ | exact ⟨rfl, _, Eq.trans (World.drewN_drewN _ _ _) (congrArg (World.drewN _) (Nat.add_assoc _ _ _))⟩)))
             repeat (go_quiet (first | (go_at_call 24; (with_reducible refine (spec_LeafIn.calls k1 _ _ (rd_LI l0 x4_1) true _ ?side1 ?side2 A10.out).mono ?_); (case side1 => exact sb_ HR478_0 HB); (case side2 => exact HC478_0.out); rintro e w' ⟨rfl, ⟨nd, rfl⟩⟩; (try first | exact ⟨rfl, _, World.drewN_drewN _ _ _⟩ | exact ⟨rfl, _, Eq.trans (World.drewN_drewN _ _ _) (congrArg (World.drewN _) (Nat.add_assoc _ _ _))⟩); have p480 : 0 ≤ ((ji13) : Int) := dd_; have q480 : (ji13) < (l0.length : Int) := dd_; obtain ⟨ad480, A480_0, c480_0, e480, hx480_0, hl480_0, hi480_0⟩ := at_LI HR0.out (ji13) p480 q480; obtain rfl : ad478 = ad480 := (by injection e480); replace hx480_0 := hc_ HB hx480_0; have HR480_0 := Aside0.mk hi480_0; have HC480_0 := Aside0.mk hl480_0; clear hi480_0 hl480_0; replace p480 := eq_true p480; replace q480 := eq_true q480; have p481 : 0 ≤ (x4_1 : Int) := dd_; have q481 : x4_1 < (l0.length : Int) := dd_; obtain ⟨ad481, A481_0, c481_0, e481, hx481_0, hl481_0, hi481_0⟩ := at_LI HR0.out x4_1 p481 q481; obtain rfl : ad478 = ad481 := (by injection e481); replace hx481_0 := hc_ HB hx481_0; have HR481_0 := Aside0.mk hi481_0; have HC481_0 := Aside0.mk hl481_0; clear hi481_0 hl481_0; replace p481 := eq_true p481; replace q481 := eq_true q481; have ea_ := Option.some.inj (hx478_0.symm.trans hx481_0); injection ea_ with ea_ en_ ec_; subst ea_; subst ec_; clear en_) | (go_at_call 93; (with_reducible refine (spec_l6lLess.calls k1 _ _ (rd_LI l0 (ji13)) _ _ (rd_LI l0 x4_1) t482 _ ?side1 ?side2 ?side3 ?side4 A16.out).mono ?_); (case side1 => repeat (first | exact (Kd.C_below HR480_0.out (bb_ HB)) | (with_reducible refine Kd.C_alloc ?_ _) | (with_reducible refine Kd.C_drewN ?_ _) | (with_reducible refine Kd.C_drew ?_))); (case side2 => exact HC480_0.out); (case side3 => repeat (first | exact (Kd.C_below HR481_0.out (bb_ HB)) | (with_reducible refine Kd.C_alloc ?_ _) | (with_reducible refine Kd.C_drewN ?_ _) | (with_reducible refine Kd.C_drew ?_))); (case side4 => exact HC481_0.out); rintro e w' ⟨rfl, ⟨nd, rfl⟩⟩; (try first | exact ⟨rfl, _, World.drewN_drewN _ _ _⟩ | exact ⟨rfl, _, Eq.trans (World.drewN_drewN _ _ _) (congrArg (World.drewN _) (Nat.add_assoc _ _ _))⟩))); try go_wp2_with (first | (go_at_call 24; (with_reducible refine (spec_LeafIn.calls k1 _ _ (rd_LI l0 x4_1) true _ ?side1 ?side2 A10.out).mono ?_); (case side1 => exact sb_ HR478_0 HB); (case side2 => exact HC478_0.out); rintro e w' ⟨rfl, ⟨nd, rfl⟩⟩; (try first | exact ⟨rfl, _, World.drewN_drewN _ _ _⟩ | exact ⟨rfl, _, Eq.trans (World.drewN_drewN _ _ _) (congrArg (World.drewN _) (Nat.add_assoc _ _ _))⟩); have p480 : 0 ≤ ((ji13) : Int) := dd_; have q480 : (ji13) < (l0.length : Int) := dd_; obtain ⟨ad480, A480_0, c480_0, e480, hx480_0, hl480_0, hi480_0⟩ := at_LI HR0.out (ji13) p480 q480; obtain rfl : ad478 = ad480 := (by injection e480); replace hx480_0 := hc_ HB hx480_0; have HR480_0 := Aside0.mk hi480_0; have HC480_0 := Aside0.mk hl480_0; clear hi480_0 hl480_0; replace p480 := eq_true p480; replace q480 := eq_true q480; have p481 : 0 ≤ (x4_1 : Int) := dd_; have q481 : x4_1 < (l0.length : Int) := dd_; obtain ⟨ad481, A481_0, c481_0, e481, hx481_0, hl481_0, hi481_0⟩ := at_LI HR0.out x4_1 p481 q481; obtain rfl : ad478 = ad481 := (by injection e481); replace hx481_0 := hc_ HB hx481_0; have HR481_0 := Aside0.mk hi481_0; have HC481_0 := Aside0.mk hl481_0; clear hi481_0 hl481_0; replace p481 := eq_true p481; replace q481 := eq_true q481; have ea_ := Option.some.inj (hx478_0.symm.trans hx481_0); injection ea_ with ea_ en_ ec_; subst ea_; subst ec_; clear en_) | (go_at_call 93; (with_reducible refine (spec_l6lLess.calls k1 _ _ (rd_LI l0 (ji13)) _ _ (rd_LI l0 x4_1) t482 _ ?side1 ?side2 ?side3 ?side4 A16.out).mono ?_); (case side1 => repeat (first | exact (Kd.C_below HR480_0.out (bb_ HB)) | (with_reducible refine Kd.C_alloc ?_ _) | (with_reducible refine Kd.C_drewN ?_ _) | (with_reducible refine Kd.C_drew ?_))); (case side2 => exact HC480_0.out); (case side3 => repeat (first | exact (Kd.C_below HR481_0.out (bb_ HB)) | (with_reducible refine Kd.C_alloc ?_ _) | (with_reducible refine Kd.C_drewN ?_ _) | (with_reducible refine Kd.C_drew ?_))); (case side4 => exact HC481_0.out); rintro e w' ⟨rfl, ⟨nd, rfl⟩⟩; (try first | exact ⟨rfl, _, World.drewN_drewN _ _ _⟩ | exact ⟨rfl, _, Eq.trans (World.drewN_drewN _ _ _) (congrArg (World.drewN _) (Nat.add_assoc _ _ _))⟩))))
             go_meet
             case rel => exact ⟨_, (!t482), (by first | rfl | (simp; done) | (simp [*]; done)), H', ⟨by have := HK1.out; first | omega | exact Nat.le_refl _⟩, ⟨rr_ HO_3⟩, ⟨by repeat (first | (with_reducible first | exact HB.out | apply below_alloc | apply pw_below_drewN | apply below_drew1) | exact HB.out)⟩⟩
            ·rw [if_neg c15] at H
             exact absurd H (by simp)
           ·rw [if_neg c14] at H
            exact absurd H (by simp)
          ·rw [if_neg c12] at H
           have c12b0 : decide (0 < x4_1) = false := decide_eq_false c12
           clear c12
           have H' := Aside0.mk H
           clear H
           have p478 : 0 ≤ (x4_1 : Int) := dd_
           have q478 : x4_1 < (l0.length : Int) := dd_
           obtain ⟨ad478, A478_0, c478_0, e478, hx478_0, hl478_0, hi478_0⟩ := at_LI HR0.out x4_1 p478 q478
           cases e478
           replace hx478_0 := hc_ HB hx478_0
           have HR478_0 := Aside0.mk hi478_0
           have HC478_0 := Aside0.mk hl478_0
           clear hi478_0 hl478_0
           replace p478 := eq_true p478
           replace q478 := eq_true q478
           go_wp2_with (first | (go_at_call 24; (with_reducible refine (spec_LeafIn.calls k1 _ _ (rd_LI l0 x4_1) true _ ?side1 ?side2 A10.out).mono ?_); (case side1 => exact sb_ HR478_0 HB); (case side2 => exact HC478_0.out); rintro e w' ⟨rfl, ⟨nd, rfl⟩⟩; (try first | exact ⟨rfl, _, World.drewN_drewN _ _ _⟩ | exact ⟨rfl, _, Eq.trans (World.drewN_drewN _ _ _) (congrArg (World.drewN _) (Nat.add_assoc _ _ _))⟩)))
           repeat (go_quiet (first | (go_at_call 24; (with_reducible refine (spec_LeafIn.calls k1 _ _ (rd_LI l0 x4_1) true _ ?side1 ?side2 A10.out).mono ?_); (case side1 => exact sb_ HR478_0 HB); (case side2 => exact HC478_0.out); rintro e w' ⟨rfl, ⟨nd, rfl⟩⟩; (try first | exact ⟨rfl, _, World.drewN_drewN _ _ _⟩ | exact ⟨rfl, _, Eq.trans (World.drewN_drewN _ _ _) (congrArg (World.drewN _) (Nat.add_assoc _ _ _))⟩))); try go_wp2_with (first | (go_at_call 24; (with_reducible refine (spec_LeafIn.calls k1 _ _ (rd_LI l0 x4_1) true _ ?side1 ?side2 A10.out).mono ?_); (case side1 => exact sb_ HR478_0 HB); (case side2 => exact HC478_0.out); rintro e w' ⟨rfl, ⟨nd, rfl⟩⟩; (try first | exact ⟨rfl, _, World.drewN_drewN _ _ _⟩ | exact ⟨rfl, _, Eq.trans (World.drewN_drewN _ _ _) (congrArg (World.drewN _) (Nat.add_assoc _ _ _))⟩))))
           go_meet
           case rel => exact ⟨_, (false), (by first | rfl | (simp; done) | (simp [*]; done)), H', ⟨by have := HK1.out; first | omega | exact Nat.le_refl _⟩, ⟨rr_ HO_3⟩, ⟨by repeat (first | (with_reducible first | exact HB.out | apply below_alloc | apply pw_below_drewN | apply below_drew1) | exact HB.out)⟩⟩
         ·replace c11 := Bool.eq_false_iff.mpr c11
          subst c11
          have H1 : (spec_SpreadIn.j1 k1 l0 x3_1 x4_1 true) = some r := by rw [if_neg (show ¬ (false = true) by decide)] at H; exact H
          clear H
          have H := H1
          clear H1
          have H' := Aside0.mk H
          clear H
          have p478 : 0 ≤ (x4_1 : Int) := dd_
          have q478 : x4_1 < (l0.length : Int) := dd_
          obtain ⟨ad478, A478_0, c478_0, e478, hx478_0, hl478_0, hi478_0⟩ := at_LI HR0.out x4_1 p478 q478
          cases e478
          replace hx478_0 := hc_ HB hx478_0
          have HR478_0 := Aside0.mk hi478_0
          have HC478_0 := Aside0.mk hl478_0
          clear hi478_0 hl478_0
          replace p478 := eq_true p478
          replace q478 := eq_true q478
          go_wp2_with (first | (go_at_call 24; (with_reducible refine (spec_LeafIn.calls k1 _ _ (rd_LI l0 x4_1) false _ ?side1 ?side2 A10.out).mono ?_); (case side1 => exact sb_ HR478_0 HB); (case side2 => exact HC478_0.out); rintro e w' ⟨rfl, ⟨nd, rfl⟩⟩; (try first | exact ⟨rfl, _, World.drewN_drewN _ _ _⟩ | exact ⟨rfl, _, Eq.trans (World.drewN_drewN _ _ _) (congrArg (World.drewN _) (Nat.add_assoc _ _ _))⟩)))
          repeat (go_quiet (first | (go_at_call 24; (with_reducible refine (spec_LeafIn.calls k1 _ _ (rd_LI l0 x4_1) false _ ?side1 ?side2 A10.out).mono ?_); (case side1 => exact sb_ HR478_0 HB); (case side2 => exact HC478_0.out); rintro e w' ⟨rfl, ⟨nd, rfl⟩⟩; (try first | exact ⟨rfl, _, World.drewN_drewN _ _ _⟩ | exact ⟨rfl, _, Eq.trans (World.drewN_drewN _ _ _) (congrArg (World.drewN _) (Nat.add_assoc _ _ _))⟩))); try go_wp2_with (first | (go_at_call 24; (with_reducible refine (spec_LeafIn.calls k1 _ _ (rd_LI l0 x4_1) false _ ?side1 ?side2 A10.out).mono ?_); (case side1 => exact sb_ HR478_0 HB); (case side2 => exact HC478_0.out); rintro e w' ⟨rfl, ⟨nd, rfl⟩⟩; (try first | exact ⟨rfl, _, World.drewN_drewN _ _ _⟩ | exact ⟨rfl, _, Eq.trans (World.drewN_drewN _ _ _) (congrArg (World.drewN _) (Nat.add_assoc _ _ _))⟩))))
          go_meet
          case rel => exact ⟨_, (true), (by first | rfl | (simp; done) | (simp [*]; done)), H', ⟨by have := HK1.out; first | omega | exact Nat.le_refl _⟩, ⟨rr_ HO_3⟩, ⟨by repeat (first | (with_reducible first | exact HB.out | apply below_alloc | apply pw_below_drewN | apply below_drew1) | exact HB.out)⟩⟩
        ·rw [if_neg c9] at H
         exact absurd H (by simp)
       ·rw [if_neg c8] at H
        exact absurd H (by simp)
      case rest =>
       clear HC7
       try clear c1
       try clear c2
       try clear c2b0
       try clear c2b1
       try clear p2
       try clear c3
       try clear c3b0
       try clear c3b1
       try clear c4
       try clear p4
       try clear q4
       try clear hx4
       try clear c5
       try clear c6
       try clear c6b0
       try clear p6
       try clear c8
       try clear c8b0
       try clear c9
       try clear c9b0
       try clear c11
       try clear c12
       try clear c12b0
       try clear c14
       try clear c14b0
       try clear c15
       try clear c15b0
       try clear hx478_0
       try clear hx480_0
       try clear hx481_0
       try clear p2
       try clear p478
       try clear p480
       try clear p481
       try clear q478
       try clear q480
       try clear q481
       obtain ⟨kq, x36_6, rfl, HA, HJ6, HO_3, HB⟩ := hcut
       cases kq with
       | zero => exact absurd HA.out (by simp [spec_SpreadIn.j1])
       | succ kj6 =>
        have H := HA.out
        clear HA
        simp only [spec_SpreadIn.j1] at H
        by_cases c17 : x36_6 = true
        ·subst c17
         have H1 : (some false) = some r := by rw [if_pos rfl] at H; exact H
         clear H
         have H := H1
         clear H1
         obtain rfl := Option.some.inj H
         go_wp2
         repeat (go_quiet (fail); try go_wp2)
         go_ret
         exact ⟨ee_, bb_ HB⟩
        ·replace c17 := Bool.eq_false_iff.mpr c17
         subst c17
         have H1 : (spec_SpreadIn.l1 kj6 l0 x3_1 x4_1 1) = some r := by rw [if_neg (show ¬ (false = true) by decide)] at H; exact H
         clear H
         have H := H1
         clear H1
         have H' := Aside0.mk H
         clear H
         go_wp2
         repeat (go_quiet (fail); try go_wp2)
         go_loopg [5] kj6 (fun kq v5 w' => ∃ (x3_3 : List Bool) (x5_3 : Int), v5 = .int .i64 x5_3 ∧ Aside0 (spec_SpreadIn.l1 kq l0 x3_3 x4_1 x5_3 = some r) ∧ Aside0 (kq ≤ kj6) ∧ Aside0 (Kd.R Kd.bool 4 w' w.heap.size (fun _ => True) v476 x3_3) ∧ Aside0 (Below w.heap.size w w'))
         case atStart => exact ⟨(x3_1), (1), (by first | rfl | (simp; done) | (simp [*]; done)), H', ⟨Nat.le_refl _⟩, ⟨rr_ HO_3⟩, ⟨by repeat (first | (with_reducible first | exact HB.out | apply below_alloc | apply pw_below_drewN | apply below_drew1) | exact HB.out)⟩⟩
         case round =>
          clear H'
          try clear c1
          try clear c2
          try clear c2b0
          try clear c2b1
          try clear p2
          try clear c3
          try clear c3b0
          try clear c3b1
          try clear c4
          try clear p4
          try clear q4
          try clear hx4
          try clear c5
          try clear c6
          try clear c6b0
          try clear p6
          try clear c8
          try clear c8b0
          try clear c9
          try clear c9b0
          try clear c11
          try clear c12
          try clear c12b0
          try clear c14
          try clear c14b0
          try clear c15
          try clear c15b0
          try clear c17
          try clear hx478_0
          try clear hx480_0
          try clear hx481_0
          try clear p2
          try clear p4
          try clear p478
          try clear p480
          try clear p481
          try clear p6
          try clear q4
          try clear q478
          try clear q480
          try clear q481
          obtain ⟨x3_3, x5_3, rfl, HA, HK3, HO_3, HB⟩ := hrel
          cases gk with
          | zero => exact absurd HA.out (by simp [spec_SpreadIn.l1])
          | succ k3 =>
           have H := HA.out
           clear HA
           simp only [spec_SpreadIn.l1] at H
           by_cases c18 : x5_3 < 9
           ·rw [if_pos c18] at H
            have c18b0 : decide (x5_3 < 9) = true := decide_eq_true c18
            clear c18
            by_cases c19 : 0 ≤ x4_1
            ·rw [if_pos c19] at H
             have c19b0 : decide (0 ≤ x4_1) = true := decide_eq_true c19
             clear c19
             by_cases c20 : x4_1 < (l0.length : Int)
             ·rw [if_pos c20] at H
              have c20b0 : decide (x4_1 < (l0.length : Int)) = true := decide_eq_true c20
              clear c20
              by_cases c21 : 0 ≤ x5_3
              ·rw [if_pos c21] at H
               have c21b0 : decide (0 ≤ x5_3) = true := decide_eq_true c21
               clear c21
               by_cases c22 : x5_3 < ((rd_LI l0 x4_1).length : Int)
               ·rw [if_pos c22] at H
                have c22b0 : decide (x5_3 < ((rd_LI l0 x4_1).length : Int)) = true := decide_eq_true c22
                clear c22
                by_cases c23 : 0 ≤ (rd (rd_LI l0 x4_1) x5_3)
                ·rw [if_pos c23] at H
                 have c23b0 : decide (0 ≤ (rd (rd_LI l0 x4_1) x5_3)) = true := decide_eq_true c23
                 clear c23
                 by_cases c24 : (rd (rd_LI l0 x4_1) x5_3) < (x3_3.length : Int)
                 ·rw [if_pos c24] at H
                  have c24b0 : decide ((rd (rd_LI l0 x4_1) x5_3) < (x3_3.length : Int)) = true := decide_eq_true c24
                  clear c24
                  obtain ⟨bq25, hbq25⟩ : ∃ b_ : Bool, b_ = (rdOf false x3_3 (rd (rd_LI l0 x4_1) x5_3)) := ⟨_, rfl⟩
                  replace H : (if bq25 = true then (some false) else (spec_SpreadIn.l1 k3 l0 (x3_3.set ((rd (rd_LI l0 x4_1) x5_3) : Int).toNat true) x4_1 (wrap64 (x5_3 + 1)))) = some r := by rw [← hbq25] at H; exact H
                  have Nbq25 := Aside0.mk hbq25
                  clear hbq25
                  by_cases c26 : bq25 = true
                  ·subst c26
                   have H1 : (some false) = some r := by rw [if_pos rfl] at H; exact H
                   clear H
                   have H := H1
                   clear H1
                   obtain rfl := Option.some.inj H
                   have p483 : 0 ≤ (x4_1 : Int) := dd_
                   have q483 : x4_1 < (l0.length : Int) := dd_
                   obtain ⟨ad483, A483_0, c483_0, e483, hx483_0, hl483_0, hi483_0⟩ := at_LI HR0.out x4_1 p483 q483
                   cases e483
                   replace hx483_0 := hc_ HB hx483_0
                   have HR483_0 := Aside0.mk hi483_0
                   have HC483_0 := Aside0.mk hl483_0
                   clear hi483_0 hl483_0
                   replace p483 := eq_true p483
                   replace q483 := eq_true q483
                   have p484 : 0 ≤ (x5_3 : Int) := dd_
                   have q484 : x5_3 < ((rd_LI l0 x4_1).length : Int) := dd_
                   obtain ⟨ad484, e484, hx484_0⟩ := Kd.at_int HR483_0.out x5_3 p484 q484
                   cases e484
                   replace hx484_0 := hc_ HB hx484_0
                   replace p484 := eq_true p484
                   replace q484 := eq_true q484
                   obtain ⟨Ao27, co27, eo27⟩ := Kd.R_slice HO_3.out
                   subst eo27
                   have p485 : 0 ≤ ((rd (rd_LI l0 x4_1) x5_3) : Int) := dd_
                   have q485 : (rd (rd_LI l0 x4_1) x5_3) < (x3_3.length : Int) := dd_
                   obtain ⟨ad485, e485, hx485_0⟩ := Kd.at_bool (Kd.R_reads' HO_3.out).2.2 (rd (rd_LI l0 x4_1) x5_3) p485 q485
                   (try rw [← Nbq25.out] at hx485_0)
                   cases e485
                   replace p485 := eq_true p485
                   replace q485 := eq_true q485
                   go_wp2
                   repeat (go_quiet (fail); try go_wp2)
                   go_ret
                   exact ⟨ee_, bb_ HB⟩
                  ·replace c26 := Bool.eq_false_iff.mpr c26
                   subst c26
                   have H1 : (spec_SpreadIn.l1 k3 l0 (x3_3.set ((rd (rd_LI l0 x4_1) x5_3) : Int).toNat true) x4_1 (wrap64 (x5_3 + 1))) = some r := by rw [if_neg (show ¬ (false = true) by decide)] at H; exact H
                   clear H
                   have H := H1
                   clear H1
                   obtain ⟨y488, hy488⟩ : ∃ y_ : List Bool, y_ = (x3_3.set ((rd (rd_LI l0 x4_1) x5_3) : Int).toNat true) := ⟨_, rfl⟩
                   replace H : (spec_SpreadIn.l1 k3 l0 y488 x4_1 (wrap64 (x5_3 + 1))) = some r := by first | (rw [hy488]; with_reducible exact H) | (have H2_ := (Option.bind_some _ _).symm.trans H; rw [hy488]; with_reducible exact H2_) | (have H2_ := (Option.bind_some _ _).symm.trans H; with_reducible exact H2_) | with_reducible exact H | (rw [hy488]; exact H) | exact H
                   have Ny488 := Aside0.mk hy488
                   clear hy488
                   have H' := Aside0.mk H
                   clear H
                   have p483 : 0 ≤ (x4_1 : Int) := dd_
                   have q483 : x4_1 < (l0.length : Int) := dd_
                   obtain ⟨ad483, A483_0, c483_0, e483, hx483_0, hl483_0, hi483_0⟩ := at_LI HR0.out x4_1 p483 q483
                   cases e483
                   replace hx483_0 := hc_ HB hx483_0
                   have HR483_0 := Aside0.mk hi483_0
                   have HC483_0 := Aside0.mk hl483_0
                   clear hi483_0 hl483_0
                   replace p483 := eq_true p483
                   replace q483 := eq_true q483
                   have p484 : 0 ≤ (x5_3 : Int) := dd_
                   have q484 : x5_3 < ((rd_LI l0 x4_1).length : Int) := dd_
                   obtain ⟨ad484, e484, hx484_0⟩ := Kd.at_int HR483_0.out x5_3 p484 q484
                   cases e484
                   replace hx484_0 := hc_ HB hx484_0
                   replace p484 := eq_true p484
                   replace q484 := eq_true q484
                   obtain ⟨Ao29, co29, eo29⟩ := Kd.R_slice HO_3.out
                   subst eo29
                   have p485 : 0 ≤ ((rd (rd_LI l0 x4_1) x5_3) : Int) := dd_
                   have q485 : (rd (rd_LI l0 x4_1) x5_3) < (x3_3.length : Int) := dd_
                   obtain ⟨ad485, e485, hx485_0⟩ := Kd.at_bool (Kd.R_reads' HO_3.out).2.2 (rd (rd_LI l0 x4_1) x5_3) p485 q485
                   (try rw [← Nbq25.out] at hx485_0)
                   cases e485
                   replace p485 := eq_true p485
                   replace q485 := eq_true q485
                   have p486 : 0 ≤ (x4_1 : Int) := dd_
                   have q486 : x4_1 < (l0.length : Int) := dd_
                   obtain ⟨ad486, A486_0, c486_0, e486, hx486_0, hl486_0, hi486_0⟩ := at_LI HR0.out x4_1 p486 q486
                   obtain rfl : ad483 = ad486 := (by injection e486)
                   replace hx486_0 := hc_ HB hx486_0
                   have HR486_0 := Aside0.mk hi486_0
                   have HC486_0 := Aside0.mk hl486_0
                   clear hi486_0 hl486_0
                   replace p486 := eq_true p486
                   replace q486 := eq_true q486
                   have ea_ := Option.some.inj (hx483_0.symm.trans hx486_0)
                   injection ea_ with ea_ en_ ec_
                   subst ea_
                   subst ec_
                   clear en_
                   have p487 : 0 ≤ (x5_3 : Int) := dd_
                   have q487 : x5_3 < ((rd_LI l0 x4_1).length : Int) := dd_
                   obtain ⟨ad487, e487, hx487_0⟩ := Kd.at_int HR486_0.out x5_3 p487 q487
                   cases e487
                   replace hx487_0 := hc_ HB hx487_0
                   replace p487 := eq_true p487
                   replace q487 := eq_true q487
                   have p28 : 0 ≤ ((rd (rd_LI l0 x4_1) x5_3) : Int) := dd_
                   have q28 : ((rd (rd_LI l0 x4_1) x5_3) : Int) < ((x3_3.length : Int) : Int) := dd_
                   obtain ⟨go28, co28, eo28, gb28, gl28, cl28, HG28⟩ := Kd.R_form HO_3.out (by omega)
                   (first | cases eo28 | (injection eo28 with ea_ en_ ec_; (first | subst ea_ | (injection ea_ with ea_; subst ea_)); subst ec_; clear en_))
                   have GB28 := Aside0.mk gb28
                   have GG28 := Aside0.mk HG28
                   clear gb28 gl28 HG28
                   (first | simp only [add_plain] at hx485_0 | skip)
                   obtain ⟨hx28_0, hf28_0⟩ := Kd.R_celln false HO_3.out ((rd (rd_LI l0 x4_1) x5_3) : Int) p28 q28
                   replace p28 := eq_true p28
                   replace q28 := eq_true q28
                   have HP30 := Kd.R_putg HO_3.out ((rd (rd_LI l0 x4_1) x5_3) : Int) true
                   go_wp2_with (first | ((with_reducible refine gate_store (t := 4) (p := 59) rfl ?_); (try (rw [dself_ wr]; generalize hq_ : World.drewN wr _ = wr; have n0_ := Aside0.mk (Kd.R_at hq_ HO_3.out); have n1_ := Aside0.mk (below_at hq_ HB.out); clear hq_ HO_3 HB; have HO_3 := n0_; have HB := n1_; clear n0_ n1_; (try (have HP30 := Kd.R_putg HO_3.out ((rd (rd_LI l0 x4_1) x5_3) : Int) true)))); refine store_event (t := 4) (p := 59) (v := ?vo_w31) (w1 := (wr.setCell ⟨go28, ((rd (rd_LI l0 x4_1) x5_3) : Int).toNat, none⟩ (.bool true))) ?hg ?ho ?hn ?hr ?_; (case ho => rfl); (case hg => rfl); (case hn => rfl); (case hr => first | (go_simp; done) | (go_simp; rfl)); intro w31 hw; have hg : wr.grownBy w31 (some go28) := (by rw [hw]; exact HP30.2); have hp_ : Kd.R Kd.bool 4 w31 w.heap.size (fun _ => True) (.slice (some ⟨go28, 0, none⟩) x3_3.length co29) y488 := (by rw [hw, Ny488.out]; exact HP30.1); clear HP30; have n0_ := Aside0.mk (hp_); have n1_ := Aside0.mk ((by rw [hw]; exact below_set (HB.out) GB28.out : Below w.heap.size w w31)); clear HO_3; clear HB; have HO_3 := n0_; have HB := n1_; clear n0_ n1_; clear hg hw hp_))
                   repeat (go_quiet (first | ((with_reducible refine gate_store (t := 4) (p := 59) rfl ?_); (try (rw [dself_ wr]; generalize hq_ : World.drewN wr _ = wr; have n0_ := Aside0.mk (Kd.R_at hq_ HO_3.out); have n1_ := Aside0.mk (below_at hq_ HB.out); clear hq_ HO_3 HB; have HO_3 := n0_; have HB := n1_; clear n0_ n1_; (try (have HP30 := Kd.R_putg HO_3.out ((rd (rd_LI l0 x4_1) x5_3) : Int) true)))); refine store_event (t := 4) (p := 59) (v := ?vo_w31) (w1 := (wr.setCell ⟨go28, ((rd (rd_LI l0 x4_1) x5_3) : Int).toNat, none⟩ (.bool true))) ?hg ?ho ?hn ?hr ?_; (case ho => rfl); (case hg => rfl); (case hn => rfl); (case hr => first | (go_simp; done) | (go_simp; rfl)); intro w31 hw; have hg : wr.grownBy w31 (some go28) := (by rw [hw]; exact HP30.2); have hp_ : Kd.R Kd.bool 4 w31 w.heap.size (fun _ => True) (.slice (some ⟨go28, 0, none⟩) x3_3.length co29) y488 := (by rw [hw, Ny488.out]; exact HP30.1); clear HP30; have n0_ := Aside0.mk (hp_); have n1_ := Aside0.mk ((by rw [hw]; exact below_set (HB.out) GB28.out : Below w.heap.size w w31)); clear HO_3; clear HB; have HO_3 := n0_; have HB := n1_; clear n0_ n1_; clear hg hw hp_)); try go_wp2_with (first | ((with_reducible refine gate_store (t := 4) (p := 59) rfl ?_); (try (rw [dself_ wr]; generalize hq_ : World.drewN wr _ = wr; have n0_ := Aside0.mk (Kd.R_at hq_ HO_3.out); have n1_ := Aside0.mk (below_at hq_ HB.out); clear hq_ HO_3 HB; have HO_3 := n0_; have HB := n1_; clear n0_ n1_; (try (have HP30 := Kd.R_putg HO_3.out ((rd (rd_LI l0 x4_1) x5_3) : Int) true)))); refine store_event (t := 4) (p := 59) (v := ?vo_w31) (w1 := (wr.setCell ⟨go28, ((rd (rd_LI l0 x4_1) x5_3) : Int).toNat, none⟩ (.bool true))) ?hg ?ho ?hn ?hr ?_; (case ho => rfl); (case hg => rfl); (case hn => rfl); (case hr => first | (go_simp; done) | (go_simp; rfl)); intro w31 hw; have hg : wr.grownBy w31 (some go28) := (by rw [hw]; exact HP30.2); have hp_ : Kd.R Kd.bool 4 w31 w.heap.size (fun _ => True) (.slice (some ⟨go28, 0, none⟩) x3_3.length co29) y488 := (by rw [hw, Ny488.out]; exact HP30.1); clear HP30; have n0_ := Aside0.mk (hp_); have n1_ := Aside0.mk ((by rw [hw]; exact below_set (HB.out) GB28.out : Below w.heap.size w w31)); clear HO_3; clear HB; have HO_3 := n0_; have HB := n1_; clear n0_ n1_; clear hg hw hp_)))
                   go_roundg k3
                   case measure => have := HK1.out; have := HJ6.out; have := HK3.out; omega
                   case rel => exact ⟨(y488), (wrap64 (x5_3 + 1)), (by first | rfl | (simp; done) | (simp [*]; done)), H', ⟨by have := HK1.out; have := HJ6.out; have := HK3.out; omega⟩, ⟨rr_ HO_3⟩, ⟨by repeat (first | (with_reducible first | exact HB.out | apply below_alloc | apply pw_below_drewN | apply below_drew1) | exact HB.out)⟩⟩
                 ·rw [if_neg c24] at H
                  exact absurd H (by simp)
                ·rw [if_neg c23] at H
                 exact absurd H (by simp)
               ·rw [if_neg c22] at H
                exact absurd H (by simp)
              ·rw [if_neg c21] at H
               exact absurd H (by simp)
             ·rw [if_neg c20] at H
              exact absurd H (by simp)
            ·rw [if_neg c19] at H
             exact absurd H (by simp)
           ·rw [if_neg c18] at H
            have c18b0 : decide (x5_3 < 9) = false := decide_eq_false c18
            clear c18
            have H' := Aside0.mk H
            clear H
            go_wp2
            repeat (go_quiet (fail); try go_wp2)
            go_roundg k3
            case measure => have := HK1.out; have := HJ6.out; have := HK3.out; omega
            case rel => exact ⟨(x3_3), (wrap64 (x4_1 + 1)), (by first | rfl | (simp; done) | (simp [*]; done)), H', ⟨by have := HK1.out; have := HJ6.out; have := HK3.out; omega⟩, ⟨rr_ HO_3⟩, ⟨by repeat (first | (with_reducible first | exact HB.out | apply below_alloc | apply pw_below_drewN | apply below_drew1) | exact HB.out)⟩⟩
     ·rw [if_neg c6] at H
      have c6b0 : decide (x4_1 < 10) = false := decide_eq_false c6
      clear c6
      obtain rfl := Option.some.inj H
      go_wp2
      repeat (go_quiet (fail); try go_wp2)
      go_ret
      exact ⟨ee_, bb_ HB⟩
  ·rw [if_neg c3] at H
   exact absurd H (by simp)
 ·rw [if_neg c2] at H
  have c2b0 : ((l0.length : Int) == 10) = false := beq_eq_false_iff_ne.mpr c2
  have c2b1 : ((l0.length : Int) != 10) = true := bne_iff_ne.mpr c2
  obtain rfl := Option.some.inj H
  go_enter Try.func53, Try.ntmps53
  go_wp2
  repeat (go_quiet (fail); try go_wp2)
  go_ret
  exact ⟨ee_, bb_ HB⟩
end Go.Proofs.Ytbfafjejmljcpaa.P

namespace Go.Proofs.Ytbfafjejmljcpaa.P
open Go.RowKit Go.Proofs.YtbfafjejmljcpaaW.PrintWords Go.Proofs.YtbfafjejmljcpaaW.PrintLast
set_option linter.unusedVariables false
set_option linter.unusedSimpArgs false

def spec_l1Times.f (a0 : Int) (a1 : Int) : Option (Int) := some (wrap64 ((Int.tmod (wrap64 ((wrap64 ((Int.tmod a0 3) * (Int.tmod a1 3))) + (wrap64 ((wrap64 (2 * (wrap64 (Int.tdiv a0 3)))) * (wrap64 (Int.tdiv a1 3)))))) 3) + (wrap64 ((Int.tmod (wrap64 ((wrap64 ((Int.tmod a0 3) * (wrap64 (Int.tdiv a1 3)))) + (wrap64 ((wrap64 (Int.tdiv a0 3)) * (Int.tmod a1 3))))) 3) * 3))))
set_option maxHeartbeats 8000000 in
set_option maxRecDepth 100000 in
theorem spec_l1Times.calls (a0 : Int) (a1 : Int) (r : Int) (w : World) (h : spec_l1Times.f a0 a1 = some r) :
  Calls Try.prog 113 #[.int .i64 a0, .int .i64 a1] w fun e w' => e = .returned (.int .i64 r) ∧ Drawn0 w w' := by
 have H : (some (wrap64 ((Int.tmod (wrap64 ((wrap64 ((Int.tmod a0 3) * (Int.tmod a1 3))) + (wrap64 ((wrap64 (2 * (wrap64 (Int.tdiv a0 3)))) * (wrap64 (Int.tdiv a1 3)))))) 3) + (wrap64 ((Int.tmod (wrap64 ((wrap64 ((Int.tmod a0 3) * (wrap64 (Int.tdiv a1 3)))) + (wrap64 ((wrap64 (Int.tdiv a0 3)) * (Int.tmod a1 3))))) 3) * 3))))) = some r := h
 clear h
 obtain rfl := Option.some.inj H
 go_enter Try.func113, Try.ntmps113
 go_wp2
 go_ret
 exact ⟨by first | rfl | (simp; done) | (simp [*]; done), by repeat (first | exact Drawn0.refl _ | apply Drawn0.step)⟩
end Go.Proofs.Ytbfafjejmljcpaa.P

namespace Go.Proofs.Ytbfafjejmljcpaa.P
open Go.RowKit Go.Proofs.YtbfafjejmljcpaaW.PrintWords Go.Proofs.YtbfafjejmljcpaaW.PrintLast
set_option linter.unusedVariables false
set_option linter.unusedSimpArgs false

mutual
def spec_l6lOther.l0 : Nat → Int → List Bool → Int → Option (List Int)
 | 0, _, _, _ => none
 | k + 1, x0, x3, x4 => if x4 < 3 then (spec_l6lOther.l1 k x0 x3 x4 0) else (spec_l6lOther.l2 k x3 (([] : List Int)) 0)
def spec_l6lOther.l1 : Nat → Int → List Bool → Int → Int → Option (List Int)
 | 0, _, _, _, _ => none
 | k + 1, x0, x3, x4, x5 => if x5 < 3 then ((spec_l1Times.f x0 x4).bind fun t510 => ((spec_l1Times.f x0 x5).bind fun t511 => (if 0 ≤ (wrap64 ((wrap64 (9 * t510)) + t511)) then (if (wrap64 ((wrap64 (9 * t510)) + t511)) < (x3.length : Int) then (spec_l6lOther.l1 k x0 (x3.set ((wrap64 ((wrap64 (9 * t510)) + t511)) : Int).toNat true) x4 (wrap64 (x5 + 1))) else (none)) else (none)))) else (spec_l6lOther.l0 k x0 x3 (wrap64 (x4 + 1)))
def spec_l6lOther.l2 : Nat → List Bool → List Int → Int → Option (List Int)
 | 0, _, _, _ => none
 | k + 1, x3, x6, x7 => if x7 < 81 then (if 0 ≤ x7 then (if x7 < (x3.length : Int) then (if rdOf false x3 x7 = true then (if x6.length < 17592186044416 then (spec_l6lOther.l2 k x3 (x6 ++ [x7]) (wrap64 (x7 + 1))) else (none)) else (spec_l6lOther.l2 k x3 x6 (wrap64 (x7 + 1)))) else (none)) else (none)) else (some x6)
end
def spec_l6lOther.f (k : Nat) (a0 : Int) : Option (List Int) := if 81 ≤ 281474976710656 then (spec_l6lOther.l0 k a0 (List.replicate 81 false) 0) else (none)
theorem spec_l6lOther.mono_l : ∀ k, (∀ y0 y1 y2, LeO (spec_l6lOther.l0 k y0 y1 y2) (spec_l6lOther.l0 (k + 1) y0 y1 y2)) ∧ (∀ y0 y1 y2 y3, LeO (spec_l6lOther.l1 k y0 y1 y2 y3) (spec_l6lOther.l1 (k + 1) y0 y1 y2 y3)) ∧ (∀ y0 y1 y2, LeO (spec_l6lOther.l2 k y0 y1 y2) (spec_l6lOther.l2 (k + 1) y0 y1 y2))
 | 0 => ⟨fun _ _ _ r h => by simp [spec_l6lOther.l0] at h, fun _ _ _ _ r h => by simp [spec_l6lOther.l1] at h, fun _ _ _ r h => by simp [spec_l6lOther.l2] at h⟩
 | k + 1 => by
  obtain ⟨ih0, ih1, ih2⟩ := spec_l6lOther.mono_l k
  refine ⟨?_, ?_, ?_⟩
  ·intro y0 y1 y2
   unfold spec_l6lOther.l0
   repeat' first
   | (with_reducible exact ih0 _ _ _)
   | (with_reducible exact ih1 _ _ _ _)
   | (with_reducible exact ih2 _ _ _)
   | (with_reducible exact LeO.refl _)
   | (with_reducible exact LeO.none _)
   | (with_reducible refine LeO.ite ?_ ?_)
   | (with_reducible refine LeO.bind ?_ (fun _ => ?_))
   | exact ih0 _ _ _
   | exact ih1 _ _ _ _
   | exact ih2 _ _ _
   | exact LeO.none _
   | refine LeO.ite ?_ ?_
   | refine LeO.bind ?_ (fun _ => ?_)
  ·intro y0 y1 y2 y3
   unfold spec_l6lOther.l1
   repeat' first
   | (with_reducible exact ih0 _ _ _)
   | (with_reducible exact ih1 _ _ _ _)
   | (with_reducible exact ih2 _ _ _)
   | (with_reducible exact LeO.refl _)
   | (with_reducible exact LeO.none _)
   | (with_reducible refine LeO.ite ?_ ?_)
   | (with_reducible refine LeO.bind ?_ (fun _ => ?_))
   | exact ih0 _ _ _
   | exact ih1 _ _ _ _
   | exact ih2 _ _ _
   | exact LeO.none _
   | refine LeO.ite ?_ ?_
   | refine LeO.bind ?_ (fun _ => ?_)
  ·intro y0 y1 y2
   unfold spec_l6lOther.l2
   repeat' first
   | (with_reducible exact ih0 _ _ _)
   | (with_reducible exact ih1 _ _ _ _)
   | (with_reducible exact ih2 _ _ _)
   | (with_reducible exact LeO.refl _)
   | (with_reducible exact LeO.none _)
   | (with_reducible refine LeO.ite ?_ ?_)
   | (with_reducible refine LeO.bind ?_ (fun _ => ?_))
   | exact ih0 _ _ _
   | exact ih1 _ _ _ _
   | exact ih2 _ _ _
   | exact LeO.none _
   | refine LeO.ite ?_ ?_
   | refine LeO.bind ?_ (fun _ => ?_)
theorem spec_l6lOther.mono : ∀ a0 k, LeO (spec_l6lOther.f k a0) (spec_l6lOther.f (k + 1) a0) := by
 intro a0 k
 obtain ⟨ih0, ih1, ih2⟩ := spec_l6lOther.mono_l k
 unfold spec_l6lOther.f
 repeat' first
   | (with_reducible exact ih0 _ _ _)
   | (with_reducible exact ih1 _ _ _ _)
   | (with_reducible exact ih2 _ _ _)
   | (with_reducible exact LeO.refl _)
   | (with_reducible exact LeO.none _)
   | (with_reducible refine LeO.ite ?_ ?_)
   | (with_reducible refine LeO.bind ?_ (fun _ => ?_))
   | exact ih0 _ _ _
   | exact ih1 _ _ _ _
   | exact ih2 _ _ _
   | exact LeO.none _
   | refine LeO.ite ?_ ?_
   | refine LeO.bind ?_ (fun _ => ?_)
set_option maxHeartbeats 8000000 in
set_option maxRecDepth 100000 in
theorem spec_l6lOther.calls (k : Nat) (a0 : Int) (r : List Int) (w : World) (h : spec_l6lOther.f k a0 = some r) :
  Calls Try.prog 75 #[.int .i64 a0] w fun e w' => ∃ v0_ : Value, e = .returned (v0_) ∧ Kd.R (Kd.int .i64) 3 w' w.heap.size (fun _ => True) v0_ r ∧ Below w.heap.size w w' := by
 have HB := Aside0.mk (Below.refl w.heap.size w)
 have H : (if 81 ≤ 281474976710656 then (spec_l6lOther.l0 k a0 (List.replicate 81 false) 0) else (none)) = some r := h
 clear h
 by_cases c2 : 81 ≤ 281474976710656
 ·rw [if_pos c2] at H
  have c2b0 := eq_true c2
  have c2b1 : decide (81 ≤ 281474976710656) = true := decide_eq_true c2
  clear c2
  obtain ⟨y507, hy507⟩ : ∃ y_ : List Bool, y_ = (List.replicate 81 false) := ⟨_, rfl⟩
  replace H : (spec_l6lOther.l0 k a0 y507 0) = some r := by first | (rw [hy507]; with_reducible exact H) | (have H2_ := (Option.bind_some _ _).symm.trans H; rw [hy507]; with_reducible exact H2_) | (have H2_ := (Option.bind_some _ _).symm.trans H; with_reducible exact H2_) | with_reducible exact H | (rw [hy507]; exact H) | exact H
  have Ny507 := Aside0.mk hy507
  clear hy507
  have H' := Aside0.mk H
  clear H
  go_enter Try.func75, Try.ntmps75
  go_wp2_with (first | ((with_reducible refine gate_dst (N := 8) rfl ?_); refine Kd.R_make Kd.bool _ 4 rfl (N := 8) rfl 52 _ _ rfl 81 rfl rfl Try.underlying52 (.bool false) 1 info4 rfl (by decide) (by omega) false (ok := fun _ => True) (okp := fun _ => True) rfl (fun _ hk => hk) trivial (by omega) (by omega) (Below.refl _ _) (Nat.le_refl _) ?_; intro v508 w3 ho4 hb hg_ hnew_; clear hg_ hnew_; (first | rw [← Ny507.out] at ho4 | (simp only [Int.reduceToNat] at ho4; rw [← Ny507.out] at ho4)); have n0_ := Aside0.mk (Kd.R_lower ho4 (below_size (bb_ HB))); have n1_ := Aside0.mk (below_step (bb_ HB) hb); clear HB; have HO509 := n0_; have HB := n1_; clear n0_ n1_; clear hb ho4))
  go_loopg [4] k (fun kq v4 w' => ∃ (x3_1 : List Bool) (x4_1 : Int), v4 = .int .i64 x4_1 ∧ Aside0 (spec_l6lOther.l0 kq a0 x3_1 x4_1 = some r) ∧ Aside0 (kq ≤ k) ∧ Aside0 (Kd.R Kd.bool 4 w' w.heap.size (fun _ => True) v508 x3_1) ∧ Aside0 (Below w.heap.size w w'))
  case atStart => exact ⟨(y507), (0), (by first | rfl | (simp; done) | (simp [*]; done)), H', ⟨Nat.le_refl _⟩, ⟨rr_ HO509⟩, ⟨by repeat (first | (with_reducible first | exact HB.out | apply below_alloc | apply pw_below_drewN | apply below_drew1) | exact HB.out)⟩⟩
  case round =>
   clear H'
   try clear c2
   try clear c2b0
   try clear c2b1
   try clear p2
   obtain ⟨x3_1, x4_1, rfl, HA, HK1, HO_3, HB⟩ := hrel
   cases gk with
   | zero => exact absurd HA.out (by simp [spec_l6lOther.l0])
   | succ k1 =>
    have H := HA.out
    clear HA
    simp only [spec_l6lOther.l0] at H
    by_cases c5 : x4_1 < 3
    ·rw [if_pos c5] at H
     have c5b0 : decide (x4_1 < 3) = true := decide_eq_true c5
     clear c5
     have H' := Aside0.mk H
     clear H
     go_wp2
     go_loopg [5] k1 (fun kq v5 w' => ∃ (x3_2 : List Bool) (x5_2 : Int), v5 = .int .i64 x5_2 ∧ Aside0 (spec_l6lOther.l1 kq a0 x3_2 x4_1 x5_2 = some r) ∧ Aside0 (kq ≤ k1) ∧ Aside0 (Kd.R Kd.bool 4 w' w.heap.size (fun _ => True) v508 x3_2) ∧ Aside0 (Below w.heap.size w w'))
     case atStart => exact ⟨(x3_1), (0), (by first | rfl | (simp; done) | (simp [*]; done)), H', ⟨Nat.le_refl _⟩, ⟨rr_ HO_3⟩, ⟨by repeat (first | (with_reducible first | exact HB.out | apply below_alloc | apply pw_below_drewN | apply below_drew1) | exact HB.out)⟩⟩
     case round =>
      clear H'
      try clear c2
      try clear c2b0
      try clear c2b1
      try clear p2
      try clear c5
      try clear c5b0
      try clear p2
      obtain ⟨x3_2, x5_2, rfl, HA, HK2, HO_3, HB⟩ := hrel
      cases gk with
      | zero => exact absurd HA.out (by simp [spec_l6lOther.l1])
      | succ k2 =>
       have H := HA.out
       clear HA
       simp only [spec_l6lOther.l1] at H
       by_cases c6 : x5_2 < 3
       ·rw [if_pos c6] at H
        have c6b0 : decide (x5_2 < 3) = true := decide_eq_true c6
        clear c6
        replace H := Option.bind_eq_some_iff.mp H
        obtain ⟨t510, A70, H⟩ := H
        replace H : ((spec_l1Times.f a0 x5_2).bind fun t511 => (if 0 ≤ (wrap64 ((wrap64 (9 * t510)) + t511)) then (if (wrap64 ((wrap64 (9 * t510)) + t511)) < (x3_2.length : Int) then (spec_l6lOther.l1 k2 a0 (x3_2.set ((wrap64 ((wrap64 (9 * t510)) + t511)) : Int).toNat true) x4_1 (wrap64 (x5_2 + 1))) else (none)) else (none))) = some r := H
        have A7 := Aside0.mk A70
        clear A70
        replace H := Option.bind_eq_some_iff.mp H
        obtain ⟨t511, A80, H⟩ := H
        replace H : (if 0 ≤ (wrap64 ((wrap64 (9 * t510)) + t511)) then (if (wrap64 ((wrap64 (9 * t510)) + t511)) < (x3_2.length : Int) then (spec_l6lOther.l1 k2 a0 (x3_2.set ((wrap64 ((wrap64 (9 * t510)) + t511)) : Int).toNat true) x4_1 (wrap64 (x5_2 + 1))) else (none)) else (none)) = some r := H
        have A8 := Aside0.mk A80
        clear A80
        obtain ⟨ji9, hji9⟩ : ∃ j_ : Int, (wrap64 ((wrap64 (9 * t510)) + t511)) = j_ := ⟨_, rfl⟩
        replace H : (if 0 ≤ (ji9) then (if (ji9) < (x3_2.length : Int) then (spec_l6lOther.l1 k2 a0 (x3_2.set ((ji9) : Int).toNat true) x4_1 (wrap64 (x5_2 + 1))) else (none)) else (none)) = some r := by first | (rw [hji9] at H; exact H) | (simp only [hji9] at H ⊢; exact H)
        (try rw [hji9] at A7)
        (try rw [hji9] at A8)
        have hji9w : (IntKind.i64.wrap ((wrap64 (9 * t510)) + t511)) = ji9 := (i64_w _).trans hji9
        by_cases c10 : 0 ≤ (ji9)
        ·rw [if_pos c10] at H
         have c10b0 : decide (0 ≤ (ji9)) = true := decide_eq_true c10
         clear c10
         by_cases c11 : (ji9) < (x3_2.length : Int)
         ·rw [if_pos c11] at H
          have c11b0 : decide ((ji9) < (x3_2.length : Int)) = true := decide_eq_true c11
          clear c11
          obtain ⟨y512, hy512⟩ : ∃ y_ : List Bool, y_ = (x3_2.set ((ji9) : Int).toNat true) := ⟨_, rfl⟩
          replace H : (spec_l6lOther.l1 k2 a0 y512 x4_1 (wrap64 (x5_2 + 1))) = some r := by first | (rw [hy512]; with_reducible exact H) | (have H2_ := (Option.bind_some _ _).symm.trans H; rw [hy512]; with_reducible exact H2_) | (have H2_ := (Option.bind_some _ _).symm.trans H; with_reducible exact H2_) | with_reducible exact H | (rw [hy512]; exact H) | exact H
          have Ny512 := Aside0.mk hy512
          clear hy512
          have H' := Aside0.mk H
          clear H
          go_wp2_with (first | (refine goesL_ (some 20) rfl rfl Try.func113 (by kernel_rfl) rfl #[.int .i64 a0, .int .i64 x4_1] rfl ll_ ?_; (with_reducible refine (spec_l1Times.calls a0 x4_1 t510 _ A7.out).mono ?_); rintro e w' ⟨rfl, ⟨nd, rfl⟩⟩; refine ⟨_, rfl, ?_⟩; (try (rw [dself_ wr]; generalize hq_ : World.drewN wr _ = wr; have n0_ : Aside0 (Kd.R Kd.bool 4 wr w.heap.size (fun _ => True) v508 x3_2) := ⟨by rw [← hq_]; exact (rr_ HO_3)⟩; have n1_ : Aside0 (Below w.heap.size w wr) := ⟨by rw [← hq_]; exact (bb_ HB)⟩; clear HO_3 HB hq_; have HO_3 := n0_; have HB := n1_; clear n0_ n1_))) | (refine goesL_ (some 24) rfl rfl Try.func113 (by kernel_rfl) rfl #[.int .i64 a0, .int .i64 x5_2] rfl ll_ ?_; (with_reducible refine (spec_l1Times.calls a0 x5_2 t511 _ A8.out).mono ?_); rintro e w' ⟨rfl, ⟨nd, rfl⟩⟩; refine ⟨_, rfl, ?_⟩; (try (rw [dself_ wr]; generalize hq_ : World.drewN wr _ = wr; have n0_ : Aside0 (Kd.R Kd.bool 4 wr w.heap.size (fun _ => True) v508 x3_2) := ⟨by rw [← hq_]; exact (rr_ HO_3)⟩; have n1_ : Aside0 (Below w.heap.size w wr) := ⟨by rw [← hq_]; exact (bb_ HB)⟩; clear HO_3 HB hq_; have HO_3 := n0_; have HB := n1_; clear n0_ n1_)); have p12 : 0 ≤ ((ji9) : Int) := dd_; have q12 : ((ji9) : Int) < ((x3_2.length : Int) : Int) := dd_; obtain ⟨go12, co12, eo12, gb12, gl12, cl12, HG12⟩ := Kd.R_form HO_3.out (by omega); (first | cases eo12 | (injection eo12 with ea_ en_ ec_; (first | subst ea_ | (injection ea_ with ea_; subst ea_)); subst ec_; clear en_)); have GB12 := Aside0.mk gb12; have GG12 := Aside0.mk HG12; clear gb12 gl12 HG12; obtain ⟨hx12_0, hf12_0⟩ := Kd.R_celln false HO_3.out ((ji9) : Int) p12 q12; replace p12 := eq_true p12; replace q12 := eq_true q12; obtain ⟨hy13_, hz13_⟩ := Kd.R_celln false HO_3.out ((ji9) : Int) (dd_) (dd_); have HP13 := Kd.R_putg HO_3.out ((ji9) : Int) true) | ((with_reducible refine gate_store (t := 4) (p := 26) rfl ?_); refine store_event (t := 4) (p := 26) (v := ?vo_w14) (w1 := (wr.setCell ⟨go12, ((ji9) : Int).toNat, none⟩ (.bool true))) ?hg ?ho ?hn ?hr ?_; (case ho => rfl); (case hg => rfl); (case hn => rfl); (case hr => first | (go_simp; done) | (go_simp; rfl)); intro w14 hw; have hg : wr.grownBy w14 (some go12) := (by rw [hw]; exact HP13.2); have hp_ : Kd.R Kd.bool 4 w14 w.heap.size (fun _ => True) (.slice (some ⟨go12, 0, none⟩) x3_2.length co12) y512 := (by rw [hw, Ny512.out]; exact HP13.1); clear HP13; have n0_ := Aside0.mk (hp_); have n1_ := Aside0.mk ((by rw [hw]; exact below_set (HB.out) GB12.out : Below w.heap.size w w14)); clear HO_3; clear HB; have HO_3 := n0_; have HB := n1_; clear n0_ n1_; clear hg hw hp_))
          go_roundg k2
          case measure => have := HK1.out; have := HK2.out; omega
          case rel => exact ⟨(y512), (wrap64 (x5_2 + 1)), (by first | rfl | (simp; done) | (simp [*]; done)), H', ⟨by have := HK1.out; have := HK2.out; omega⟩, ⟨rr_ HO_3⟩, ⟨by repeat (first | (with_reducible first | exact HB.out | apply below_alloc | apply pw_below_drewN | apply below_drew1) | exact HB.out)⟩⟩
         ·rw [if_neg c11] at H
          exact absurd H (by simp)
        ·rw [if_neg c10] at H
         exact absurd H (by simp)
       ·rw [if_neg c6] at H
        have c6b0 : decide (x5_2 < 3) = false := decide_eq_false c6
        clear c6
        have H' := Aside0.mk H
        clear H
        go_wp2
        go_roundg k2
        case measure => have := HK1.out; have := HK2.out; omega
        case rel => exact ⟨(x3_2), (wrap64 (x4_1 + 1)), (by first | rfl | (simp; done) | (simp [*]; done)), H', ⟨by have := HK1.out; have := HK2.out; omega⟩, ⟨rr_ HO_3⟩, ⟨by repeat (first | (with_reducible first | exact HB.out | apply below_alloc | apply pw_below_drewN | apply below_drew1) | exact HB.out)⟩⟩
    ·rw [if_neg c5] at H
     have c5b0 : decide (x4_1 < 3) = false := decide_eq_false c5
     clear c5
     obtain ⟨y513, hy513⟩ : ∃ y_ : List Int, y_ = (([] : List Int)) := ⟨_, rfl⟩
     replace H : (spec_l6lOther.l2 k1 x3_1 y513 0) = some r := by first | (rw [hy513]; with_reducible exact H) | (have H2_ := (Option.bind_some _ _).symm.trans H; rw [hy513]; with_reducible exact H2_) | (have H2_ := (Option.bind_some _ _).symm.trans H; with_reducible exact H2_) | with_reducible exact H | (rw [hy513]; exact H) | exact H
     have Ny513 := Aside0.mk hy513
     clear hy513
     have H' := Aside0.mk H
     clear H
     go_wp2_with (first | ((with_reducible refine gate_dst (N := 27) rfl ?_); refine Kd.R_lit (Kd.int .i64) _ 3 ?hg (N := 27) ?hd (xs := ([] : List Int)) (inner := []) (ok := fun _ => True) (okp := fun _ => True) ?hr ?hp (fun _ hk => hk) trivial (Below.refl _ _) (Nat.le_refl _) (by simp) ?_; (case hd => rfl); (case hg => rfl); (case hr => first | (go_simp; done) | (go_simp; rfl)); (case hp => exact (Reps.none _ _)); intro v514 w15 ho16 hb hg_ hnew_; clear hg_ hnew_; (first | rw [← Ny513.out] at ho16 | (simp only [Int.reduceToNat] at ho16; rw [← Ny513.out] at ho16)); have n0_ := Aside0.mk (Kd.R_below (rr_ HO_3) hb); have n1_ := Aside0.mk (Kd.R_lower ho16 (below_size (bb_ HB))); have n2_ := Aside0.mk (below_step (bb_ HB) hb); clear HO_3; clear HB; have HO_3 := n0_; have HO515 := n1_; have HB := n2_; clear n0_ n1_ n2_; clear hb ho16))
     go_loopg [6, 7] k1 (fun kq v6 v7 w' => ∃ (x6_2 : List Int) (x7_2 : Int), v7 = .int .i64 x7_2 ∧ Aside0 (spec_l6lOther.l2 kq x3_1 x6_2 x7_2 = some r) ∧ Aside0 (kq ≤ k1) ∧ Aside0 (Kd.R Kd.bool 4 w' w.heap.size (fun _ => True) v508 x3_1) ∧ Aside0 (Kd.R (Kd.int .i64) 3 w' w.heap.size (fun _ => True) v6 x6_2) ∧ Aside0 (Below w.heap.size w w'))
     case atStart => exact ⟨(y513), (0), (by first | rfl | (simp; done) | (simp [*]; done)), H', ⟨Nat.le_refl _⟩, ⟨rr_ HO_3⟩, ⟨rr_ HO515⟩, ⟨by repeat (first | (with_reducible first | exact HB.out | apply below_alloc | apply pw_below_drewN | apply below_drew1) | exact HB.out)⟩⟩
     case round =>
      clear H'
      try clear c1
      try clear p1
      try clear q1
      try clear hx1
      try clear hf1
      try clear c2
      try clear c2b0
      try clear c2b1
      try clear p2
      try clear c5
      try clear c5b0
      try clear c6
      try clear c6b0
      try clear p6
      try clear c7
      try clear c10
      try clear c10b0
      try clear c11
      try clear c11b0
      try clear p12
      try clear q12
      try clear hx12
      try clear hf12
      try clear hx12_0
      try clear p12
      try clear p2
      try clear q12
      obtain ⟨x6_2, x7_2, rfl, HA, HK2, HO_3, HO_6, HB⟩ := hrel
      cases gk with
      | zero => exact absurd HA.out (by simp [spec_l6lOther.l2])
      | succ k2 =>
       have H := HA.out
       clear HA
       simp only [spec_l6lOther.l2] at H
       by_cases c17 : x7_2 < 81
       ·rw [if_pos c17] at H
        have c17b0 : decide (x7_2 < 81) = true := decide_eq_true c17
        clear c17
        by_cases c18 : 0 ≤ x7_2
        ·rw [if_pos c18] at H
         have c18b0 : decide (0 ≤ x7_2) = true := decide_eq_true c18
         clear c18
         by_cases c19 : x7_2 < (x3_1.length : Int)
         ·rw [if_pos c19] at H
          have c19b0 : decide (x7_2 < (x3_1.length : Int)) = true := decide_eq_true c19
          clear c19
          obtain ⟨bq20, hbq20⟩ : ∃ b_ : Bool, b_ = (rdOf false x3_1 x7_2) := ⟨_, rfl⟩
          replace H : (if bq20 = true then (if x6_2.length < 17592186044416 then (spec_l6lOther.l2 k2 x3_1 (x6_2 ++ [x7_2]) (wrap64 (x7_2 + 1))) else (none)) else (spec_l6lOther.l2 k2 x3_1 x6_2 (wrap64 (x7_2 + 1)))) = some r := by rw [← hbq20] at H; exact H
          have Nbq20 := Aside0.mk hbq20
          clear hbq20
          by_cases c21 : bq20 = true
          ·subst c21
           have H1 : (if x6_2.length < 17592186044416 then (spec_l6lOther.l2 k2 x3_1 (x6_2 ++ [x7_2]) (wrap64 (x7_2 + 1))) else (none)) = some r := by rw [if_pos rfl] at H; exact H
           clear H
           have H := H1
           clear H1
           by_cases c22 : x6_2.length < 17592186044416
           ·rw [if_pos c22] at H
            have LMc22 := Aside0.mk c22
            clear c22
            obtain ⟨y517, hy517⟩ : ∃ y_ : List Int, y_ = (x6_2 ++ [x7_2]) := ⟨_, rfl⟩
            replace H : (spec_l6lOther.l2 k2 x3_1 y517 (wrap64 (x7_2 + 1))) = some r := by first | (rw [hy517]; with_reducible exact H) | (have H2_ := (Option.bind_some _ _).symm.trans H; rw [hy517]; with_reducible exact H2_) | (have H2_ := (Option.bind_some _ _).symm.trans H; with_reducible exact H2_) | with_reducible exact H | (rw [hy517]; exact H) | exact H
            have Ny517 := Aside0.mk hy517
            clear hy517
            have H' := Aside0.mk H
            clear H
            obtain ⟨Ao23, co23, eo23⟩ := Kd.R_slice HO_3.out
            subst eo23
            have p516 : 0 ≤ (x7_2 : Int) := dd_
            have q516 : x7_2 < (x3_1.length : Int) := dd_
            obtain ⟨ad516, e516, hx516_0⟩ := Kd.at_bool (Kd.R_reads' HO_3.out).2.2 x7_2 p516 q516
            (try rw [← Nbq20.out] at hx516_0)
            cases e516
            replace p516 := eq_true p516
            replace q516 := eq_true q516
            go_wp2_with (first | (at_builtin; refine Kd.R_append (Kd.int .i64) (w0 := w) w.heap.size rfl (.tmp 36) (.tmp 38) 23 3 (.int .i64 0) 8 rfl Try.underlying23 info3 rfl (by decide) (by omega) u6 x6_2 x7_2 [.int .i64 x7_2] (fun _ => True) (fun _ => False) rfl rfl ?aP (fun _ hk => hk.elim) ?aF ?aO ?aB ?aS ?aL ?_; (case aP => exact rfl); (case aB => exact (bb_ HB)); (case aF => exact (fun _ _ => trivial)); (case aO => exact (rr_ HO_6)); (case aS => exact (below_size (bb_ HB))); (case aL => have := LMc22.out; omega); intro v518 w24 ho hb hg hat; rw [← Ny517.out] at ho; have n0_ := Aside0.mk (Kd.R_over' (rr_ HO_3) (Kd.R_typed (rr_ HO_6)) (by decide) hg); have n1_ := Aside0.mk (hb); have n2_ := Aside0.mk (ho); clear HO_3; clear HB; clear HO_6; have HO_3 := n0_; have HB := n1_; have HO519 := n2_; clear n0_ n1_ n2_; clear ho hb hg hat))
            go_roundg k2
            case measure => have := HK1.out; have := HK2.out; omega
            case rel => exact ⟨(y517), (wrap64 (x7_2 + 1)), (by first | rfl | (simp; done) | (simp [*]; done)), H', ⟨by have := HK1.out; have := HK2.out; omega⟩, ⟨rr_ HO_3⟩, ⟨rr_ HO519⟩, ⟨by repeat (first | (with_reducible first | exact HB.out | apply below_alloc | apply pw_below_drewN | apply below_drew1) | exact HB.out)⟩⟩
           ·rw [if_neg c22] at H
            exact absurd H (by simp)
          ·replace c21 := Bool.eq_false_iff.mpr c21
           subst c21
           have H1 : (spec_l6lOther.l2 k2 x3_1 x6_2 (wrap64 (x7_2 + 1))) = some r := by rw [if_neg (show ¬ (false = true) by decide)] at H; exact H
           clear H
           have H := H1
           clear H1
           have H' := Aside0.mk H
           clear H
           obtain ⟨Ao25, co25, eo25⟩ := Kd.R_slice HO_3.out
           subst eo25
           have p516 : 0 ≤ (x7_2 : Int) := dd_
           have q516 : x7_2 < (x3_1.length : Int) := dd_
           obtain ⟨ad516, e516, hx516_0⟩ := Kd.at_bool (Kd.R_reads' HO_3.out).2.2 x7_2 p516 q516
           (try rw [← Nbq20.out] at hx516_0)
           cases e516
           replace p516 := eq_true p516
           replace q516 := eq_true q516
           go_wp2
           go_roundg k2
           case measure => have := HK1.out; have := HK2.out; omega
           case rel => exact ⟨(x6_2), (wrap64 (x7_2 + 1)), (by first | rfl | (simp; done) | (simp [*]; done)), H', ⟨by have := HK1.out; have := HK2.out; omega⟩, ⟨rr_ HO_3⟩, ⟨rr_ HO_6⟩, ⟨by repeat (first | (with_reducible first | exact HB.out | apply below_alloc | apply pw_below_drewN | apply below_drew1) | exact HB.out)⟩⟩
         ·rw [if_neg c19] at H
          exact absurd H (by simp)
        ·rw [if_neg c18] at H
         exact absurd H (by simp)
       ·rw [if_neg c17] at H
        have c17b0 : decide (x7_2 < 81) = false := decide_eq_false c17
        clear c17
        obtain rfl := Option.some.inj H
        go_wp2
        go_ret
        exact ⟨_, ee_, by (with_reducible repeat (first | apply Kd.R_alloc | apply Kd.R_drewN | apply Kd.R_drew)); exact HO_6.out, bb_ HB⟩
 ·rw [if_neg c2] at H
  exact absurd H (by simp)
end Go.Proofs.Ytbfafjejmljcpaa.P

namespace Go.Proofs.YtbfafjejmljcpaaW.PrintWords
open Go.RowKit
namespace Kd
section
variable {α : Type} {d : Kd α} {e base g o n cap : Nat} {ok okp : Nat → Prop} {w W : World} {v : Value} {xs : List α}
end
section
variable {α : Type} {enc : α → Value} {h1 : ∀ x, (enc x).oneCell' = true} {e base g o n cap : Nat} {ok : Nat → Prop} {W : World} {xs : List α}
end
end Kd
end Go.Proofs.YtbfafjejmljcpaaW.PrintWords
