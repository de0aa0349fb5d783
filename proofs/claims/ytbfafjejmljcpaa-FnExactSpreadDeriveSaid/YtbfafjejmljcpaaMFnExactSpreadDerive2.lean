/- The law FnExactSpreadDerive of the given program: for every input the call returns true, and each argument reads afterwards as it read before. No conditions. (Part 3 of 5; the last part holds the theorem.) -/
import Derived.Test.YtbfafjejmljcpaaMFnExactSpreadDerive0
import Derived.Test.YtbfafjejmljcpaaMFnExactSpreadDerive1
namespace Go.Proofs.Ytbfafjejmljcpaa.P
open Go.RowKit Go.Proofs.YtbfafjejmljcpaaW.PrintWords Go.Proofs.YtbfafjejmljcpaaW.PrintLast
set_option linter.unusedVariables false
set_option linter.unusedSimpArgs false

def spec_l2Units.l0 : Nat → List Int → Int → Option (Bool)
 | 0, _, _ => none
 | k + 1, x0, x3 => if x3 < 9 then (if 0 ≤ x3 then (if x3 < (x0.length : Int) then (if (rd x0 x3) = 0 then (if 0 ≤ (wrap64 (9 * x3)) then (if (wrap64 (9 * x3)) < (x0.length : Int) then (if (rd x0 (wrap64 (9 * x3))) = 0 then (if 0 ≤ (wrap64 (9 + x3)) then (if (wrap64 (9 + x3)) < (x0.length : Int) then (if (rd x0 (wrap64 (9 + x3))) = x3 then (if 0 ≤ (wrap64 ((wrap64 (9 * x3)) + 1)) then (if (wrap64 ((wrap64 (9 * x3)) + 1)) < (x0.length : Int) then (if (rd x0 (wrap64 ((wrap64 (9 * x3)) + 1))) = x3 then (spec_l2Units.l0 k x0 (wrap64 (x3 + 1))) else (some false)) else (none)) else (none)) else (some false)) else (none)) else (none)) else (some false)) else (none)) else (none)) else (some false)) else (none)) else (none)) else (some true)
def spec_l2Units.f (k : Nat) (l0 : List Int) : Option (Bool) := spec_l2Units.l0 k l0 0
set_option maxHeartbeats 8000000 in
set_option maxRecDepth 100000 in
theorem spec_l2Units.calls (k : Nat) (A0 : Option Addr) (c0 : Nat) (l0 : List Int) (r : Bool) (w : World) (hr0 : Kd.C (Kd.int .i64) w A0 l0.length l0) (hc0 : l0.length ≤ c0) (h : spec_l2Units.f k l0 = some r) :
  Calls Try.prog 101 #[.slice A0 l0.length c0] w fun e w' => e = .returned (.bool r) ∧ Drawn0 w w' := by
 have HR0 := Aside0.mk hr0
 have HC0 := Aside0.mk hc0
 clear hr0 hc0
 have H : (spec_l2Units.l0 k l0 0) = some r := h
 clear h
 have H' := Aside0.mk H
 clear H
 go_enter Try.func101, Try.ntmps101
 go_wp2
 go_loopg [3] k (fun kq v3 w' => ∃ (x3_1 : Int), v3 = .int .i64 x3_1 ∧ Aside0 (spec_l2Units.l0 kq l0 x3_1 = some r) ∧ Aside0 (kq ≤ k) ∧ Drawn0 w w')
 case atStart => exact ⟨(0), (by first | rfl | (simp; done) | (simp [*]; done)), H', ⟨Nat.le_refl _⟩, by repeat (first | exact Drawn0.refl _ | apply Drawn0.step)⟩
 case round =>
  clear H'
  try clear c1
  obtain ⟨x3_1, rfl, HA, HK1, ⟨m1, rfl⟩⟩ := hrel
  cases gk with
  | zero => exact absurd HA.out (by simp [spec_l2Units.l0])
  | succ k1 =>
   have H := HA.out
   clear HA
   simp only [spec_l2Units.l0] at H
   by_cases c2 : x3_1 < 9
   ·rw [if_pos c2] at H
    have c2b0 : decide (x3_1 < 9) = true := decide_eq_true c2
    clear c2
    by_cases c3 : 0 ≤ x3_1
    ·rw [if_pos c3] at H
     have c3b0 : decide (0 ≤ x3_1) = true := decide_eq_true c3
     clear c3
     by_cases c4 : x3_1 < (l0.length : Int)
     ·rw [if_pos c4] at H
      have c4b0 : decide (x3_1 < (l0.length : Int)) = true := decide_eq_true c4
      clear c4
      by_cases c5 : (rd l0 x3_1) = 0
      ·rw [if_pos c5] at H
       have c5b0 : ((rd l0 x3_1) == 0) = true := beq_iff_eq.mpr c5
       have c5b1 : ((rd l0 x3_1) != 0) = false := bne_eq_false_iff_eq.mpr c5
       clear c5
       obtain ⟨ji6, hji6⟩ : ∃ j_ : Int, (wrap64 (9 * x3_1)) = j_ := ⟨_, rfl⟩
       replace H : (if 0 ≤ (ji6) then (if (ji6) < (l0.length : Int) then (if (rd l0 (ji6)) = 0 then (if 0 ≤ (wrap64 (9 + x3_1)) then (if (wrap64 (9 + x3_1)) < (l0.length : Int) then (if (rd l0 (wrap64 (9 + x3_1))) = x3_1 then (if 0 ≤ (wrap64 ((ji6) + 1)) then (if (wrap64 ((ji6) + 1)) < (l0.length : Int) then (if (rd l0 (wrap64 ((ji6) + 1))) = x3_1 then (spec_l2Units.l0 k1 l0 (wrap64 (x3_1 + 1))) else (some false)) else (none)) else (none)) else (some false)) else (none)) else (none)) else (some false)) else (none)) else (none)) = some r := by first | (rw [hji6] at H; exact H) | (simp only [hji6] at H ⊢; exact H)
       have hji6w : (IntKind.i64.wrap (9 * x3_1)) = ji6 := (i64_w _).trans hji6
       by_cases c7 : 0 ≤ (ji6)
       ·rw [if_pos c7] at H
        have c7b0 : decide (0 ≤ (ji6)) = true := decide_eq_true c7
        clear c7
        by_cases c8 : (ji6) < (l0.length : Int)
        ·rw [if_pos c8] at H
         have c8b0 : decide ((ji6) < (l0.length : Int)) = true := decide_eq_true c8
         clear c8
         by_cases c9 : (rd l0 (ji6)) = 0
         ·rw [if_pos c9] at H
          have c9b0 : ((rd l0 (ji6)) == 0) = true := beq_iff_eq.mpr c9
          have c9b1 : ((rd l0 (ji6)) != 0) = false := bne_eq_false_iff_eq.mpr c9
          clear c9
          obtain ⟨ji10, hji10⟩ : ∃ j_ : Int, (wrap64 (9 + x3_1)) = j_ := ⟨_, rfl⟩
          replace H : (if 0 ≤ (ji10) then (if (ji10) < (l0.length : Int) then (if (rd l0 (ji10)) = x3_1 then (if 0 ≤ (wrap64 ((ji6) + 1)) then (if (wrap64 ((ji6) + 1)) < (l0.length : Int) then (if (rd l0 (wrap64 ((ji6) + 1))) = x3_1 then (spec_l2Units.l0 k1 l0 (wrap64 (x3_1 + 1))) else (some false)) else (none)) else (none)) else (some false)) else (none)) else (none)) = some r := by first | (rw [hji10] at H; exact H) | (simp only [hji10] at H ⊢; exact H)
          have hji10w : (IntKind.i64.wrap (9 + x3_1)) = ji10 := (i64_w _).trans hji10
          by_cases c11 : 0 ≤ (ji10)
          ·rw [if_pos c11] at H
           have c11b0 : decide (0 ≤ (ji10)) = true := decide_eq_true c11
           clear c11
           by_cases c12 : (ji10) < (l0.length : Int)
           ·rw [if_pos c12] at H
            have c12b0 : decide ((ji10) < (l0.length : Int)) = true := decide_eq_true c12
            clear c12
            by_cases c13 : (rd l0 (ji10)) = x3_1
            ·rw [if_pos c13] at H
             have c13b0 : ((rd l0 (ji10)) == x3_1) = true := beq_iff_eq.mpr c13
             have c13b1 : ((rd l0 (ji10)) != x3_1) = false := bne_eq_false_iff_eq.mpr c13
             clear c13
             obtain ⟨ji14, hji14⟩ : ∃ j_ : Int, (wrap64 ((ji6) + 1)) = j_ := ⟨_, rfl⟩
             replace H : (if 0 ≤ (ji14) then (if (ji14) < (l0.length : Int) then (if (rd l0 (ji14)) = x3_1 then (spec_l2Units.l0 k1 l0 (wrap64 (x3_1 + 1))) else (some false)) else (none)) else (none)) = some r := by first | (rw [hji14] at H; exact H) | (simp only [hji14] at H ⊢; exact H)
             have hji14w : (IntKind.i64.wrap ((ji6) + 1)) = ji14 := (i64_w _).trans hji14
             by_cases c15 : 0 ≤ (ji14)
             ·rw [if_pos c15] at H
              have c15b0 : decide (0 ≤ (ji14)) = true := decide_eq_true c15
              clear c15
              by_cases c16 : (ji14) < (l0.length : Int)
              ·rw [if_pos c16] at H
               have c16b0 : decide ((ji14) < (l0.length : Int)) = true := decide_eq_true c16
               clear c16
               by_cases c17 : (rd l0 (ji14)) = x3_1
               ·rw [if_pos c17] at H
                have c17b0 : ((rd l0 (ji14)) == x3_1) = true := beq_iff_eq.mpr c17
                have c17b1 : ((rd l0 (ji14)) != x3_1) = false := bne_eq_false_iff_eq.mpr c17
                clear c17
                have H' := Aside0.mk H
                clear H
                have p146 : 0 ≤ (x3_1 : Int) := dd_
                have q146 : x3_1 < (l0.length : Int) := dd_
                obtain ⟨ad146, e146, hx146_0⟩ := Kd.at_int HR0.out x3_1 p146 q146
                cases e146
                replace p146 := eq_true p146
                replace q146 := eq_true q146
                have p147 : 0 ≤ ((ji6) : Int) := dd_
                have q147 : (ji6) < (l0.length : Int) := dd_
                obtain ⟨ad147, e147, hx147_0⟩ := Kd.at_int HR0.out (ji6) p147 q147
                obtain rfl : ad146 = ad147 := (by injection e147)
                replace p147 := eq_true p147
                replace q147 := eq_true q147
                have p148 : 0 ≤ ((ji10) : Int) := dd_
                have q148 : (ji10) < (l0.length : Int) := dd_
                obtain ⟨ad148, e148, hx148_0⟩ := Kd.at_int HR0.out (ji10) p148 q148
                obtain rfl : ad146 = ad148 := (by injection e148)
                replace p148 := eq_true p148
                replace q148 := eq_true q148
                have p149 : 0 ≤ ((ji14) : Int) := dd_
                have q149 : (ji14) < (l0.length : Int) := dd_
                obtain ⟨ad149, e149, hx149_0⟩ := Kd.at_int HR0.out (ji14) p149 q149
                obtain rfl : ad146 = ad149 := (by injection e149)
                replace p149 := eq_true p149
                replace q149 := eq_true q149
                go_wp2
                go_roundg k1
                case measure => have := HK1.out; omega
                case rel => exact ⟨(wrap64 (x3_1 + 1)), (by first | rfl | (simp; done) | (simp [*]; done)), H', ⟨by have := HK1.out; omega⟩, by repeat (first | exact Drawn0.refl _ | apply Drawn0.step)⟩
               ·rw [if_neg c17] at H
                have c17b0 : ((rd l0 (ji14)) == x3_1) = false := beq_eq_false_iff_ne.mpr c17
                have c17b1 : ((rd l0 (ji14)) != x3_1) = true := bne_iff_ne.mpr c17
                obtain rfl := Option.some.inj H
                have p146 : 0 ≤ (x3_1 : Int) := dd_
                have q146 : x3_1 < (l0.length : Int) := dd_
                obtain ⟨ad146, e146, hx146_0⟩ := Kd.at_int HR0.out x3_1 p146 q146
                cases e146
                replace p146 := eq_true p146
                replace q146 := eq_true q146
                have p147 : 0 ≤ ((ji6) : Int) := dd_
                have q147 : (ji6) < (l0.length : Int) := dd_
                obtain ⟨ad147, e147, hx147_0⟩ := Kd.at_int HR0.out (ji6) p147 q147
                obtain rfl : ad146 = ad147 := (by injection e147)
                replace p147 := eq_true p147
                replace q147 := eq_true q147
                have p148 : 0 ≤ ((ji10) : Int) := dd_
                have q148 : (ji10) < (l0.length : Int) := dd_
                obtain ⟨ad148, e148, hx148_0⟩ := Kd.at_int HR0.out (ji10) p148 q148
                obtain rfl : ad146 = ad148 := (by injection e148)
                replace p148 := eq_true p148
                replace q148 := eq_true q148
                have p149 : 0 ≤ ((ji14) : Int) := dd_
                have q149 : (ji14) < (l0.length : Int) := dd_
                obtain ⟨ad149, e149, hx149_0⟩ := Kd.at_int HR0.out (ji14) p149 q149
                obtain rfl : ad146 = ad149 := (by injection e149)
                replace p149 := eq_true p149
                replace q149 := eq_true q149
                go_wp2
                go_ret
                exact ⟨by first | rfl | (simp; done) | (simp only [← hji6, ← hji10, ← hji14] <;> (first | rfl | simp)) | (simp [*]; done), by repeat (first | exact Drawn0.refl _ | apply Drawn0.step)⟩
              ·rw [if_neg c16] at H
               exact absurd H (by simp)
             ·rw [if_neg c15] at H
              exact absurd H (by simp)
            ·rw [if_neg c13] at H
             have c13b0 : ((rd l0 (ji10)) == x3_1) = false := beq_eq_false_iff_ne.mpr c13
             have c13b1 : ((rd l0 (ji10)) != x3_1) = true := bne_iff_ne.mpr c13
             obtain rfl := Option.some.inj H
             have p146 : 0 ≤ (x3_1 : Int) := dd_
             have q146 : x3_1 < (l0.length : Int) := dd_
             obtain ⟨ad146, e146, hx146_0⟩ := Kd.at_int HR0.out x3_1 p146 q146
             cases e146
             replace p146 := eq_true p146
             replace q146 := eq_true q146
             have p147 : 0 ≤ ((ji6) : Int) := dd_
             have q147 : (ji6) < (l0.length : Int) := dd_
             obtain ⟨ad147, e147, hx147_0⟩ := Kd.at_int HR0.out (ji6) p147 q147
             obtain rfl : ad146 = ad147 := (by injection e147)
             replace p147 := eq_true p147
             replace q147 := eq_true q147
             have p148 : 0 ≤ ((ji10) : Int) := dd_
             have q148 : (ji10) < (l0.length : Int) := dd_
             obtain ⟨ad148, e148, hx148_0⟩ := Kd.at_int HR0.out (ji10) p148 q148
             obtain rfl : ad146 = ad148 := (by injection e148)
             replace p148 := eq_true p148
             replace q148 := eq_true q148
             go_wp2
             go_ret
             exact ⟨by first | rfl | (simp; done) | (simp only [← hji6, ← hji10] <;> (first | rfl | simp)) | (simp [*]; done), by repeat (first | exact Drawn0.refl _ | apply Drawn0.step)⟩
           ·rw [if_neg c12] at H
            exact absurd H (by simp)
          ·rw [if_neg c11] at H
           exact absurd H (by simp)
         ·rw [if_neg c9] at H
          have c9b0 : ((rd l0 (ji6)) == 0) = false := beq_eq_false_iff_ne.mpr c9
          have c9b1 : ((rd l0 (ji6)) != 0) = true := bne_iff_ne.mpr c9
          obtain rfl := Option.some.inj H
          have p146 : 0 ≤ (x3_1 : Int) := dd_
          have q146 : x3_1 < (l0.length : Int) := dd_
          obtain ⟨ad146, e146, hx146_0⟩ := Kd.at_int HR0.out x3_1 p146 q146
          cases e146
          replace p146 := eq_true p146
          replace q146 := eq_true q146
          have p147 : 0 ≤ ((ji6) : Int) := dd_
          have q147 : (ji6) < (l0.length : Int) := dd_
          obtain ⟨ad147, e147, hx147_0⟩ := Kd.at_int HR0.out (ji6) p147 q147
          obtain rfl : ad146 = ad147 := (by injection e147)
          replace p147 := eq_true p147
          replace q147 := eq_true q147
          go_wp2
          go_ret
          exact ⟨by first | rfl | (simp; done) | (simp only [← hji6] <;> (first | rfl | simp)) | (simp [*]; done), by repeat (first | exact Drawn0.refl _ | apply Drawn0.step)⟩
        ·rw [if_neg c8] at H
         exact absurd H (by simp)
       ·rw [if_neg c7] at H
        exact absurd H (by simp)
      ·rw [if_neg c5] at H
       have c5b0 : ((rd l0 x3_1) == 0) = false := beq_eq_false_iff_ne.mpr c5
       have c5b1 : ((rd l0 x3_1) != 0) = true := bne_iff_ne.mpr c5
       obtain rfl := Option.some.inj H
       have p146 : 0 ≤ (x3_1 : Int) := dd_
       have q146 : x3_1 < (l0.length : Int) := dd_
       obtain ⟨ad146, e146, hx146_0⟩ := Kd.at_int HR0.out x3_1 p146 q146
       cases e146
       replace p146 := eq_true p146
       replace q146 := eq_true q146
       go_wp2
       go_ret
       exact ⟨by first | rfl | (simp; done) | (simp [*]; done), by repeat (first | exact Drawn0.refl _ | apply Drawn0.step)⟩
     ·rw [if_neg c4] at H
      exact absurd H (by simp)
    ·rw [if_neg c3] at H
     exact absurd H (by simp)
   ·rw [if_neg c2] at H
    have c2b0 : decide (x3_1 < 9) = false := decide_eq_false c2
    clear c2
    obtain rfl := Option.some.inj H
    go_wp2
    go_ret
    exact ⟨by first | rfl | (simp; done) | (simp [*]; done), by repeat (first | exact Drawn0.refl _ | apply Drawn0.step)⟩
end Go.Proofs.Ytbfafjejmljcpaa.P

namespace Go.Proofs.Ytbfafjejmljcpaa.P
open Go.RowKit Go.Proofs.YtbfafjejmljcpaaW.PrintWords Go.Proofs.YtbfafjejmljcpaaW.PrintLast
set_option linter.unusedVariables false
set_option linter.unusedSimpArgs false

mutual
def spec_SystemIn.j0 : Nat → List Int → Bool → Option (Bool)
 | 0, _, _ => none
 | k + 1, x0, x17 => if x17 = true then (some false) else (spec_SystemIn.l0 k x0 0)
def spec_SystemIn.l0 : Nat → List Int → Int → Option (Bool)
 | 0, _, _ => none
 | k + 1, x0, x3 => if x3 < 9 then (spec_SystemIn.l1 k x0 x3 0) else (some true)
def spec_SystemIn.l1 : Nat → List Int → Int → Int → Option (Bool)
 | 0, _, _, _ => none
 | k + 1, x0, x3, x4 => if x4 < x3 then ((spec_l2Solves.f x0 x3 x4).bind fun t153 => (if t153 = true then (spec_SystemIn.l1 k x0 x3 (wrap64 (x4 + 1))) else (some false))) else (spec_SystemIn.l0 k x0 (wrap64 (x3 + 1)))
end
def spec_SystemIn.f (k : Nat) (l0 : List Int) : Option (Bool) := (spec_l2Table.f k l0).bind fun t150 => (if t150 = true then ((spec_l2Units.f k l0).bind fun t151 => (if t151 = true then ((spec_l2Shares.f l0).bind fun t152 => (spec_SystemIn.j0 k l0 (!t152))) else (spec_SystemIn.j0 k l0 true))) else (spec_SystemIn.j0 k l0 true))
set_option maxHeartbeats 8000000 in
set_option maxRecDepth 100000 in
theorem spec_SystemIn.calls (k : Nat) (A0 : Option Addr) (c0 : Nat) (l0 : List Int) (r : Bool) (w : World) (hr0 : Kd.C (Kd.int .i64) w A0 l0.length l0) (hc0 : l0.length ≤ c0) (h : spec_SystemIn.f k l0 = some r) :
  Calls Try.prog 64 #[.slice A0 l0.length c0] w fun e w' => e = .returned (.bool r) ∧ Below w.heap.size w w' := by
 have HR0 := Aside0.mk hr0
 have HC0 := Aside0.mk hc0
 clear hr0 hc0
 have HB := Aside0.mk (Below.refl w.heap.size w)
 have H : ((spec_l2Table.f k l0).bind fun t150 => (if t150 = true then ((spec_l2Units.f k l0).bind fun t151 => (if t151 = true then ((spec_l2Shares.f l0).bind fun t152 => (spec_SystemIn.j0 k l0 (!t152))) else (spec_SystemIn.j0 k l0 true))) else (spec_SystemIn.j0 k l0 true))) = some r := h
 clear h
 have HC2 := Aside0.mk H
 clear H
 go_enter Try.func64, Try.ntmps64
 go_upto_region 1 with (fail)
 go_cut [17] (fun v17 wc => ∃ (kq : Nat) (x17_1 : Bool), v17 = .bool x17_1 ∧ Aside0 (spec_SystemIn.j0 kq l0 x17_1 = some r) ∧ Aside0 (kq ≤ k) ∧ Aside0 (Below w.heap.size w wc))
 case first =>
  have H := HC2.out
  clear HC2
  replace H := Option.bind_eq_some_iff.mp H
  obtain ⟨t150, A30, H⟩ := H
  replace H : (if t150 = true then ((spec_l2Units.f k l0).bind fun t151 => (if t151 = true then ((spec_l2Shares.f l0).bind fun t152 => (spec_SystemIn.j0 k l0 (!t152))) else (spec_SystemIn.j0 k l0 true))) else (spec_SystemIn.j0 k l0 true)) = some r := H
  have A3 := Aside0.mk A30
  clear A30
  by_cases c4 : t150 = true
  ·subst c4
   have H1 : ((spec_l2Units.f k l0).bind fun t151 => (if t151 = true then ((spec_l2Shares.f l0).bind fun t152 => (spec_SystemIn.j0 k l0 (!t152))) else (spec_SystemIn.j0 k l0 true))) = some r := by rw [if_pos rfl] at H; exact H
   clear H
   have H := H1
   clear H1
   replace H := Option.bind_eq_some_iff.mp H
   obtain ⟨t151, A50, H⟩ := H
   replace H : (if t151 = true then ((spec_l2Shares.f l0).bind fun t152 => (spec_SystemIn.j0 k l0 (!t152))) else (spec_SystemIn.j0 k l0 true)) = some r := H
   have A5 := Aside0.mk A50
   clear A50
   by_cases c6 : t151 = true
   ·subst c6
    have H1 : ((spec_l2Shares.f l0).bind fun t152 => (spec_SystemIn.j0 k l0 (!t152))) = some r := by rw [if_pos rfl] at H; exact H
    clear H
    have H := H1
    clear H1
    replace H := Option.bind_eq_some_iff.mp H
    obtain ⟨t152, A70, H⟩ := H
    replace H : (spec_SystemIn.j0 k l0 (!t152)) = some r := H
    have A7 := Aside0.mk A70
    clear A70
    have H' := Aside0.mk H
    clear H
    go_wp2_with (first | (refine goesL_ (some 6) rfl rfl Try.func100 (by kernel_rfl) rfl #[.slice A0 l0.length c0] rfl ll_ ?_; (with_reducible refine (spec_l2Table.calls k _ _ l0 true _ ?side1 ?side2 A3.out).mono ?_); (case side1 => exact sb_ HR0 HB); (case side2 => exact HC0.out); rintro e w' ⟨rfl, ⟨nd, rfl⟩⟩; refine ⟨_, rfl, ?_⟩) | (go_at_call 101; (with_reducible refine (spec_l2Units.calls k _ _ l0 true _ ?side1 ?side2 A5.out).mono ?_); (case side1 => repeat (first | exact (Kd.C_below HR0.out (bb_ HB)) | (with_reducible refine Kd.C_alloc ?_ _) | (with_reducible refine Kd.C_drewN ?_ _) | (with_reducible refine Kd.C_drew ?_))); (case side2 => exact HC0.out); rintro e w' ⟨rfl, ⟨nd, rfl⟩⟩) | (go_at_call 102; (with_reducible refine (spec_l2Shares.calls _ _ l0 t152 _ ?side1 ?side2 A7.out).mono ?_); (case side1 => repeat (first | exact (Kd.C_below HR0.out (bb_ HB)) | (with_reducible refine Kd.C_alloc ?_ _) | (with_reducible refine Kd.C_drewN ?_ _) | (with_reducible refine Kd.C_drew ?_))); (case side2 => exact HC0.out); rintro e w' ⟨rfl, ⟨nd, rfl⟩⟩))
    go_meet
    case rel => exact ⟨_, (!t152), (by first | rfl | (simp; done) | (simp [*]; done)), H', ⟨by first | omega | exact Nat.le_refl _⟩, ⟨by repeat (first | (with_reducible first | exact HB.out | apply below_alloc | apply pw_below_drewN | apply below_drew1) | exact HB.out)⟩⟩
   ·replace c6 := Bool.eq_false_iff.mpr c6
    subst c6
    have H1 : (spec_SystemIn.j0 k l0 true) = some r := by rw [if_neg (show ¬ (false = true) by decide)] at H; exact H
    clear H
    have H := H1
    clear H1
    have H' := Aside0.mk H
    clear H
    go_wp2_with (first | (refine goesL_ (some 6) rfl rfl Try.func100 (by kernel_rfl) rfl #[.slice A0 l0.length c0] rfl ll_ ?_; (with_reducible refine (spec_l2Table.calls k _ _ l0 true _ ?side1 ?side2 A3.out).mono ?_); (case side1 => exact sb_ HR0 HB); (case side2 => exact HC0.out); rintro e w' ⟨rfl, ⟨nd, rfl⟩⟩; refine ⟨_, rfl, ?_⟩) | (go_at_call 101; (with_reducible refine (spec_l2Units.calls k _ _ l0 false _ ?side1 ?side2 A5.out).mono ?_); (case side1 => repeat (first | exact (Kd.C_below HR0.out (bb_ HB)) | (with_reducible refine Kd.C_alloc ?_ _) | (with_reducible refine Kd.C_drewN ?_ _) | (with_reducible refine Kd.C_drew ?_))); (case side2 => exact HC0.out); rintro e w' ⟨rfl, ⟨nd, rfl⟩⟩))
    go_meet
    case rel => exact ⟨_, (true), (by first | rfl | (simp; done) | (simp [*]; done)), H', ⟨by first | omega | exact Nat.le_refl _⟩, ⟨by repeat (first | (with_reducible first | exact HB.out | apply below_alloc | apply pw_below_drewN | apply below_drew1) | exact HB.out)⟩⟩
  ·replace c4 := Bool.eq_false_iff.mpr c4
   subst c4
   have H1 : (spec_SystemIn.j0 k l0 true) = some r := by rw [if_neg (show ¬ (false = true) by decide)] at H; exact H
   clear H
   have H := H1
   clear H1
   have H' := Aside0.mk H
   clear H
   go_wp2_with (first | (refine goesL_ (some 6) rfl rfl Try.func100 (by kernel_rfl) rfl #[.slice A0 l0.length c0] rfl ll_ ?_; (with_reducible refine (spec_l2Table.calls k _ _ l0 false _ ?side1 ?side2 A3.out).mono ?_); (case side1 => exact sb_ HR0 HB); (case side2 => exact HC0.out); rintro e w' ⟨rfl, ⟨nd, rfl⟩⟩; refine ⟨_, rfl, ?_⟩))
   go_meet
   case rel => exact ⟨_, (true), (by first | rfl | (simp; done) | (simp [*]; done)), H', ⟨by first | omega | exact Nat.le_refl _⟩, ⟨by repeat (first | (with_reducible first | exact HB.out | apply below_alloc | apply pw_below_drewN | apply below_drew1) | exact HB.out)⟩⟩
 case rest =>
  clear HC2
  try clear c1
  try clear p2
  try clear c4
  try clear c6
  obtain ⟨kq, x17_1, rfl, HA, HJ1, HB⟩ := hcut
  cases kq with
  | zero => exact absurd HA.out (by simp [spec_SystemIn.j0])
  | succ kj1 =>
   have H := HA.out
   clear HA
   simp only [spec_SystemIn.j0] at H
   by_cases c8 : x17_1 = true
   ·subst c8
    have H1 : (some false) = some r := by rw [if_pos rfl] at H; exact H
    clear H
    have H := H1
    clear H1
    obtain rfl := Option.some.inj H
    go_wp2
    go_ret
    exact ⟨ee_, bb_ HB⟩
   ·replace c8 := Bool.eq_false_iff.mpr c8
    subst c8
    have H1 : (spec_SystemIn.l0 kj1 l0 0) = some r := by rw [if_neg (show ¬ (false = true) by decide)] at H; exact H
    clear H
    have H := H1
    clear H1
    have H' := Aside0.mk H
    clear H
    go_wp2
    go_loopg [3] kj1 (fun kq v3 w' => ∃ (x3_2 : Int), v3 = .int .i64 x3_2 ∧ Aside0 (spec_SystemIn.l0 kq l0 x3_2 = some r) ∧ Aside0 (kq ≤ kj1) ∧ Aside0 (Below w.heap.size w w'))
    case atStart => exact ⟨(0), (by first | rfl | (simp; done) | (simp [*]; done)), H', ⟨Nat.le_refl _⟩, ⟨by repeat (first | (with_reducible first | exact HB.out | apply below_alloc | apply pw_below_drewN | apply below_drew1) | exact HB.out)⟩⟩
    case round =>
     clear H'
     try clear c1
     try clear p2
     try clear c4
     try clear c6
     try clear c8
     try clear p2
     obtain ⟨x3_2, rfl, HA, HK2, HB⟩ := hrel
     cases gk with
     | zero => exact absurd HA.out (by simp [spec_SystemIn.l0])
     | succ k2 =>
      have H := HA.out
      clear HA
      simp only [spec_SystemIn.l0] at H
      by_cases c9 : x3_2 < 9
      ·rw [if_pos c9] at H
       have c9b0 : decide (x3_2 < 9) = true := decide_eq_true c9
       clear c9
       have H' := Aside0.mk H
       clear H
       go_wp2
       go_loopg [4] k2 (fun kq v4 w' => ∃ (x4_3 : Int), v4 = .int .i64 x4_3 ∧ Aside0 (spec_SystemIn.l1 kq l0 x3_2 x4_3 = some r) ∧ Aside0 (kq ≤ k2) ∧ Aside0 (Below w.heap.size w w'))
       case atStart => exact ⟨(0), (by first | rfl | (simp; done) | (simp [*]; done)), H', ⟨Nat.le_refl _⟩, ⟨by repeat (first | (with_reducible first | exact HB.out | apply below_alloc | apply pw_below_drewN | apply below_drew1) | exact HB.out)⟩⟩
       case round =>
        clear H'
        try clear c1
        try clear p2
        try clear c4
        try clear c6
        try clear c8
        try clear c9
        try clear c9b0
        try clear p2
        obtain ⟨x4_3, rfl, HA, HK3, HB⟩ := hrel
        cases gk with
        | zero => exact absurd HA.out (by simp [spec_SystemIn.l1])
        | succ k3 =>
         have H := HA.out
         clear HA
         simp only [spec_SystemIn.l1] at H
         by_cases c10 : x4_3 < x3_2
         ·rw [if_pos c10] at H
          have c10b0 : decide (x4_3 < x3_2) = true := decide_eq_true c10
          clear c10
          replace H := Option.bind_eq_some_iff.mp H
          obtain ⟨t153, A110, H⟩ := H
          replace H : (if t153 = true then (spec_SystemIn.l1 k3 l0 x3_2 (wrap64 (x4_3 + 1))) else (some false)) = some r := H
          have A11 := Aside0.mk A110
          clear A110
          by_cases c12 : t153 = true
          ·subst c12
           have H1 : (spec_SystemIn.l1 k3 l0 x3_2 (wrap64 (x4_3 + 1))) = some r := by rw [if_pos rfl] at H; exact H
           clear H
           have H := H1
           clear H1
           have H' := Aside0.mk H
           clear H
           go_wp2_with (first | (refine goesL_ (some 30) rfl rfl Try.func103 (by kernel_rfl) rfl #[.slice A0 l0.length c0, .int .i64 x3_2, .int .i64 x4_3] rfl ll_ ?_; (with_reducible refine (spec_l2Solves.calls _ _ l0 x3_2 x4_3 true _ ?side1 ?side2 A11.out).mono ?_); (case side1 => exact sb_ HR0 HB); (case side2 => exact HC0.out); rintro e w13 ⟨rfl, hb⟩; refine ⟨_, rfl, ?_⟩; have n0_ := Aside0.mk (below_step (bb_ HB) hb); clear HB; have HB := n0_; clear n0_; (try clear hb); (try clear hb2); (try clear hk); (try clear hi)))
           go_roundg k3
           case measure => have := HJ1.out; have := HK2.out; have := HK3.out; omega
           case rel => exact ⟨(wrap64 (x4_3 + 1)), (by first | rfl | (simp; done) | (simp [*]; done)), H', ⟨by have := HJ1.out; have := HK2.out; have := HK3.out; omega⟩, ⟨by repeat (first | (with_reducible first | exact HB.out | apply below_alloc | apply pw_below_drewN | apply below_drew1) | exact HB.out)⟩⟩
          ·replace c12 := Bool.eq_false_iff.mpr c12
           subst c12
           have H1 : (some false) = some r := by rw [if_neg (show ¬ (false = true) by decide)] at H; exact H
           clear H
           have H := H1
           clear H1
           obtain rfl := Option.some.inj H
           go_wp2_with (first | (refine goesL_ (some 30) rfl rfl Try.func103 (by kernel_rfl) rfl #[.slice A0 l0.length c0, .int .i64 x3_2, .int .i64 x4_3] rfl ll_ ?_; (with_reducible refine (spec_l2Solves.calls _ _ l0 x3_2 x4_3 false _ ?side1 ?side2 A11.out).mono ?_); (case side1 => exact sb_ HR0 HB); (case side2 => exact HC0.out); rintro e w14 ⟨rfl, hb⟩; refine ⟨_, rfl, ?_⟩; have n0_ := Aside0.mk (below_step (bb_ HB) hb); clear HB; have HB := n0_; clear n0_; (try clear hb); (try clear hb2); (try clear hk); (try clear hi)))
           go_ret
           exact ⟨ee_, bb_ HB⟩
         ·rw [if_neg c10] at H
          have c10b0 : decide (x4_3 < x3_2) = false := decide_eq_false c10
          clear c10
          have H' := Aside0.mk H
          clear H
          go_wp2
          go_roundg k3
          case measure => have := HJ1.out; have := HK2.out; have := HK3.out; omega
          case rel => exact ⟨(wrap64 (x3_2 + 1)), (by first | rfl | (simp; done) | (simp [*]; done)), H', ⟨by have := HJ1.out; have := HK2.out; have := HK3.out; omega⟩, ⟨by repeat (first | (with_reducible first | exact HB.out | apply below_alloc | apply pw_below_drewN | apply below_drew1) | exact HB.out)⟩⟩
      ·rw [if_neg c9] at H
       have c9b0 : decide (x3_2 < 9) = false := decide_eq_false c9
       clear c9
       obtain rfl := Option.some.inj H
       go_wp2
       go_ret
       exact ⟨ee_, bb_ HB⟩
end Go.Proofs.Ytbfafjejmljcpaa.P

set_option linter.unusedVariables false
set_option linter.unusedSimpArgs false
namespace Go.Proofs.Ytbfafjejmljcpaa.X
open Go.RowKit Go.Proofs.YtbfafjejmljcpaaW.PrintWords Go.Proofs.YtbfafjejmljcpaaW.PrintLast Go.Proofs.Ytbfafjejmljcpaa.P

end Go.Proofs.Ytbfafjejmljcpaa.X

set_option linter.unusedVariables false
set_option linter.unusedSimpArgs false
namespace Go.Proofs.Ytbfafjejmljcpaa.X
open Go.RowKit Go.Proofs.YtbfafjejmljcpaaW.PrintWords Go.Proofs.YtbfafjejmljcpaaW.PrintLast Go.Proofs.Ytbfafjejmljcpaa.P

def bL (n : Nat) (s : Nat → Bool) : List Bool := (List.range n).map s
theorem bL_length (n : Nat) (s : Nat → Bool) : (bL n s).length = n := by simp [bL]
theorem bL_replicate (n : Nat) : List.replicate n false = bL n (fun _ => false) := by
  unfold bL; rw [List.map_const']; simp
theorem bL_rd {n : Nat} {s : Nat → Bool} (v : Int) (h0 : 0 ≤ v) (h1 : v < n) : rdOf false (bL n s) v = s v.toNat := by
  unfold rdOf bL
  rw [List.getD_eq_getElem?_getD, List.getElem?_map, List.getElem?_range (by omega)]
  rfl
theorem bL_set {n : Nat} {s : Nat → Bool} (v : Int) (b : Bool) : (bL n s).set v.toNat b = bL n (fun x => if x = v.toNat then b else s x) := by
  apply List.ext_getElem?
  intro i
  rw [List.getElem?_set]
  by_cases hi : i < n
  · by_cases hj : v.toNat = i
    · subst hj; simp [bL, hi]
    · simp [bL, hi, hj, Ne.symm hj]
  · by_cases hj : v.toNat = i
    · subst hj; simp [bL, hi]
    · simp [bL, hi, hj]
theorem bL_congr {n : Nat} {s s' : Nat → Bool} (h : ∀ j, j < n → s j = s' j) : bL n s = bL n s' := by
  unfold bL
  exact List.map_congr_left fun j hj => h j (List.mem_range.1 hj)
end Go.Proofs.Ytbfafjejmljcpaa.X

namespace Go.Proofs.Ytbfafjejmljcpaa.P
open Go.RowKit Go.Proofs.YtbfafjejmljcpaaW.PrintWords Go.Proofs.YtbfafjejmljcpaaW.PrintLast
set_option linter.unusedVariables false
set_option linter.unusedSimpArgs false

def spec_l6lLess.l0 : Nat → List Int → List Int → Int → Option (Bool)
 | 0, _, _, _ => none
 | k + 1, x0, x1, x5 => if x5 < 9 then (if 0 ≤ x5 then (if x5 < (x0.length : Int) then (if x5 < (x1.length : Int) then (if (rd x0 x5) = (rd x1 x5) then (spec_l6lLess.l0 k x0 x1 (wrap64 (x5 + 1))) else (some (decide ((rd x0 x5) < (rd x1 x5))))) else (none)) else (none)) else (none)) else (some false)
def spec_l6lLess.f (k : Nat) (l0 : List Int) (l1 : List Int) : Option (Bool) := spec_l6lLess.l0 k l0 l1 0
set_option maxHeartbeats 8000000 in
set_option maxRecDepth 100000 in
theorem spec_l6lLess.calls (k : Nat) (A0 : Option Addr) (c0 : Nat) (l0 : List Int) (A1 : Option Addr) (c1 : Nat) (l1 : List Int) (r : Bool) (w : World) (hr0 : Kd.C (Kd.int .i64) w A0 l0.length l0) (hc0 : l0.length ≤ c0) (hr1 : Kd.C (Kd.int .i64) w A1 l1.length l1) (hc1 : l1.length ≤ c1) (h : spec_l6lLess.f k l0 l1 = some r) :
  Calls Try.prog 93 #[.slice A0 l0.length c0, .slice A1 l1.length c1] w fun e w' => e = .returned (.bool r) ∧ Drawn0 w w' := by
 have HR0 := Aside0.mk hr0
 have HC0 := Aside0.mk hc0
 clear hr0 hc0
 have HR1 := Aside0.mk hr1
 have HC1 := Aside0.mk hc1
 clear hr1 hc1
 have H : (spec_l6lLess.l0 k l0 l1 0) = some r := h
 clear h
 have H' := Aside0.mk H
 clear H
 go_enter Try.func93, Try.ntmps93
 go_wp2
 repeat (go_quiet (fail); try go_wp2)
 go_loopg [5] k (fun kq v5 w' => ∃ (x5_1 : Int), v5 = .int .i64 x5_1 ∧ Aside0 (spec_l6lLess.l0 kq l0 l1 x5_1 = some r) ∧ Aside0 (kq ≤ k) ∧ Drawn0 w w')
 case atStart => exact ⟨(0), (by first | rfl | (simp; done) | (simp [*]; done)), H', ⟨Nat.le_refl _⟩, by repeat (first | exact Drawn0.refl _ | apply Drawn0.step)⟩
 case round =>
  clear H'
  try clear c1
  try clear p2
  obtain ⟨x5_1, rfl, HA, HK1, ⟨m1, rfl⟩⟩ := hrel
  cases gk with
  | zero => exact absurd HA.out (by simp [spec_l6lLess.l0])
  | succ k1 =>
   have H := HA.out
   clear HA
   simp only [spec_l6lLess.l0] at H
   by_cases c3 : x5_1 < 9
   ·rw [if_pos c3] at H
    have c3b0 : decide (x5_1 < 9) = true := decide_eq_true c3
    clear c3
    by_cases c4 : 0 ≤ x5_1
    ·rw [if_pos c4] at H
     have c4b0 : decide (0 ≤ x5_1) = true := decide_eq_true c4
     clear c4
     by_cases c5 : x5_1 < (l0.length : Int)
     ·rw [if_pos c5] at H
      have c5b0 : decide (x5_1 < (l0.length : Int)) = true := decide_eq_true c5
      clear c5
      by_cases c6 : x5_1 < (l1.length : Int)
      ·rw [if_pos c6] at H
       have c6b0 : decide (x5_1 < (l1.length : Int)) = true := decide_eq_true c6
       clear c6
       by_cases c7 : (rd l0 x5_1) = (rd l1 x5_1)
       ·rw [if_pos c7] at H
        have c7b0 : ((rd l0 x5_1) == (rd l1 x5_1)) = true := beq_iff_eq.mpr c7
        have c7b1 : ((rd l0 x5_1) != (rd l1 x5_1)) = false := bne_eq_false_iff_eq.mpr c7
        clear c7
        have H' := Aside0.mk H
        clear H
        have p388 : 0 ≤ (x5_1 : Int) := dd_
        have q388 : x5_1 < (l0.length : Int) := dd_
        obtain ⟨ad388, e388, hx388_0⟩ := Kd.at_int HR0.out x5_1 p388 q388
        cases e388
        replace p388 := eq_true p388
        replace q388 := eq_true q388
        have p389 : 0 ≤ (x5_1 : Int) := dd_
        have q389 : x5_1 < (l1.length : Int) := dd_
        obtain ⟨ad389, e389, hx389_0⟩ := Kd.at_int HR1.out x5_1 p389 q389
        cases e389
        replace p389 := eq_true p389
        replace q389 := eq_true q389
        go_wp2
        repeat (go_quiet (fail); try go_wp2)
        go_roundg k1
        case measure => have := HK1.out; omega
        case rel => exact ⟨(wrap64 (x5_1 + 1)), (by first | rfl | (simp; done) | (simp [*]; done)), H', ⟨by have := HK1.out; omega⟩, by repeat (first | exact Drawn0.refl _ | apply Drawn0.step)⟩
       ·rw [if_neg c7] at H
        have c7b0 : ((rd l0 x5_1) == (rd l1 x5_1)) = false := beq_eq_false_iff_ne.mpr c7
        have c7b1 : ((rd l0 x5_1) != (rd l1 x5_1)) = true := bne_iff_ne.mpr c7
        obtain rfl := Option.some.inj H
        have p388 : 0 ≤ (x5_1 : Int) := dd_
        have q388 : x5_1 < (l0.length : Int) := dd_
        obtain ⟨ad388, e388, hx388_0⟩ := Kd.at_int HR0.out x5_1 p388 q388
        cases e388
        replace p388 := eq_true p388
        replace q388 := eq_true q388
        have p389 : 0 ≤ (x5_1 : Int) := dd_
        have q389 : x5_1 < (l1.length : Int) := dd_
        obtain ⟨ad389, e389, hx389_0⟩ := Kd.at_int HR1.out x5_1 p389 q389
        cases e389
        replace p389 := eq_true p389
        replace q389 := eq_true q389
        have p390 : 0 ≤ (x5_1 : Int) := dd_
        have q390 : x5_1 < (l0.length : Int) := dd_
        obtain ⟨ad390, e390, hx390_0⟩ := Kd.at_int HR0.out x5_1 p390 q390
        obtain rfl : ad388 = ad390 := (by injection e390)
        replace p390 := eq_true p390
        replace q390 := eq_true q390
        have p391 : 0 ≤ (x5_1 : Int) := dd_
        have q391 : x5_1 < (l1.length : Int) := dd_
        obtain ⟨ad391, e391, hx391_0⟩ := Kd.at_int HR1.out x5_1 p391 q391
        obtain rfl : ad389 = ad391 := (by injection e391)
        replace p391 := eq_true p391
        replace q391 := eq_true q391
        go_wp2
        repeat (go_quiet (fail); try go_wp2)
        go_ret
        exact ⟨by first | rfl | (simp; done) | (simp [*]; done), by repeat (first | exact Drawn0.refl _ | apply Drawn0.step)⟩
      ·rw [if_neg c6] at H
       exact absurd H (by simp)
     ·rw [if_neg c5] at H
      exact absurd H (by simp)
    ·rw [if_neg c4] at H
     exact absurd H (by simp)
   ·rw [if_neg c3] at H
    have c3b0 : decide (x5_1 < 9) = false := decide_eq_false c3
    clear c3
    obtain rfl := Option.some.inj H
    go_wp2
    repeat (go_quiet (fail); try go_wp2)
    go_ret
    exact ⟨by first | rfl | (simp; done) | (simp [*]; done), by repeat (first | exact Drawn0.refl _ | apply Drawn0.step)⟩
end Go.Proofs.Ytbfafjejmljcpaa.P

namespace Go.Proofs.YtbfafjejmljcpaaW.PrintWords
open Go.RowKit
section
variable {w w' u : World} {m B g : Nat} {o : Obj} {row : Option Nat} {S : Nat → Prop} {a : Addr} {v : Value}
theorem below_at (hq : w.drewN m = w') (h : Below B u w) : Below B u w' := by subst hq; exact pw_below_drewN h m
end
namespace Kd
section
variable {α : Type} {d : Kd α} {e base n m : Nat} {ok : Nat → Prop} {w w' : World} {v : Value} {A : Option Addr} {xs : List α}
theorem R_at (hq : w.drewN m = w') (h : d.R e w base ok v xs) : d.R e w' base ok v xs := by subst hq; exact R_drewN h m
end
end Kd
end Go.Proofs.YtbfafjejmljcpaaW.PrintWords

namespace Go.Proofs.Ytbfafjejmljcpaa.P
open Go.RowKit Go.Proofs.YtbfafjejmljcpaaW.PrintWords Go.Proofs.YtbfafjejmljcpaaW.PrintLast
set_option linter.unusedVariables false
set_option linter.unusedSimpArgs false

mutual
def spec_SpreadIn.l0 : Nat → List (List Int) → List Bool → Int → Option (Bool)
 | 0, _, _, _ => none
 | k + 1, x0, x3, x4 => if x4 < 10 then (if 0 ≤ x4 then (if x4 < (x0.length : Int) then ((spec_LeafIn.f k (rd_LI x0 x4)).bind fun t479 => (if t479 = true then (if x4 > 0 then (if 0 ≤ (wrap64 (x4 - 1)) then (if (wrap64 (x4 - 1)) < (x0.length : Int) then ((spec_l6lLess.f k (rd_LI x0 (wrap64 (x4 - 1))) (rd_LI x0 x4)).bind fun t482 => (spec_SpreadIn.j1 k x0 x3 x4 (!t482))) else (none)) else (none)) else (spec_SpreadIn.j1 k x0 x3 x4 false)) else (spec_SpreadIn.j1 k x0 x3 x4 true))) else (none)) else (none)) else (some true)
def spec_SpreadIn.j1 : Nat → List (List Int) → List Bool → Int → Bool → Option (Bool)
 | 0, _, _, _, _ => none
 | k + 1, x0, x3, x4, x36 => if x36 = true then (some false) else (spec_SpreadIn.l1 k x0 x3 x4 1)
def spec_SpreadIn.l1 : Nat → List (List Int) → List Bool → Int → Int → Option (Bool)
 | 0, _, _, _, _ => none
 | k + 1, x0, x3, x4, x5 => if x5 < 9 then (if 0 ≤ x4 then (if x4 < (x0.length : Int) then (if 0 ≤ x5 then (if x5 < ((rd_LI x0 x4).length : Int) then (if 0 ≤ (rd (rd_LI x0 x4) x5) then (if (rd (rd_LI x0 x4) x5) < (x3.length : Int) then (if rdOf false x3 (rd (rd_LI x0 x4) x5) = true then (some false) else (spec_SpreadIn.l1 k x0 (x3.set ((rd (rd_LI x0 x4) x5) : Int).toNat true) x4 (wrap64 (x5 + 1)))) else (none)) else (none)) else (none)) else (none)) else (none)) else (none)) else (spec_SpreadIn.l0 k x0 x3 (wrap64 (x4 + 1)))
end
def spec_SpreadIn.f (k : Nat) (l0 : List (List Int)) : Option (Bool) := if (l0.length : Int) = 10 then (if 81 ≤ 281474976710656 then (spec_SpreadIn.l0 k l0 (List.replicate 81 false) 0) else (none)) else (some false)
set_option maxHeartbeats 8000000 in
set_option maxRecDepth 100000 in
theorem spec_SpreadIn.calls (k : Nat) (A0 : Option Addr) (c0 : Nat) (l0 : List (List Int)) (r : Bool) (w : World) (hr0 : Kd.C (Kd.slice 3 (Kd.int .i64)) w A0 l0.length l0) (hc0 : l0.length ≤ c0) (h : spec_SpreadIn.f k l0 = some r) :
  Calls Try.prog 53 #[.slice A0 l0.length c0] w fun e w' => e = .returned (.bool r) ∧ Below w.heap.size w w' := by
 have HR0 := Aside0.mk hr0
 have HC0 := Aside0.mk hc0
 clear hr0 hc0
 have HB := Aside0.mk (Below.refl w.heap.size w)
 have H : (if (l0.length : Int) = 10 then (if 81 ≤ 281474976710656 then (spec_SpreadIn.l0 k l0 (List.replicate 81 false) 0) else (none)) else (some false)) = some r := h
 clear h
 by_cases c2 : (l0.length : Int) = 10
 ·rw [if_pos c2] at H
  have c2b0 : ((l0.length : Int) == 10) = true := beq_iff_eq.mpr c2
  have c2b1 : ((l0.length : Int) != 10) = false := bne_eq_false_iff_eq.mpr c2
  clear c2
  by_cases c3 : 81 ≤ 281474976710656
  ·rw [if_pos c3] at H
   have c3b0 := eq_true c3
   have c3b1 : decide (81 ≤ 281474976710656) = true := decide_eq_true c3
   clear c3
   obtain ⟨y475, hy475⟩ : ∃ y_ : List Bool, y_ = (List.replicate 81 false) := ⟨_, rfl⟩
   replace H : (spec_SpreadIn.l0 k l0 y475 0) = some r := by first | (rw [hy475]; with_reducible exact H) | (have H2_ := (Option.bind_some _ _).symm.trans H; rw [hy475]; with_reducible exact H2_) | (have H2_ := (Option.bind_some _ _).symm.trans H; with_reducible exact H2_) | with_reducible exact H | (rw [hy475]; exact H) | exact H
   have Ny475 := Aside0.mk hy475
   clear hy475
   have H' := Aside0.mk H
   clear H
   go_enter Try.func53, Try.ntmps53
   go_wp2_with (first | ((with_reducible refine gate_dst (N := 9) rfl ?_); refine Kd.R_make Kd.bool _ 4 rfl (N := 9) rfl 52 _ _ rfl 81 rfl rfl Try.underlying52 (.bool false) 1 info4 rfl (by decide) (by omega) false (ok := fun _ => True) (okp := fun _ => True) rfl (fun _ hk => hk) trivial (by omega) (by omega) (Below.refl _ _) (Nat.le_refl _) ?_; intro v476 w4 ho5 hb hg_ hnew_; clear hg_ hnew_; (first | rw [← Ny475.out] at ho5 | (simp only [Int.reduceToNat] at ho5; rw [← Ny475.out] at ho5)); have n0_ := Aside0.mk (Kd.R_lower ho5 (below_size (bb_ HB))); have n1_ := Aside0.mk (below_step (bb_ HB) hb); clear HB; have HO477 := n0_; have HB := n1_; clear n0_ n1_; clear hb ho5))
   repeat (go_quiet (first | ((with_reducible refine gate_dst (N := 9) rfl ?_); refine Kd.R_make Kd.bool _ 4 rfl (N := 9) rfl 52 _ _ rfl 81 rfl rfl Try.underlying52 (.bool false) 1 info4 rfl (by decide) (by omega) false (ok := fun _ => True) (okp := fun _ => True) rfl (fun _ hk => hk) trivial (by omega) (by omega) (Below.refl _ _) (Nat.le_refl _) ?_; intro v476 w4 ho5 hb hg_ hnew_; clear hg_ hnew_; (first | rw [← Ny475.out] at ho5 | (simp only [Int.reduceToNat] at ho5; rw [← Ny475.out] at ho5)); have n0_ := Aside0.mk (Kd.R_lower ho5 (below_size (bb_ HB))); have n1_ := Aside0.mk (below_step (bb_ HB) hb); clear HB; have HO477 := n0_; have HB := n1_; clear n0_ n1_; clear hb ho5)); try go_wp2_with (first | ((with_reducible refine gate_dst (N := 9) rfl ?_); refine Kd.R_make Kd.bool _ 4 rfl (N := 9) rfl 52 _ _ rfl 81 rfl rfl Try.underlying52 (.bool false) 1 info4 rfl (by decide) (by omega) false (ok := fun _ => True) (okp := fun _ => True) rfl (fun _ hk => hk) trivial (by omega) (by omega) (Below.refl _ _) (Nat.le_refl _) ?_; intro v476 w4 ho5 hb hg_ hnew_; clear hg_ hnew_; (first | rw [← Ny475.out] at ho5 | (simp only [Int.reduceToNat] at ho5; rw [← Ny475.out] at ho5)); have n0_ := Aside0.mk (Kd.R_lower ho5 (below_size (bb_ HB))); have n1_ := Aside0.mk (below_step (bb_ HB) hb); clear HB; have HO477 := n0_; have HB := n1_; clear n0_ n1_; clear hb ho5)))
   go_loopg [4] k (fun kq v4 w' => ∃ (x3_1 : List Bool) (x4_1 : Int), v4 = .int .i64 x4_1 ∧ Aside0 (spec_SpreadIn.l0 kq l0 x3_1 x4_1 = some r) ∧ Aside0 (kq ≤ k) ∧ Aside0 (Kd.R Kd.bool 4 w' w.heap.size (fun _ => True) v476 x3_1) ∧ Aside0 (Below w.heap.size w w'))
   case atStart => exact ⟨(y475), (0), (by first | rfl | (simp; done) | (simp [*]; done)), H', ⟨Nat.le_refl _⟩, ⟨rr_ HO477⟩, ⟨by repeat (first | (with_reducible first | exact HB.out | apply below_alloc | apply pw_below_drewN | apply below_drew1) | exact HB.out)⟩⟩
   case round =>
    clear H'
    try clear c2
    try clear c2b0
    try clear c2b1
    try clear p2
    try clear c3
    try clear c3b0
    try clear c3b1
    try clear c5
    obtain ⟨x3_1, x4_1, rfl, HA, HK1, HO_3, HB⟩ := hrel
    cases gk with
    | zero => exact absurd HA.out (by simp [spec_SpreadIn.l0])
    | succ k1 =>
     have H := HA.out
     clear HA
     simp only [spec_SpreadIn.l0] at H
     by_cases c6 : x4_1 < 10
     ·rw [if_pos c6] at H
      have c6b0 : decide (x4_1 < 10) = true := decide_eq_true c6
      clear c6
      have HC7 := Aside0.mk H
      clear H
      go_upto_region 7 with (fail)
      repeat (go_quiet (fail); go_upto_region 7 with (fail))
      go_cut [36] (fun v36 wc => ∃ (kq : Nat) (x36_6 : Bool), v36 = .bool x36_6 ∧ Aside0 (spec_SpreadIn.j1 kq l0 x3_1 x4_1 x36_6 = some r) ∧ Aside0 (kq ≤ k1) ∧ Aside0 (Kd.R Kd.bool 4 wc w.heap.size (fun _ => True) v476 x3_1) ∧ Aside0 (Below w.heap.size w wc))
      case first =>
       have H := HC7.out
       clear HC7
       by_cases c8 : 0 ≤ x4_1
       ·rw [if_pos c8] at H
        have c8b0 : decide (0 ≤ x4_1) = true := decide_eq_true c8
        clear c8
        (first | rw [c8b0] | (simp only [i64_w, i32_w]; rw [c8b0]) | skip)
        by_cases c9 : x4_1 < (l0.length : Int)
        ·rw [if_pos c9] at H
         have c9b0 : decide (x4_1 < (l0.length : Int)) = true := decide_eq_true c9
         clear c9
         replace H := Option.bind_eq_some_iff.mp H
         obtain ⟨t479, A100, H⟩ := H
         replace H : (if t479 = true then (if x4_1 > 0 then (if 0 ≤ (wrap64 (x4_1 - 1)) then (if (wrap64 (x4_1 - 1)) < (l0.length : Int) then ((spec_l6lLess.f k1 (rd_LI l0 (wrap64 (x4_1 - 1))) (rd_LI l0 x4_1)).bind fun t482 => (spec_SpreadIn.j1 k1 l0 x3_1 x4_1 (!t482))) else (none)) else (none)) else (spec_SpreadIn.j1 k1 l0 x3_1 x4_1 false)) else (spec_SpreadIn.j1 k1 l0 x3_1 x4_1 true)) = some r := H
         have A10 := Aside0.mk A100
         clear A100
         by_cases c11 : t479 = true
         ·subst c11
          have H1 : (if x4_1 > 0 then (if 0 ≤ (wrap64 (x4_1 - 1)) then (if (wrap64 (x4_1 - 1)) < (l0.length : Int) then ((spec_l6lLess.f k1 (rd_LI l0 (wrap64 (x4_1 - 1))) (rd_LI l0 x4_1)).bind fun t482 => (spec_SpreadIn.j1 k1 l0 x3_1 x4_1 (!t482))) else (none)) else (none)) else (spec_SpreadIn.j1 k1 l0 x3_1 x4_1 false)) = some r := by rw [if_pos rfl] at H; exact H
          clear H
          have H := H1
          clear H1
          by_cases c12 : x4_1 > 0
          ·rw [if_pos c12] at H
           have c12b0 : decide (0 < x4_1) = true := decide_eq_true c12
           clear c12
           obtain ⟨ji13, hji13⟩ : ∃ j_ : Int, (wrap64 (x4_1 - 1)) = j_ := ⟨_, rfl⟩
           replace H : (if 0 ≤ (ji13) then (if (ji13) < (l0.length : Int) then ((spec_l6lLess.f k1 (rd_LI l0 (ji13)) (rd_LI l0 x4_1)).bind fun t482 => (spec_SpreadIn.j1 k1 l0 x3_1 x4_1 (!t482))) else (none)) else (none)) = some r := by first | (rw [hji13] at H; exact H) | (simp only [hji13] at H ⊢; exact H)
           (try rw [hji13] at A10)
           have hji13w : (IntKind.i64.wrap (x4_1 - 1)) = ji13 := (i64_w _).trans hji13
           by_cases c14 : 0 ≤ (ji13)
           ·rw [if_pos c14] at H
            have c14b0 : decide (0 ≤ (ji13)) = true := decide_eq_true c14
            clear c14
            by_cases c15 : (ji13) < (l0.length : Int)
            ·rw [if_pos c15] at H
             have c15b0 : decide ((ji13) < (l0.length : Int)) = true := decide_eq_true c15
             clear c15
             replace H := Option.bind_eq_some_iff.mp H
             obtain ⟨t482, A160, H⟩ := H
             replace H : (spec_SpreadIn.j1 k1 l0 x3_1 x4_1 (!t482)) = some r := H
             have A16 := Aside0.mk A160
             clear A160
             have H' := Aside0.mk H
             clear H
             have p478 : 0 ≤ (x4_1 : Int) := dd_
             have q478 : x4_1 < (l0.length : Int) := dd_
             obtain ⟨ad478, A478_0, c478_0, e478, hx478_0, hl478_0, hi478_0⟩ := at_LI HR0.out x4_1 p478 q478
             cases e478
             replace hx478_0 := hc_ HB hx478_0
             have HR478_0 := Aside0.mk hi478_0
             have HC478_0 := Aside0.mk hl478_0
             clear hi478_0 hl478_0
             replace p478 := eq_true p478
             replace q478 := eq_true q478
             go_wp2_with (first | (go_at_call 24; (with_reducible refine (spec_LeafIn.calls k1 _ _ (rd_LI l0 x4_1) true _ ?side1 ?side2 A10.out).mono ?_); (case side1 => exact sb_ HR478_0 HB); (case side2 => exact HC478_0.out); rintro e w' ⟨rfl, ⟨nd, rfl⟩⟩; (try first | exact ⟨rfl, _, World.drewN_drewN _ _ _⟩ | exact ⟨rfl, _, Eq.trans (World.drewN_drewN _ _ _) (congrArg (World.drewN _) (Nat.add_assoc _ _ _))⟩); have p480 : 0 ≤ ((ji13) : Int) := dd_; have q480 : (ji13) < (l0.length : Int) := dd_; obtain ⟨ad480, A480_0, c480_0, e480, hx480_0, hl480_0, hi480_0⟩ := at_LI HR0.out (ji13) p480 q480; obtain rfl : ad478 = ad480 := (by injection e480); replace hx480_0 := hc_ HB hx480_0; have HR480_0 := Aside0.mk hi480_0; have HC480_0 := Aside0.mk hl480_0; clear hi480_0 hl480_0; replace p480 := eq_true p480; replace q480 := eq_true q480; have p481 : 0 ≤ (x4_1 : Int) := dd_; have q481 : x4_1 < (l0.length : Int) := dd_; obtain ⟨ad481, A481_0, c481_0, e481, hx481_0, hl481_0, hi481_0⟩ := at_LI HR0.out x4_1 p481 q481; obtain rfl : ad478 = ad481 := (by injection e481); replace hx481_0 := hc_ HB hx481_0; have HR481_0 := Aside0.mk hi481_0; have HC481_0 := Aside0.mk hl481_0; clear hi481_0 hl481_0; replace p481 := eq_true p481; replace q481 := eq_true q481; have ea_ := Option.some.inj (hx478_0.symm.trans hx481_0); injection ea_ with ea_ en_ ec_; subst ea_; subst ec_; clear en_) | (go_at_call 93; (with_reducible refine (spec_l6lLess.calls k1 _ _ (rd_LI l0 (ji13)) _ _ (rd_LI l0 x4_1) t482 _ ?side1 ?side2 ?side3 ?side4 A16.out).mono ?_); (case side1 => repeat (first | exact (Kd.C_below HR480_0.out (bb_ HB)) | (with_reducible refine Kd.C_alloc ?_ _) | (with_reducible refine Kd.C_drewN ?_ _) | (with_reducible refine Kd.C_drew ?_))); (case side2 => exact HC480_0.out); (case side3 => repeat (first | exact (Kd.C_below HR481_0.out (bb_ HB)) | (with_reducible refine Kd.C_alloc ?_ _) | (with_reducible refine Kd.C_drewN ?_ _) | (with_reducible refine Kd.C_drew ?_))); (case side4 => exact HC481_0.out); rintro e w' ⟨rfl, ⟨nd, rfl⟩⟩; (try first | exact ⟨rfl, _, World.drewN_drewN _ _ _⟩ | exact ⟨rfl, _, Eq.trans (World.drewN_drewN _ _ _) (congrArg (World.drewN _) (Nat.add_assoc _ _ _))⟩)))
             repeat (go_quiet (first | (go_at_call 24; (with_reducible refine (spec_LeafIn.calls k1 _ _ (rd_LI l0 x4_1) true _ ?side1 ?side2 A10.out).mono ?_); (case side1 => exact sb_ HR478_0 HB); (case side2 => exact HC478_0.out); rintro e w' ⟨rfl, ⟨nd, rfl⟩⟩; (try first | exact ⟨rfl, _, World.drewN_drewN _ _ _⟩ | exact ⟨rfl, _, Eq.trans (World.drewN_drewN _ _ _) (congrArg (World.drewN _) (Nat.add_assoc _ _ _))⟩); have p480 : 0 ≤ ((ji13) : Int) := dd_; have q480 : (ji13) < (l0.length : Int) := dd_; obtain ⟨ad480, A480_0, c480_0, e480, hx480_0, hl480_0, hi480_0⟩ := at_LI HR0.out (ji13) p480 q480; obtain rfl : ad478 = ad480 := (by injection e480); replace hx480_0 := hc_ HB hx480_0; have HR480_0 := Aside0.mk hi480_0; have HC480_0 := Aside0.mk hl480_0; clear hi480_0 hl480_0; replace p480 := eq_true p480; replace q480 := eq_true q480; have p481 : 0 ≤ (x4_1 : Int) := dd_; have q481 : x4_1 < (l0.length : Int) := dd_; obtain ⟨ad481, A481_0, c481_0, e481, hx481_0, hl481_0, hi481_0⟩ := at_LI HR0.out x4_1 p481 q481; obtain rfl : ad478 = ad481 := (by injection e481); replace hx481_0 := hc_ HB hx481_0; have HR481_0 := Aside0.mk hi481_0; have HC481_0 := Aside0.mk hl481_0; clear hi481_0 hl481_0; replace p481 := eq_true p481; replace q481 := eq_true q481; have ea_ := Option.some.inj (hx478_0.symm.trans hx481_0); injection ea_ with ea_ en_ ec_; subst ea_; subst ec_; clear en_) | (go_at_call 93; (with_reducible refine (spec_l6lLess.calls k1 _ _ (rd_LI l0 (ji13)) _ _ (rd_LI l0 x4_1) t482 _ ?side1 ?side2 ?side3 ?side4 A16.out).mono ?_); (case side1 => repeat (first | exact (Kd.C_below HR480_0.out (bb_ HB)) | (with_reducible refine Kd.C_alloc ?_ _) | (with_reducible refine Kd.C_drewN ?_ _) | (with_reducible refine Kd.C_drew ?_))); (case side2 => exact HC480_0.out); (case side3 => repeat (first | exact (Kd.C_below HR481_0.out (bb_ HB)) | (with_reducible refine Kd.C_alloc ?_ _) | (with_reducible refine Kd.C_drewN ?_ _) | (with_reducible refine Kd.C_drew ?_))); (case side4 => exact HC481_0.out); rintro e w' ⟨rfl, ⟨nd, rfl⟩⟩; (try first | exact ⟨rfl, _, World.drewN_drewN _ _ _⟩ | exact ⟨rfl, _, Eq.trans (World.drewN_drewN _ _ _) (congrArg (World.drewN _) (Nat.add_assoc _ _ _))⟩))); try go_wp2_with (first | (go_at_call 24; (with_reducible refine (spec_LeafIn.calls k1 _ _ (rd_LI l0 x4_1) true _ ?side1 ?side2 A10.out).mono ?_); (case side1 => exact sb_ HR478_0 HB); (case side2 => exact HC478_0.out); rintro e w' ⟨rfl, ⟨nd, rfl⟩⟩; (try first | exact ⟨rfl, _, World.drewN_drewN _ _ _⟩ | exact ⟨rfl, _, Eq.trans (World.drewN_drewN _ _ _) (congrArg (World.drewN _) (Nat.add_assoc _ _ _))⟩); have p480 : 0 ≤ ((ji13) : Int) := dd_; have q480 : (ji13) < (l0.length : Int) := dd_; obtain ⟨ad480, A480_0, c480_0, e480, hx480_0, hl480_0, hi480_0⟩ := at_LI HR0.out (ji13) p480 q480; obtain rfl : ad478 = ad480 := (by injection e480); replace hx480_0 := hc_ HB hx480_0; have HR480_0 := Aside0.mk hi480_0; have HC480_0 := Aside0.mk hl480_0; clear hi480_0 hl480_0; replace p480 := eq_true p480; replace q480 := eq_true q480; have p481 : 0 ≤ (x4_1 : Int) := dd_; have q481 : x4_1 < (l0.length : Int) := dd_; obtain ⟨ad481, A481_0, c481_0, e481, hx481_0, hl481_0, hi481_0⟩ := at_LI HR0.out x4_1 p481 q481; obtain rfl : ad478 = ad481 := (by injection e481); replace hx481_0 := hc_ HB hx481_0; have HR481_0 := Aside0.mk hi481_0; have HC481_0 := Aside0.mk hl481_0; clear hi481_0 hl481_0; replace p481 := eq_true p481; replace q481 := eq_true q481; have ea_ := Option.some.inj (hx478_0.symm.trans hx481_0); injection ea_ with ea_ en_ ec_; subst ea_; subst ec_; clear en_) | (go_at_call 93; (with_reducible refine (spec_l6lLess.calls k1 _ _ (rd_LI l0 (ji13)) _ _ (rd_LI l0 x4_1) t482 _ ?side1 ?side2 ?side3 ?side4 A16.out).mono ?_); (case side1 => repeat (first | exact (Kd.C_below HR480_0.out (bb_ HB)) | (with_reducible refine Kd.C_alloc ?_ _) | (with_reducible refine Kd.C_drewN ?_ _) | (with_reducible refine Kd.C_drew ?_))); (case side2 => exact HC480_0.out); (case side3 => repeat (first | exact (Kd.C_below HR481_0.out (bb_ HB)) | (with_reducible refine Kd.C_alloc ?_ _) | (with_reducible refine Kd.C_drewN ?_ _) | (with_reducible refine Kd.C_drew ?_))); (case side4 => exact HC481_0.out); rintro e w' ⟨rfl, ⟨nd, rfl⟩⟩; (try first | exact ⟨rfl, _, World.drewN_drewN _ _ _⟩ | exact ⟨rfl, _, Eq.trans (World.drewN_drewN _ _ _) (congrArg (World.drewN _) (Nat.add_assoc _ _ _))⟩))))
             go_meet
             case rel => exact ⟨_, (!t482), (by first | rfl | (simp; done) | (simp [*]; done)), H', ⟨by have := HK1.out; first | omega | exact Nat.le_refl _⟩, ⟨rr_ HO_3⟩, ⟨by repeat (first | (with_reducible first | exact HB.out | apply below_alloc | apply pw_below_drewN | apply below_drew1) | exact HB.out)⟩⟩
            ·rw [if_neg c15] at H
             exact absurd H (by simp)
           ·rw [if_neg c14] at H
            exact absurd H (by simp)
          ·rw [if_neg c12] at H
           have c12b0 : decide (0 < x4_1) = false := decide_eq_false c12
           clear c12
           have H' := Aside0.mk H
           clear H
           have p478 : 0 ≤ (x4_1 : Int) := dd_
           have q478 : x4_1 < (l0.length : Int) := dd_
           obtain ⟨ad478, A478_0, c478_0, e478, hx478_0, hl478_0, hi478_0⟩ := at_LI HR0.out x4_1 p478 q478
           cases e478
           replace hx478_0 := hc_ HB hx478_0
           have HR478_0 := Aside0.mk hi478_0
           have HC478_0 := Aside0.mk hl478_0
           clear hi478_0 hl478_0
           replace p478 := eq_true p478
           replace q478 := eq_true q478
           go_wp2_with (first | (go_at_call 24; (with_reducible refine (spec_LeafIn.calls k1 _ _ (rd_LI l0 x4_1) true _ ?side1 ?side2 A10.out).mono ?_); (case side1 => exact sb_ HR478_0 HB); (case side2 => exact HC478_0.out); rintro e w' ⟨rfl, ⟨nd, rfl⟩⟩; (try first | exact ⟨rfl, _, World.drewN_drewN _ _ _⟩ | exact ⟨rfl, _, Eq.trans (World.drewN_drewN _ _ _) (congrArg (World.drewN _) (Nat.add_assoc _ _ _))⟩)))
           repeat (go_quiet (first | (go_at_call 24; (with_reducible refine (spec_LeafIn.calls k1 _ _ (rd_LI l0 x4_1) true _ ?side1 ?side2 A10.out).mono ?_); (case side1 => exact sb_ HR478_0 HB); (case side2 => exact HC478_0.out); rintro e w' ⟨rfl, ⟨nd, rfl⟩⟩; (try first | exact ⟨rfl, _, World.drewN_drewN _ _ _⟩ | exact ⟨rfl, _, Eq.trans (World.drewN_drewN _ _ _) (congrArg (World.drewN _) (Nat.add_assoc _ _ _))⟩))); try go_wp2_with (first | (go_at_call 24; (with_reducible refine (spec_LeafIn.calls k1 _ _ (rd_LI l0 x4_1) true _ ?side1 ?side2 A10.out).mono ?_); (case side1 => exact sb_ HR478_0 HB); (case side2 => exact HC478_0.out); rintro e w' ⟨rfl, ⟨nd, rfl⟩⟩; (try first | exact ⟨rfl, _, World.drewN_drewN _ _ _⟩ | exact ⟨rfl, _, Eq.trans (World.drewN_drewN _ _ _) (congrArg (World.drewN _) (Nat.add_assoc _ _ _))⟩))))
           go_meet
           case rel => exact ⟨_, (false), (by first | rfl | (simp; done) | (simp [*]; done)), H', ⟨by have := HK1.out; first | omega | exact Nat.le_refl _⟩, ⟨rr_ HO_3⟩, ⟨by repeat (first | (with_reducible first | exact HB.out | apply below_alloc | apply pw_below_drewN | apply below_drew1) | exact HB.out)⟩⟩
         ·replace c11 := Bool.eq_false_iff.mpr c11
          subst c11
          have H1 : (spec_SpreadIn.j1 k1 l0 x3_1 x4_1 true) = some r := by rw [if_neg (show ¬ (false = true) by decide)] at H; exact H
          clear H
          have H := H1
          clear H1
          have H' := Aside0.mk H
          clear H
          have p478 : 0 ≤ (x4_1 : Int) := dd_
          have q478 : x4_1 < (l0.length : Int) := dd_
          obtain ⟨ad478, A478_0, c478_0, e478, hx478_0, hl478_0, hi478_0⟩ := at_LI HR0.out x4_1 p478 q478
          cases e478
          replace hx478_0 := hc_ HB hx478_0
          have HR478_0 := Aside0.mk hi478_0
          have HC478_0 := Aside0.mk hl478_0
          clear hi478_0 hl478_0
          replace p478 := eq_true p478
          replace q478 := eq_true q478
          go_wp2_with (first | (go_at_call 24; (with_reducible refine (spec_LeafIn.calls k1 _ _ (rd_LI l0 x4_1) false _ ?side1 ?side2 A10.out).mono ?_); (case side1 => exact sb_ HR478_0 HB); (case side2 => exact HC478_0.out); rintro e w' ⟨rfl, ⟨nd, rfl⟩⟩; (try first | exact ⟨rfl, _, World.drewN_drewN _ _ _⟩ | exact ⟨rfl, _, Eq.trans (World.drewN_drewN _ _ _) (congrArg (World.drewN _) (Nat.add_assoc _ _ _))⟩)))
          repeat (go_quiet (first | (go_at_call 24; (with_reducible refine (spec_LeafIn.calls k1 _ _ (rd_LI l0 x4_1) false _ ?side1 ?side2 A10.out).mono ?_); (case side1 => exact sb_ HR478_0 HB); (case side2 => exact HC478_0.out); rintro e w' ⟨rfl, ⟨nd, rfl⟩⟩; (try first | exact ⟨rfl, _, World.drewN_drewN _ _ _⟩ | exact ⟨rfl, _, Eq.trans (World.drewN_drewN _ _ _) (congrArg (World.drewN _) (Nat.add_assoc _ _ _))⟩))); try go_wp2_with (first | (go_at_call 24; (with_reducible refine (spec_LeafIn.calls k1 _ _ (rd_LI l0 x4_1) false _ ?side1 ?side2 A10.out).mono ?_); (case side1 => exact sb_ HR478_0 HB); (case side2 => exact HC478_0.out); rintro e w' ⟨rfl, ⟨nd, rfl⟩⟩; (try first | exact ⟨rfl, _, World.drewN_drewN _ _ _⟩ | exact ⟨rfl, _, Eq.trans (World.drewN_drewN _ _ _) (congrArg (World.drewN _) (Nat.add_assoc _ _ _))⟩))))
          go_meet
          case rel => exact ⟨_, (true), (by first | rfl | (simp; done) | (simp [*]; done)), H', ⟨by have := HK1.out; first | omega | exact Nat.le_refl _⟩, ⟨rr_ HO_3⟩, ⟨by repeat (first | (with_reducible first | exact HB.out | apply below_alloc | apply pw_below_drewN | apply below_drew1) | exact HB.out)⟩⟩
        ·rw [if_neg c9] at H
         exact absurd H (by simp)
       ·rw [if_neg c8] at H
        exact absurd H (by simp)
      case rest =>
       clear HC7
       try clear c1
       try clear c2
       try clear c2b0
       try clear c2b1
       try clear p2
       try clear c3
       try clear c3b0
       try clear c3b1
       try clear c4
       try clear p4
       try clear q4
       try clear hx4
       try clear c5
       try clear c6
       try clear c6b0
       try clear p6
       try clear c8
       try clear c8b0
       try clear c9
       try clear c9b0
       try clear c11
       try clear c12
       try clear c12b0
       try clear c14
       try clear c14b0
       try clear c15
       try clear c15b0
       try clear hx478_0
       try clear hx480_0
       try clear hx481_0
       try clear p2
       try clear p478
       try clear p480
       try clear p481
       try clear q478
       try clear q480
       try clear q481
       obtain ⟨kq, x36_6, rfl, HA, HJ6, HO_3, HB⟩ := hcut
       cases kq with
       | zero => exact absurd HA.out (by simp [spec_SpreadIn.j1])
       | succ kj6 =>
        have H := HA.out
        clear HA
        simp only [spec_SpreadIn.j1] at H
        by_cases c17 : x36_6 = true
        ·subst c17
         have H1 : (some false) = some r := by rw [if_pos rfl] at H; exact H
         clear H
         have H := H1
         clear H1
         obtain rfl := Option.some.inj H
         go_wp2
         repeat (go_quiet (fail); try go_wp2)
         go_ret
         exact ⟨ee_, bb_ HB⟩
        ·replace c17 := Bool.eq_false_iff.mpr c17
         subst c17
         have H1 : (spec_SpreadIn.l1 kj6 l0 x3_1 x4_1 1) = some r := by rw [if_neg (show ¬ (false = true) by decide)] at H; exact H
         clear H
         have H := H1
         clear H1
         have H' := Aside0.mk H
         clear H
         go_wp2
         repeat (go_quiet (fail); try go_wp2)
         go_loopg [5] kj6 (fun kq v5 w' => ∃ (x3_3 : List Bool) (x5_3 : Int), v5 = .int .i64 x5_3 ∧ Aside0 (spec_SpreadIn.l1 kq l0 x3_3 x4_1 x5_3 = some r) ∧ Aside0 (kq ≤ kj6) ∧ Aside0 (Kd.R Kd.bool 4 w' w.heap.size (fun _ => True) v476 x3_3) ∧ Aside0 (Below w.heap.size w w'))
         case atStart => exact ⟨(x3_1), (1), (by first | rfl | (simp; done) | (simp [*]; done)), H', ⟨Nat.le_refl _⟩, ⟨rr_ HO_3⟩, ⟨by repeat (first | (with_reducible first | exact HB.out | apply below_alloc | apply pw_below_drewN | apply below_drew1) | exact HB.out)⟩⟩
         case round =>
          clear H'
          try clear c1
          try clear c2
          try clear c2b0
          try clear c2b1
          try clear p2
          try clear c3
          try clear c3b0
          try clear c3b1
          try clear c4
          try clear p4
          try clear q4
          try clear hx4
          try clear c5
          try clear c6
          try clear c6b0
          try clear p6
          try clear c8
          try clear c8b0
          try clear c9
          try clear c9b0
          try clear c11
          try clear c12
          try clear c12b0
          try clear c14
          try clear c14b0
          try clear c15
          try clear c15b0
          try clear c17
          try clear hx478_0
          try clear hx480_0
          try clear hx481_0
          try clear p2
          try clear p4
          try clear p478
          try clear p480
          try clear p481
          try clear p6
          try clear q4
          try clear q478
          try clear q480
          try clear q481
          obtain ⟨x3_3, x5_3, rfl, HA, HK3, HO_3, HB⟩ := hrel
          cases gk with
          | zero => exact absurd HA.out (by simp [spec_SpreadIn.l1])
          | succ k3 =>
           have H := HA.out
           clear HA
           simp only [spec_SpreadIn.l1] at H
           by_cases c18 : x5_3 < 9
           ·rw [if_pos c18] at H
            have c18b0 : decide (x5_3 < 9) = true := decide_eq_true c18
            clear c18
            by_cases c19 : 0 ≤ x4_1
            ·rw [if_pos c19] at H
             have c19b0 : decide (0 ≤ x4_1) = true := decide_eq_true c19
             clear c19
             by_cases c20 : x4_1 < (l0.length : Int)
             ·rw [if_pos c20] at H
              have c20b0 : decide (x4_1 < (l0.length : Int)) = true := decide_eq_true c20
              clear c20
              by_cases c21 : 0 ≤ x5_3
              ·rw [if_pos c21] at H
               have c21b0 : decide (0 ≤ x5_3) = true := decide_eq_true c21
               clear c21
               by_cases c22 : x5_3 < ((rd_LI l0 x4_1).length : Int)
               ·rw [if_pos c22] at H
                have c22b0 : decide (x5_3 < ((rd_LI l0 x4_1).length : Int)) = true := decide_eq_true c22
                clear c22
                by_cases c23 : 0 ≤ (rd (rd_LI l0 x4_1) x5_3)
                ·rw [if_pos c23] at H
                 have c23b0 : decide (0 ≤ (rd (rd_LI l0 x4_1) x5_3)) = true := decide_eq_true c23
                 clear c23
                 by_cases c24 : (rd (rd_LI l0 x4_1) x5_3) < (x3_3.length : Int)
                 ·rw [if_pos c24] at H
                  have c24b0 : decide ((rd (rd_LI l0 x4_1) x5_3) < (x3_3.length : Int)) = true := decide_eq_true c24
                  clear c24
                  obtain ⟨bq25, hbq25⟩ : ∃ b_ : Bool, b_ = (rdOf false x3_3 (rd (rd_LI l0 x4_1) x5_3)) := ⟨_, rfl⟩
                  replace H : (if bq25 = true then (some false) else (spec_SpreadIn.l1 k3 l0 (x3_3.set ((rd (rd_LI l0 x4_1) x5_3) : Int).toNat true) x4_1 (wrap64 (x5_3 + 1)))) = some r := by rw [← hbq25] at H; exact H
                  have Nbq25 := Aside0.mk hbq25
                  clear hbq25
                  by_cases c26 : bq25 = true
                  ·subst c26
                   have H1 : (some false) = some r := by rw [if_pos rfl] at H; exact H
                   clear H
                   have H := H1
                   clear H1
                   obtain rfl := Option.some.inj H
                   have p483 : 0 ≤ (x4_1 : Int) := dd_
                   have q483 : x4_1 < (l0.length : Int) := dd_
                   obtain ⟨ad483, A483_0, c483_0, e483, hx483_0, hl483_0, hi483_0⟩ := at_LI HR0.out x4_1 p483 q483
                   cases e483
                   replace hx483_0 := hc_ HB hx483_0
                   have HR483_0 := Aside0.mk hi483_0
                   have HC483_0 := Aside0.mk hl483_0
                   clear hi483_0 hl483_0
                   replace p483 := eq_true p483
                   replace q483 := eq_true q483
                   have p484 : 0 ≤ (x5_3 : Int) := dd_
                   have q484 : x5_3 < ((rd_LI l0 x4_1).length : Int) := dd_
                   obtain ⟨ad484, e484, hx484_0⟩ := Kd.at_int HR483_0.out x5_3 p484 q484
                   cases e484
                   replace hx484_0 := hc_ HB hx484_0
                   replace p484 := eq_true p484
                   replace q484 := eq_true q484
                   obtain ⟨Ao27, co27, eo27⟩ := Kd.R_slice HO_3.out
                   subst eo27
                   have p485 : 0 ≤ ((rd (rd_LI l0 x4_1) x5_3) : Int) := dd_
                   have q485 : (rd (rd_LI l0 x4_1) x5_3) < (x3_3.length : Int) := dd_
                   obtain ⟨ad485, e485, hx485_0⟩ := Kd.at_bool (Kd.R_reads' HO_3.out).2.2 (rd (rd_LI l0 x4_1) x5_3) p485 q485
                   (try rw [← Nbq25.out] at hx485_0)
                   cases e485
                   replace p485 := eq_true p485
                   replace q485 := eq_true q485
                   go_wp2
                   repeat (go_quiet (fail); try go_wp2)
                   go_ret
                   exact ⟨ee_, bb_ HB⟩
                  ·replace c26 := Bool.eq_false_iff.mpr c26
                   subst c26
                   have H1 : (spec_SpreadIn.l1 k3 l0 (x3_3.set ((rd (rd_LI l0 x4_1) x5_3) : Int).toNat true) x4_1 (wrap64 (x5_3 + 1))) = some r := by rw [if_neg (show ¬ (false = true) by decide)] at H; exact H
                   clear H
                   have H := H1
                   clear H1
                   obtain ⟨y488, hy488⟩ : ∃ y_ : List Bool, y_ = (x3_3.set ((rd (rd_LI l0 x4_1) x5_3) : Int).toNat true) := ⟨_, rfl⟩
                   replace H : (spec_SpreadIn.l1 k3 l0 y488 x4_1 (wrap64 (x5_3 + 1))) = some r := by first | (rw [hy488]; with_reducible exact H) | (have H2_ := (Option.bind_some _ _).symm.trans H; rw [hy488]; with_reducible exact H2_) | (have H2_ := (Option.bind_some _ _).symm.trans H; with_reducible exact H2_) | with_reducible exact H | (rw [hy488]; exact H) | exact H
                   have Ny488 := Aside0.mk hy488
                   clear hy488
                   have H' := Aside0.mk H
                   clear H
                   have p483 : 0 ≤ (x4_1 : Int) := dd_
                   have q483 : x4_1 < (l0.length : Int) := dd_
                   obtain ⟨ad483, A483_0, c483_0, e483, hx483_0, hl483_0, hi483_0⟩ := at_LI HR0.out x4_1 p483 q483
                   cases e483
                   replace hx483_0 := hc_ HB hx483_0
                   have HR483_0 := Aside0.mk hi483_0
                   have HC483_0 := Aside0.mk hl483_0
                   clear hi483_0 hl483_0
                   replace p483 := eq_true p483
                   replace q483 := eq_true q483
                   have p484 : 0 ≤ (x5_3 : Int) := dd_
                   have q484 : x5_3 < ((rd_LI l0 x4_1).length : Int) := dd_
                   obtain ⟨ad484, e484, hx484_0⟩ := Kd.at_int HR483_0.out x5_3 p484 q484
                   cases e484
                   replace hx484_0 := hc_ HB hx484_0
                   replace p484 := eq_true p484
                   replace q484 := eq_true q484
                   obtain ⟨Ao29, co29, eo29⟩ := Kd.R_slice HO_3.out
                   subst eo29
                   have p485 : 0 ≤ ((rd (rd_LI l0 x4_1) x5_3) : Int) := dd_
                   have q485 : (rd (rd_LI l0 x4_1) x5_3) < (x3_3.length : Int) := dd_
                   obtain ⟨ad485, e485, hx485_0⟩ := Kd.at_bool (Kd.R_reads' HO_3.out).2.2 (rd (rd_LI l0 x4_1) x5_3) p485 q485
                   (try rw [← Nbq25.out] at hx485_0)
                   cases e485
                   replace p485 := eq_true p485
                   replace q485 := eq_true q485
                   have p486 : 0 ≤ (x4_1 : Int) := dd_
                   have q486 : x4_1 < (l0.length : Int) := dd_
                   obtain ⟨ad486, A486_0, c486_0, e486, hx486_0, hl486_0, hi486_0⟩ := at_LI HR0.out x4_1 p486 q486
                   obtain rfl : ad483 = ad486 := (by injection e486)
                   replace hx486_0 := hc_ HB hx486_0
                   have HR486_0 := Aside0.mk hi486_0
                   have HC486_0 := Aside0.mk hl486_0
                   clear hi486_0 hl486_0
                   replace p486 := eq_true p486
                   replace q486 := eq_true q486
                   have ea_ := Option.some.inj (hx483_0.symm.trans hx486_0)
                   injection ea_ with ea_ en_ ec_
                   subst ea_
                   subst ec_
                   clear en_
                   have p487 : 0 ≤ (x5_3 : Int) := dd_
                   have q487 : x5_3 < ((rd_LI l0 x4_1).length : Int) := dd_
                   obtain ⟨ad487, e487, hx487_0⟩ := Kd.at_int HR486_0.out x5_3 p487 q487
                   cases e487
                   replace hx487_0 := hc_ HB hx487_0
                   replace p487 := eq_true p487
                   replace q487 := eq_true q487
                   have p28 : 0 ≤ ((rd (rd_LI l0 x4_1) x5_3) : Int) := dd_
                   have q28 : ((rd (rd_LI l0 x4_1) x5_3) : Int) < ((x3_3.length : Int) : Int) := dd_
                   obtain ⟨go28, co28, eo28, gb28, gl28, cl28, HG28⟩ := Kd.R_form HO_3.out (by omega)
                   (first | cases eo28 | (injection eo28 with ea_ en_ ec_; (first | subst ea_ | (injection ea_ with ea_; subst ea_)); subst ec_; clear en_))
                   have GB28 := Aside0.mk gb28
                   have GG28 := Aside0.mk HG28
                   clear gb28 gl28 HG28
                   (first | simp only [add_plain] at hx485_0 | skip)
                   obtain ⟨hx28_0, hf28_0⟩ := Kd.R_celln false HO_3.out ((rd (rd_LI l0 x4_1) x5_3) : Int) p28 q28
                   replace p28 := eq_true p28
                   replace q28 := eq_true q28
                   have HP30 := Kd.R_putg HO_3.out ((rd (rd_LI l0 x4_1) x5_3) : Int) true
                   go_wp2_with (first | ((with_reducible refine gate_store (t := 4) (p := 59) rfl ?_); (try (rw [dself_ wr]; generalize hq_ : World.drewN wr _ = wr; have n0_ := Aside0.mk (Kd.R_at hq_ HO_3.out); have n1_ := Aside0.mk (below_at hq_ HB.out); clear hq_ HO_3 HB; have HO_3 := n0_; have HB := n1_; clear n0_ n1_; (try (have HP30 := Kd.R_putg HO_3.out ((rd (rd_LI l0 x4_1) x5_3) : Int) true)))); refine store_event (t := 4) (p := 59) (v := ?vo_w31) (w1 := (wr.setCell ⟨go28, ((rd (rd_LI l0 x4_1) x5_3) : Int).toNat, none⟩ (.bool true))) ?hg ?ho ?hn ?hr ?_; (case ho => rfl); (case hg => rfl); (case hn => rfl); (case hr => first | (go_simp; done) | (go_simp; rfl)); intro w31 hw; have hg : wr.grownBy w31 (some go28) := (by rw [hw]; exact HP30.2); have hp_ : Kd.R Kd.bool 4 w31 w.heap.size (fun _ => True) (.slice (some ⟨go28, 0, none⟩) x3_3.length co29) y488 := (by rw [hw, Ny488.out]; exact HP30.1); clear HP30; have n0_ := Aside0.mk (hp_); have n1_ := Aside0.mk ((by rw [hw]; exact below_set (HB.out) GB28.out : Below w.heap.size w w31)); clear HO_3; clear HB; have HO_3 := n0_; have HB := n1_; clear n0_ n1_; clear hg hw hp_))
                   repeat (go_quiet (first | ((with_reducible refine gate_store (t := 4) (p := 59) rfl ?_); (try (rw [dself_ wr]; generalize hq_ : World.drewN wr _ = wr; have n0_ := Aside0.mk (Kd.R_at hq_ HO_3.out); have n1_ := Aside0.mk (below_at hq_ HB.out); clear hq_ HO_3 HB; have HO_3 := n0_; have HB := n1_; clear n0_ n1_; (try (have HP30 := Kd.R_putg HO_3.out ((rd (rd_LI l0 x4_1) x5_3) : Int) true)))); refine store_event (t := 4) (p := 59) (v := ?vo_w31) (w1 := (wr.setCell ⟨go28, ((rd (rd_LI l0 x4_1) x5_3) : Int).toNat, none⟩ (.bool true))) ?hg ?ho ?hn ?hr ?_; (case ho => rfl); (case hg => rfl); (case hn => rfl); (case hr => first | (go_simp; done) | (go_simp; rfl)); intro w31 hw; have hg : wr.grownBy w31 (some go28) := (by rw [hw]; exact HP30.2); have hp_ : Kd.R Kd.bool 4 w31 w.heap.size (fun _ => True) (.slice (some ⟨go28, 0, none⟩) x3_3.length co29) y488 := (by rw [hw, Ny488.out]; exact HP30.1); clear HP30; have n0_ := Aside0.mk (hp_); have n1_ := Aside0.mk ((by rw [hw]; exact below_set (HB.out) GB28.out : Below w.heap.size w w31)); clear HO_3; clear HB; have HO_3 := n0_; have HB := n1_; clear n0_ n1_; clear hg hw hp_)); try go_wp2_with (first | ((with_reducible refine gate_store (t := 4) (p := 59) rfl ?_); (try (rw [dself_ wr]; generalize hq_ : World.drewN wr _ = wr; have n0_ := Aside0.mk (Kd.R_at hq_ HO_3.out); have n1_ := Aside0.mk (below_at hq_ HB.out); clear hq_ HO_3 HB; have HO_3 := n0_; have HB := n1_; clear n0_ n1_; (try (have HP30 := Kd.R_putg HO_3.out ((rd (rd_LI l0 x4_1) x5_3) : Int) true)))); refine store_event (t := 4) (p := 59) (v := ?vo_w31) (w1 := (wr.setCell ⟨go28, ((rd (rd_LI l0 x4_1) x5_3) : Int).toNat, none⟩ (.bool true))) ?hg ?ho ?hn ?hr ?_; (case ho => rfl); (case hg => rfl); (case hn => rfl); (case hr => first | (go_simp; done) | (go_simp; rfl)); intro w31 hw; have hg : wr.grownBy w31 (some go28) := (by rw [hw]; exact HP30.2); have hp_ : Kd.R Kd.bool 4 w31 w.heap.size (fun _ => True) (.slice (some ⟨go28, 0, none⟩) x3_3.length co29) y488 := (by rw [hw, Ny488.out]; exact HP30.1); clear HP30; have n0_ := Aside0.mk (hp_); have n1_ := Aside0.mk ((by rw [hw]; exact below_set (HB.out) GB28.out : Below w.heap.size w w31)); clear HO_3; clear HB; have HO_3 := n0_; have HB := n1_; clear n0_ n1_; clear hg hw hp_)))
                   go_roundg k3
                   case measure => have := HK1.out; have := HJ6.out; have := HK3.out; omega
                   case rel => exact ⟨(y488), (wrap64 (x5_3 + 1)), (by first | rfl | (simp; done) | (simp [*]; done)), H', ⟨by have := HK1.out; have := HJ6.out; have := HK3.out; omega⟩, ⟨rr_ HO_3⟩, ⟨by repeat (first | (with_reducible first | exact HB.out | apply below_alloc | apply pw_below_drewN | apply below_drew1) | exact HB.out)⟩⟩
                 ·rw [if_neg c24] at H
                  exact absurd H (by simp)
                ·rw [if_neg c23] at H
                 exact absurd H (by simp)
               ·rw [if_neg c22] at H
                exact absurd H (by simp)
              ·rw [if_neg c21] at H
               exact absurd H (by simp)
             ·rw [if_neg c20] at H
              exact absurd H (by simp)
            ·rw [if_neg c19] at H
             exact absurd H (by simp)
           ·rw [if_neg c18] at H
            have c18b0 : decide (x5_3 < 9) = false := decide_eq_false c18
            clear c18
            have H' := Aside0.mk H
            clear H
            go_wp2
            repeat (go_quiet (fail); try go_wp2)
            go_roundg k3
            case measure => have := HK1.out; have := HJ6.out; have := HK3.out; omega
            case rel => exact ⟨(x3_3), (wrap64 (x4_1 + 1)), (by first | rfl | (simp; done) | (simp [*]; done)), H', ⟨by have := HK1.out; have := HJ6.out; have := HK3.out; omega⟩, ⟨rr_ HO_3⟩, ⟨by repeat (first | (with_reducible first | exact HB.out | apply below_alloc | apply pw_below_drewN | apply below_drew1) | exact HB.out)⟩⟩
     ·rw [if_neg c6] at H
      have c6b0 : decide (x4_1 < 10) = false := decide_eq_false c6
      clear c6
      obtain rfl := Option.some.inj H
      go_wp2
      repeat (go_quiet (fail); try go_wp2)
      go_ret
      exact ⟨ee_, bb_ HB⟩
  ·rw [if_neg c3] at H
   exact absurd H (by simp)
 ·rw [if_neg c2] at H
  have c2b0 : ((l0.length : Int) == 10) = false := beq_eq_false_iff_ne.mpr c2
  have c2b1 : ((l0.length : Int) != 10) = true := bne_iff_ne.mpr c2
  obtain rfl := Option.some.inj H
  go_enter Try.func53, Try.ntmps53
  go_wp2
  repeat (go_quiet (fail); try go_wp2)
  go_ret
  exact ⟨ee_, bb_ HB⟩
end Go.Proofs.Ytbfafjejmljcpaa.P

set_option linter.unusedVariables false
set_option linter.unusedSimpArgs false
namespace Go.Proofs.Ytbfafjejmljcpaa.X
open Go.RowKit Go.Proofs.YtbfafjejmljcpaaW.PrintWords Go.Proofs.YtbfafjejmljcpaaW.PrintLast Go.Proofs.Ytbfafjejmljcpaa.P

theorem l6lLess_loop (a b : List Int) (ha : a.length = 9) (hb : b.length = 9) (d : Nat) : ∀ i : Int, 0 ≤ i → i + d = 9 → (∀ j : Int, 0 ≤ j → j < i → rd a j = rd b j) → Ev (fun k => spec_l6lLess.l0 k a b i) (lessB a b) := by
  induction d with
  | zero =>
    intro i h0 h1 h
    refine Ev.step (fun k => by rw [spec_l6lLess.l0]) ?_
    refine Ev.neg (by omega) (Ev.done ?_)
    have : gapI a b = -1 := firstI_none fun j j0 j1 => by rw [h j j0 (by omega)]; simp
    unfold lessB; rw [this]; rfl
  | succ d ih =>
    intro i h0 h1 h
    refine Ev.step (fun k => by rw [spec_l6lLess.l0]) ?_
    rw [w64 (x := i + 1) (by omega) (by omega)]
    refine Ev.pos (by omega) (Ev.pos h0 (Ev.pos (by omega) (Ev.pos (by omega) ?_)))
    by_cases e : rd a i = rd b i
    · refine Ev.pos e (ih (i + 1) (by omega) (by omega) fun j j0 j1 => ?_)
      by_cases ej : j = i
      · rw [ej]; exact e
      · exact h j j0 (by omega)
    · refine Ev.neg e (Ev.done ?_)
      have : gapI a b = i := firstI_some i h0 (by omega) (by simpa using e) fun j j0 j1 => by rw [h j j0 j1]; simp
      unfold lessB; rw [this, decide_eq_true h0, Bool.true_and]
theorem l6lLess_ev (a b : List Int) (ha : a.length = 9) (hb : b.length = 9) : Ev (fun k => spec_l6lLess.f k a b) (lessB a b) :=
  l6lLess_loop a b ha hb 9 0 (by omega) (by omega) (fun j j0 j1 => by omega)
theorem seenS_iff {l : List (List Int)} {i p : Int} : seenS l i p = true ↔ ∃ j : Nat, (j : Int) < i ∧ p ∈ rd_LI l (j : Int) := by
  unfold seenS
  simp only [List.any_eq_true, List.mem_range, decide_eq_true_eq]
  constructor
  · rintro ⟨j, hj, h⟩; exact ⟨j, by omega, h⟩
  · rintro ⟨j, hj, h⟩; exact ⟨j, by omega, h⟩
theorem fresh_rd {l : List (List Int)} {i : Int} (h : freshB l i = true) {p : Int} (hp : p ∈ rd_LI l i) (h0 : 0 < p) : seenS l i p = false := by
  unfold freshB at h
  have := List.all_eq_true.1 h p hp
  rw [decide_eq_false (by omega), Bool.false_or, Bool.not_eq_true'] at this
  exact this
theorem spread_apart {l : List (List Int)} (h : spreadB l = true) {i j p : Int} (i0 : 0 ≤ i) (ij : i < j) (j1 : j < 10) (h0 : 0 < p) (hi : p ∈ rd_LI l i) (hj : p ∈ rd_LI l j) : False := by
  have := fresh_rd (leafOk_parts ((spreadB_parts h).2 j (by omega) j1)).2.2 hj h0
  have h2 := seenS_iff.2 ⟨i.toNat, (by omega : (i.toNat : Int) < j), (by rw [Int.toNat_of_nonneg i0]; exact hi : p ∈ rd_LI l (i.toNat : Int))⟩
  rw [this] at h2; exact absurd h2 (by decide)
theorem spread_leaf {l : List (List Int)} (h : spreadB l = true) {i : Int} (i0 : 0 ≤ i) (i1 : i < 10) : leafB (rd_LI l i) = true := (leafOk_parts ((spreadB_parts h).2 i i0 i1)).1
def bitR (l : List (List Int)) (i k : Int) (p : Nat) : Bool := decide (0 < (p : Int)) && (seenS l i (p : Int) || decide ((p : Int) ∈ (rd_LI l i).take k.toNat))
theorem specSpread_l1 (l : List (List Int)) (hl : l.length = 10) (i : Int) (i0 : 0 ≤ i) (i1 : i < 10) (hlf : leafB (rd_LI l i) = true) (hor : ordB l i = true)
    (hr : leafOk l i = true → Ev (fun k => spec_SpreadIn.l0 k l (bL 81 fun p => decide (0 < (p : Int)) && seenS l (i + 1) (p : Int)) (i + 1)) (spreadB l)) (d : Nat) :
    ∀ k : Int, 1 ≤ k → k + d = 9 → (∀ j : Int, 0 ≤ j → j < k → (decide (rd (rd_LI l i) j ≤ 0) || !seenS l i (rd (rd_LI l i) j)) = true) → Ev (fun n => spec_SpreadIn.l1 n l (bL 81 (bitR l i k)) i k) (spreadB l) := by
  have hl9 := (leafB_parts hlf).1
  induction d with
  | zero =>
    intro k k0 k1 h
    have e9 : k = 9 := by omega
    subst e9
    refine Ev.step (fun n => by rw [spec_SpreadIn.l1]) ?_
    rw [w64 (x := i + 1) (by omega) (by omega)]
    have hfr : freshB l i = true := by
      unfold freshB
      rw [List.all_eq_true]
      intro p hp
      obtain ⟨j, j0, j1, rfl⟩ := mem_rd hp
      exact h j j0 (by omega)
    have hb : bL 81 (bitR l i 9) = bL 81 fun p => decide (0 < (p : Int)) && seenS l (i + 1) (p : Int) := bL_congr fun j hj => by
      unfold bitR
      rw [seenS_succ l i0, List.take_of_length_le (by omega)]
    rw [hb]
    exact Ev.neg (by omega) (hr (by unfold leafOk; rw [hlf, hor, hfr]; rfl))
  | succ d ih =>
    intro k k0 k1 h
    obtain ⟨p0, p1⟩ := leaf_near hlf (i := k) (by omega) (by omega)
    have pp := leaf_pos hlf (i := k) (by omega) (by omega)
    have hnt := leaf_take hlf (i := k) (by omega) (by omega)
    have hbit : rdOf false (bL 81 (bitR l i k)) (rd (rd_LI l i) k) = seenS l i (rd (rd_LI l i) k) := by
      rw [bL_rd _ p0 p1]
      unfold bitR
      rw [Int.toNat_of_nonneg p0, decide_eq_true pp, decide_eq_false hnt, Bool.or_false, Bool.true_and]
    have hset : (bL 81 (bitR l i k)).set (rd (rd_LI l i) k).toNat true = bL 81 (bitR l i (k + 1)) := by
      rw [bL_set]
      refine bL_congr fun j hj => ?_
      unfold bitR
      rw [show (k + 1).toNat = k.toNat + 1 by omega, List.take_add_one, List.getElem?_eq_getElem (by omega), Option.toList_some]
      have e2 : (rd_LI l i)[k.toNat]'(by omega) = rd (rd_LI l i) k := (rd_getElem (by omega) (by omega)).symm
      rw [e2]
      by_cases e : j = (rd (rd_LI l i) k).toNat
      · rw [if_pos e, decide_eq_true (by omega : (0 : Int) < j)]
        have : (j : Int) ∈ (rd_LI l i).take k.toNat ++ [rd (rd_LI l i) k] := by rw [List.mem_append]; right; rw [List.mem_singleton]; omega
        rw [decide_eq_true this, Bool.or_true]; rfl
      · rw [if_neg e]
        congr 2
        refine decide_eq_decide.2 ?_
        rw [List.mem_append, List.mem_singleton]
        exact ⟨fun h => .inl h, fun h => h.elim id fun h => absurd h (by omega)⟩
    refine Ev.step (fun n => by rw [spec_SpreadIn.l1]) ?_
    rw [hbit, hset, bL_length, w64 (x := k + 1) (by omega) (by omega)]
    refine Ev.pos (by omega) (Ev.pos i0 (Ev.pos (by omega) (Ev.pos (by omega) (Ev.pos (by omega) (Ev.pos p0 (Ev.pos p1 ?_))))))
    by_cases hs : seenS l i (rd (rd_LI l i) k) = true
    · refine Ev.pos hs (Ev.done ?_)
      have hfr : freshB l i = false := by
        cases e : freshB l i with
        | false => rfl
        | true =>
          have := fresh_rd e (rd_mem (i := k) (by omega) (by omega)) pp
          rw [hs] at this; exact absurd this (by decide)
      rw [spreadB_hit i0 i1 (by unfold leafOk; rw [hfr, Bool.and_false, Bool.and_false])]
    · refine Ev.neg hs (ih (k + 1) (by omega) (by omega) fun j j0 j1 => ?_)
      by_cases e : j = k
      · rw [e, Bool.eq_false_iff.2 hs, Bool.not_false, Bool.or_true]
      · exact h j j0 (by omega)
theorem specSpread_l0 (l : List (List Int)) (hl : l.length = 10) (d : Nat) : ∀ i : Int, 0 ≤ i → i + d = 10 → (∀ j : Int, 0 ≤ j → j < i → leafOk l j = true) → Ev (fun k => spec_SpreadIn.l0 k l (bL 81 fun p => decide (0 < (p : Int)) && seenS l i (p : Int)) i) (spreadB l) := by
  induction d with
  | zero =>
    intro i h0 h1 h
    refine Ev.step (fun k => by rw [spec_SpreadIn.l0]) ?_
    refine Ev.neg (by omega) (Ev.done ?_)
    rw [spreadB_all hl fun j j0 j1 => h j j0 (by omega)]
  | succ d ih =>
    intro i h0 h1 h
    refine Ev.step (fun k => by rw [spec_SpreadIn.l0]) ?_
    refine Ev.pos (by omega) (Ev.pos h0 (Ev.pos (by omega) (Ev.bind (specLeaf_ev _) ?_)))
    by_cases hlf : leafB (rd_LI l i) = true
    case neg =>
      refine Ev.neg hlf (Ev.step (fun k => by rw [spec_SpreadIn.j1]) (Ev.pos rfl (Ev.done ?_)))
      rw [spreadB_hit h0 (by omega) (by unfold leafOk; rw [Bool.eq_false_iff.2 hlf]; rfl)]
    refine Ev.pos hlf ?_
    have hz : (bL 81 fun p => decide (0 < (p : Int)) && seenS l i (p : Int)) = bL 81 (bitR l i 1) := bL_congr fun j hj => by
      unfold bitR
      have hl9 := (leafB_parts hlf).1
      have ht : (rd_LI l i).take (1 : Int).toNat = [0] := by
        rw [show (1 : Int).toNat = 0 + 1 by rfl, List.take_add_one, List.getElem?_eq_getElem (by omega), Option.toList_some]
        have := leaf_zero hlf
        rw [rd_getElem (by omega) (by omega)] at this
        have e3 : (rd_LI l i)[0]'(by omega) = 0 := this
        rw [e3]; rfl
      rw [ht]
      by_cases e : 0 < (j : Int)
      · rw [decide_eq_true e, decide_eq_false (by rw [List.mem_singleton]; omega), Bool.or_false]
      · rw [decide_eq_false e]; rfl
    have tail : ordB l i = true → Ev (fun k => spec_SpreadIn.j1 k l (bL 81 fun p => decide (0 < (p : Int)) && seenS l i (p : Int)) i false) (spreadB l) := fun hor => by
      refine Ev.step (fun k => by rw [spec_SpreadIn.j1]) (Ev.neg (by decide) ?_)
      rw [hz]
      refine specSpread_l1 l hl i h0 (by omega) hlf hor (fun hok => ih (i + 1) (by omega) (by omega) fun j j0 j1 => ?_) 8 1 (by omega) (by omega) fun j j0 j1 => ?_
      · by_cases e : j = i
        · rw [e]; exact hok
        · exact h j j0 (by omega)
      · rw [show j = 0 by omega, leaf_zero hlf]; rfl
    by_cases hi : i > 0
    · have hlp := (leafOk_parts (h (i - 1) (by omega) (by omega))).1
      have hor : ordB l i = lessB (rd_LI l (i - 1)) (rd_LI l i) := by unfold ordB; rw [decide_eq_false (by omega), Bool.false_or]
      rw [w64 (x := i - 1) (by omega) (by omega)]
      refine Ev.pos hi (Ev.pos (by omega) (Ev.pos (by omega) (Ev.bind (l6lLess_ev _ _ (leafB_parts hlp).1 (leafB_parts hlf).1) ?_)))
      rw [← hor]
      by_cases ho : ordB l i = true
      · rw [ho]; exact tail ho
      · have ho := Bool.eq_false_iff.2 ho
        rw [ho]
        refine Ev.step (fun k => by rw [spec_SpreadIn.j1]) ?_
        refine Ev.pos rfl (Ev.done ?_)
        rw [spreadB_hit h0 (by omega) (by unfold leafOk; rw [ho, Bool.false_and, Bool.and_false])]
    · exact Ev.neg hi (tail (by unfold ordB; rw [decide_eq_true (by omega)]; rfl))
theorem specSpread_ev (l : List (List Int)) : Ev (fun k => spec_SpreadIn.f k l) (spreadB l) := by
  unfold spec_SpreadIn.f
  by_cases hl : l.length = 10
  · refine Ev.pos (by omega) (Ev.pos (by omega) ?_)
    rw [bL_replicate]
    have := specSpread_l0 l hl 10 0 (by omega) (by omega) (fun j j0 j1 => by omega)
    have e : (bL 81 fun p => decide (0 < (p : Int)) && seenS l 0 (p : Int)) = bL 81 fun _ => false := bL_congr fun j hj => by rw [seenS_zero, Bool.and_false]
    rwa [e] at this
  · refine Ev.neg (by omega) (Ev.done ?_)
    unfold spreadB; rw [decide_eq_false hl]; rfl
end Go.Proofs.Ytbfafjejmljcpaa.X

namespace Go.Proofs.YtbfafjejmljcpaaW.PrintWords
theorem Reps.one {α : Type} {R : α → List Value → Prop} {ps : List α} {cs : List Value} {p : α} {v : Value} (hp : R p [v]) (h : Reps R 1 ps cs) : Reps R 1 (p :: ps) (v :: cs) := by
  refine ⟨by simp [h.1], fun j q hq => ?_⟩
  cases j with
  | zero =>
    simp only [List.getElem?_cons_zero, Option.some.injEq] at hq
    subst hq
    simpa using hp
  | succ j =>
    simp only [List.getElem?_cons_succ] at hq
    have h1 := h.2 j q hq
    simpa [Nat.mul_one] using h1
theorem Reps.front {α : Type} {R : α → List Value → Prop} {size : Nat} {ps : List α} {cs c all : List Value} {p : α} (hp : R p c) (hc : c.length = size) (h : Reps R size ps cs) (ha : c ++ cs = all) : Reps R size (p :: ps) all := by
  subst ha
  refine ⟨by rw [List.length_append, hc, h.1, List.length_cons, Nat.succ_mul, Nat.add_comm], fun j q hq => ?_⟩
  cases j with
  | zero =>
    simp only [List.getElem?_cons_zero, Option.some.injEq] at hq
    subst hq
    rw [Nat.zero_mul, List.drop_zero, List.take_append_of_le_length (by omega), List.take_of_length_le (by omega)]
    exact hp
  | succ j =>
    simp only [List.getElem?_cons_succ] at hq
    have h1 := h.2 j q hq
    rw [Nat.succ_mul, List.drop_append, List.drop_of_length_le (by rw [hc]; exact Nat.le_add_left _ _), List.nil_append, hc, Nat.add_sub_cancel]
    exact h1
theorem Reps.c2 {α : Type} {R : α → List Value → Prop} {ps : List α} {cs : List Value} {p : α} {va vb : Value} (hp : R p [va, vb]) (h : Reps R 2 ps cs) : Reps R 2 (p :: ps) (va :: vb :: cs) := Reps.front hp rfl h rfl
theorem Reps.c3 {α : Type} {R : α → List Value → Prop} {ps : List α} {cs : List Value} {p : α} {va vb vc : Value} (hp : R p [va, vb, vc]) (h : Reps R 3 ps cs) : Reps R 3 (p :: ps) (va :: vb :: vc :: cs) := Reps.front hp rfl h rfl
theorem Reps.c4 {α : Type} {R : α → List Value → Prop} {ps : List α} {cs : List Value} {p : α} {va vb vc vd : Value} (hp : R p [va, vb, vc, vd]) (h : Reps R 4 ps cs) : Reps R 4 (p :: ps) (va :: vb :: vc :: vd :: cs) := Reps.front hp rfl h rfl
theorem Reps.c5 {α : Type} {R : α → List Value → Prop} {ps : List α} {cs : List Value} {p : α} {va vb vc vd ve : Value} (hp : R p [va, vb, vc, vd, ve]) (h : Reps R 5 ps cs) : Reps R 5 (p :: ps) (va :: vb :: vc :: vd :: ve :: cs) := Reps.front hp rfl h rfl
theorem Reps.c6 {α : Type} {R : α → List Value → Prop} {ps : List α} {cs : List Value} {p : α} {va vb vc vd ve vf : Value} (hp : R p [va, vb, vc, vd, ve, vf]) (h : Reps R 6 ps cs) : Reps R 6 (p :: ps) (va :: vb :: vc :: vd :: ve :: vf :: cs) := Reps.front hp rfl h rfl
theorem Reps.c7 {α : Type} {R : α → List Value → Prop} {ps : List α} {cs : List Value} {p : α} {va vb vc vd ve vf vg : Value} (hp : R p [va, vb, vc, vd, ve, vf, vg]) (h : Reps R 7 ps cs) : Reps R 7 (p :: ps) (va :: vb :: vc :: vd :: ve :: vf :: vg :: cs) := Reps.front hp rfl h rfl
theorem Reps.c8 {α : Type} {R : α → List Value → Prop} {ps : List α} {cs : List Value} {p : α} {va vb vc vd ve vf vg vh : Value} (hp : R p [va, vb, vc, vd, ve, vf, vg, vh]) (h : Reps R 8 ps cs) : Reps R 8 (p :: ps) (va :: vb :: vc :: vd :: ve :: vf :: vg :: vh :: cs) := Reps.front hp rfl h rfl
theorem Reps.c9 {α : Type} {R : α → List Value → Prop} {ps : List α} {cs : List Value} {p : α} {va vb vc vd ve vf vg vh vi : Value} (hp : R p [va, vb, vc, vd, ve, vf, vg, vh, vi]) (h : Reps R 9 ps cs) : Reps R 9 (p :: ps) (va :: vb :: vc :: vd :: ve :: vf :: vg :: vh :: vi :: cs) := Reps.front hp rfl h rfl
theorem Reps.c10 {α : Type} {R : α → List Value → Prop} {ps : List α} {cs : List Value} {p : α} {va vb vc vd ve vf vg vh vi vj : Value} (hp : R p [va, vb, vc, vd, ve, vf, vg, vh, vi, vj]) (h : Reps R 10 ps cs) : Reps R 10 (p :: ps) (va :: vb :: vc :: vd :: ve :: vf :: vg :: vh :: vi :: vj :: cs) := Reps.front hp rfl h rfl
end Go.Proofs.YtbfafjejmljcpaaW.PrintWords

namespace Go.Proofs.Ytbfafjejmljcpaa.P
open Go.RowKit Go.Proofs.YtbfafjejmljcpaaW.PrintWords Go.Proofs.YtbfafjejmljcpaaW.PrintLast Go.Proofs.YtbfafjejmljcpaaW.PrintMore
set_option linter.unusedVariables false
set_option linter.unusedSimpArgs false

def spec_l6lPut.l0 : Nat → List (List Int) → List Int → Int → Option ((List (List Int)))
 | 0, _, _, _ => none
 | k + 1, x0, x1, x5 => if x5 < (x0.length : Int) then (if 0 ≤ x5 then ((spec_l6lLess.f k (rd_LI x0 x5) x1).bind fun t393 => (if t393 = true then (spec_l6lPut.l0 k x0 x1 (wrap64 (x5 + 1))) else ((some (([] : List (List Int)) : List (List Int))).bind fun y394 => (if x5 ≤ (x0.length : Int) then ((some (x0.take (x5 : Int).toNat : List (List Int))).bind fun y397 => (if y394.length + y397.length < 5864062014805 then ((some (y394 ++ y397 : List (List Int))).bind fun y402 => ((some (([x1] : List (List Int)) : List (List Int))).bind fun y405 => (if y402.length + y405.length < 5864062014805 then ((some (y402 ++ y405 : List (List Int))).bind fun y408 => ((some (x0.drop (x5 : Int).toNat : List (List Int))).bind fun y411 => (if y408.length + y411.length < 5864062014805 then (some (y408 ++ y411)) else (none)))) else (none)))) else (none))) else (none))))) else (none)) else ((some (([] : List (List Int)) : List (List Int))).bind fun y419 => (if 0 ≤ x5 then (if x5 ≤ (x0.length : Int) then ((some (x0.take (x5 : Int).toNat : List (List Int))).bind fun y422 => (if y419.length + y422.length < 5864062014805 then ((some (y419 ++ y422 : List (List Int))).bind fun y427 => ((some (([x1] : List (List Int)) : List (List Int))).bind fun y430 => (if y427.length + y430.length < 5864062014805 then ((some (y427 ++ y430 : List (List Int))).bind fun y433 => ((some (x0.drop (x5 : Int).toNat : List (List Int))).bind fun y436 => (if y433.length + y436.length < 5864062014805 then (some (y433 ++ y436)) else (none)))) else (none)))) else (none))) else (none)) else (none)))
def spec_l6lPut.f (k : Nat) (l0 : List (List Int)) (l1 : List Int) : Option ((List (List Int))) := spec_l6lPut.l0 k l0 l1 0
def spec_l6lPut.T4 : Bool × List (List Nat × List Nat) := (true, [([], []), ([], []), ([], []), ([1, 2], [1, 2]), ([0, 3], [0, 3]), ([], []), ([5], [5]), ([4, 6, 4], [4, 6]), ([], []), ([], []), ([8, 9], [8, 9]), ([7, 10, 7], [7, 10]), ([11, 11, 0, 1, 2, 3, 4, 5, 6, 7, 8, 9, 10, 11], [11])])
def spec_l6lPut.B4 : List Nat := [0, 0, 0, 6, 15, 0, 32, 127, 0, 0, 768, 2047, 4095]
theorem spec_l6lPut.tab4 : rtab .any (opsOf Try.f65 4) = spec_l6lPut.T4 := by kernel_rfl
theorem spec_l6lPut.bits4 : waitsOk spec_l6lPut.T4.2 spec_l6lPut.B4 = true := by kernel_rfl
set_option maxHeartbeats 8000000 in
set_option maxRecDepth 100000 in
theorem spec_l6lPut.calls (k : Nat) (P0_ : Nat → Prop) (A0 : Option Addr) (c0 : Nat) (l0 : List (List Int)) (P1_ : Nat → Prop) (A1 : Option Addr) (c1 : Nat) (l1 : List Int) (r : List (List Int)) (w : World) (hs0 : Kd.V (Kd.slice 3 (Kd.int .i64)) 23 w w.heap.size (fun k_ => P0_ k_) (.slice A0 l0.length c0) l0) (hs1 : Kd.V (Kd.int .i64) 3 w w.heap.size (fun k_ => P1_ k_) (.slice A1 l1.length c1) l1) (h : spec_l6lPut.f k l0 l1 = some r) :
  Calls Try.prog 65 #[.slice A0 l0.length c0, .slice A1 l1.length c1] w fun e w' => ∃ v0_ : Value, e = .returned (v0_) ∧ Kd.N (Kd.slice 3 (Kd.int .i64)) 23 w' w.heap.size (fun k_ => ((P0_ k_ ∨ P1_ k_) ∨ w.heap.size ≤ k_)) v0_ r ∧ Below w.heap.size w w' := by
 have HO0 := Aside0.mk (show Kd.V (Kd.slice 3 (Kd.int .i64)) 23 w w.heap.size (fun k_ => ((P0_ k_ ∨ P1_ k_) ∨ w.heap.size ≤ k_)) (.slice A0 l0.length c0) l0 from Kd.V_mono hs0 (fun k_ hk => .inl (.inl hk)))
 have HO1 := Aside0.mk (show Kd.V (Kd.int .i64) 3 w w.heap.size (fun k_ => ((P0_ k_ ∨ P1_ k_) ∨ w.heap.size ≤ k_)) (.slice A1 l1.length c1) l1 from Kd.V_mono hs1 (fun k_ hk => .inl (.inr hk)))
 have HB := Aside0.mk (Below.refl w.heap.size w)
 have H : (spec_l6lPut.l0 k l0 l1 0) = some r := h
 clear h
 have H' := Aside0.mk H
 clear H
 go_enter Try.func65, Try.ntmps65
 go_wp2
 go_loopg [5] k (fun kq v5 w' => ∃ (x5_1 : Int), v5 = .int .i64 x5_1 ∧ Aside0 (spec_l6lPut.l0 kq l0 l1 x5_1 = some r) ∧ Aside0 (kq ≤ k) ∧ Aside0 (Kd.V (Kd.slice 3 (Kd.int .i64)) 23 w' w.heap.size (fun k_ => ((P0_ k_ ∨ P1_ k_) ∨ w.heap.size ≤ k_)) (.slice A0 l0.length c0) l0) ∧ Aside0 (Kd.V (Kd.int .i64) 3 w' w.heap.size (fun k_ => ((P0_ k_ ∨ P1_ k_) ∨ w.heap.size ≤ k_)) (.slice A1 l1.length c1) l1) ∧ Aside0 (Below w.heap.size w w'))
 case atStart => exact ⟨(0), (by first | rfl | (simp; done) | (simp [*]; done)), H', ⟨Nat.le_refl _⟩, ⟨by (with_reducible repeat (first | apply Kd.V_alloc | apply Kd.V_drewN | apply Kd.V_drew)); exact HO0.out⟩, ⟨by (with_reducible repeat (first | apply Kd.V_alloc | apply Kd.V_drewN | apply Kd.V_drew)); exact HO1.out⟩, ⟨by repeat (first | (with_reducible first | exact HB.out | apply below_alloc | apply pw_below_drewN | apply below_drew1) | exact HB.out)⟩⟩
 case round =>
  clear H'
  try clear c1
  try clear p2
  obtain ⟨x5_1, rfl, HA, HK1, HO_0, HO_1, HB⟩ := hrel
  cases gk with
  | zero => exact absurd HA.out (by simp [spec_l6lPut.l0])
  | succ k1 =>
   have H := HA.out
   clear HA
   simp only [spec_l6lPut.l0] at H
   by_cases c3 : x5_1 < (l0.length : Int)
   ·rw [if_pos c3] at H
    have c3b0 : decide (x5_1 < (l0.length : Int)) = true := decide_eq_true c3
    clear c3
    by_cases c4 : 0 ≤ x5_1
    ·rw [if_pos c4] at H
     have c4b0 : decide (0 ≤ x5_1) = true := decide_eq_true c4
     clear c4
     replace H := Option.bind_eq_some_iff.mp H
     obtain ⟨t393, A50, H⟩ := H
     replace H : (if t393 = true then (spec_l6lPut.l0 k1 l0 l1 (wrap64 (x5_1 + 1))) else ((some (([] : List (List Int)) : List (List Int))).bind fun y394 => (if x5_1 ≤ (l0.length : Int) then ((some (l0.take (x5_1 : Int).toNat : List (List Int))).bind fun y397 => (if y394.length + y397.length < 5864062014805 then ((some (y394 ++ y397 : List (List Int))).bind fun y402 => ((some (([l1] : List (List Int)) : List (List Int))).bind fun y405 => (if y402.length + y405.length < 5864062014805 then ((some (y402 ++ y405 : List (List Int))).bind fun y408 => ((some (l0.drop (x5_1 : Int).toNat : List (List Int))).bind fun y411 => (if y408.length + y411.length < 5864062014805 then (some (y408 ++ y411)) else (none)))) else (none)))) else (none))) else (none)))) = some r := H
     have A5 := Aside0.mk A50
     clear A50
     by_cases c6 : t393 = true
     ·subst c6
      have H1 : (spec_l6lPut.l0 k1 l0 l1 (wrap64 (x5_1 + 1))) = some r := by rw [if_pos rfl] at H; exact H
      clear H
      have H := H1
      clear H1
      have H' := Aside0.mk H
      clear H
      have p392 : 0 ≤ (x5_1 : Int) := dd_
      have q392 : x5_1 < (l0.length : Int) := dd_
      obtain ⟨ad392, A392_0, c392_0, e392, hx392_0, hl392_0, hi392_0⟩ := at_LI (Kd.V_reads' HO_0.out).2.2 x5_1 p392 q392
      cases e392
      obtain ⟨ce392, hce392, hMe392, hcc392⟩ := Kd.V_get HO_0.out [] x5_1 p392 (by first | exact q392 | exact dd_ | (have e_ := (Kd.V_reads' HO_0.out).1; omega))
      obtain ⟨ua392_0, uc392_0, rfl, ul392_0, ge392_0⟩ := Kd.FK_slice_open hMe392
      have hv392_0 := hcc392 0 _ rfl
      rw [Nat.add_zero, show ((Kd.slice 3 (Kd.int .i64))).sz = 1 from rfl, Nat.mul_one] at hv392_0
      replace hv392_0 := Option.some.inj (hv392_0.symm.trans hx392_0)
      injection hv392_0 with hva_ hvn_ hvc_
      rw [hva_] at ge392_0
      rw [hvc_] at ul392_0
      have HL392_0 := Aside0.mk (show Kd.V (Kd.int .i64) 3 _ w.heap.size _ _ (rd_LI l0 x5_1) from Kd.V_mk ul392_0 ge392_0)
      clear hva_ hvn_ hvc_ ge392_0 ul392_0
      clear hcc392 hce392
      have HR392_0 := Aside0.mk hi392_0
      have HC392_0 := Aside0.mk hl392_0
      clear hi392_0 hl392_0
      replace p392 := eq_true p392
      replace q392 := eq_true q392
      go_wp2_with (first | (go_at_call 93; (with_reducible refine (spec_l6lLess.calls k1 _ _ (rd_LI l0 x5_1) _ _ l1 true _ ?side1 ?side2 ?side3 ?side4 A5.out).mono ?_); (case side1 => repeat (first | exact (by repeat (first | (with_reducible exact HR392_0.out) | (with_reducible refine Kd.C_alloc ?_ _) | (with_reducible refine Kd.C_drewN ?_ _) | (with_reducible refine Kd.C_drew ?_) | exact HR392_0.out)) | (with_reducible refine Kd.C_alloc ?_ _) | (with_reducible refine Kd.C_drewN ?_ _) | (with_reducible refine Kd.C_drew ?_))); (case side2 => exact HC392_0.out); (case side3 => repeat (first | exact (Kd.V_reads' HO_1.out).2.2 | (with_reducible refine Kd.C_alloc ?_ _) | (with_reducible refine Kd.C_drewN ?_ _) | (with_reducible refine Kd.C_drew ?_))); (case side4 => exact (Kd.V_reads' HO_1.out).2.1); rintro e w' ⟨rfl, ⟨nd, rfl⟩⟩))
      go_roundg k1
      case measure => have := HK1.out; omega
      case rel => exact ⟨(wrap64 (x5_1 + 1)), (by first | rfl | (simp; done) | (simp [*]; done)), H', ⟨by have := HK1.out; omega⟩, ⟨by (with_reducible repeat (first | apply Kd.V_alloc | apply Kd.V_drewN | apply Kd.V_drew)); exact HO_0.out⟩, ⟨by (with_reducible repeat (first | apply Kd.V_alloc | apply Kd.V_drewN | apply Kd.V_drew)); exact HO_1.out⟩, ⟨by repeat (first | (with_reducible first | exact HB.out | apply below_alloc | apply pw_below_drewN | apply below_drew1) | exact HB.out)⟩⟩
     ·replace c6 := Bool.eq_false_iff.mpr c6
      subst c6
      have H1 : ((some (([] : List (List Int)) : List (List Int))).bind fun y394 => (if x5_1 ≤ (l0.length : Int) then ((some (l0.take (x5_1 : Int).toNat : List (List Int))).bind fun y397 => (if y394.length + y397.length < 5864062014805 then ((some (y394 ++ y397 : List (List Int))).bind fun y402 => ((some (([l1] : List (List Int)) : List (List Int))).bind fun y405 => (if y402.length + y405.length < 5864062014805 then ((some (y402 ++ y405 : List (List Int))).bind fun y408 => ((some (l0.drop (x5_1 : Int).toNat : List (List Int))).bind fun y411 => (if y408.length + y411.length < 5864062014805 then (some (y408 ++ y411)) else (none)))) else (none)))) else (none))) else (none))) = some r := by rw [if_neg (show ¬ (false = true) by decide)] at H; exact H
      clear H
      have H := H1
      clear H1
      obtain ⟨y394, hy394⟩ : ∃ y_ : List (List Int), y_ = (([] : List (List Int))) := ⟨_, rfl⟩
      replace H : (if x5_1 ≤ (l0.length : Int) then ((some (l0.take (x5_1 : Int).toNat : List (List Int))).bind fun y397 => (if y394.length + y397.length < 5864062014805 then ((some (y394 ++ y397 : List (List Int))).bind fun y402 => ((some (([l1] : List (List Int)) : List (List Int))).bind fun y405 => (if y402.length + y405.length < 5864062014805 then ((some (y402 ++ y405 : List (List Int))).bind fun y408 => ((some (l0.drop (x5_1 : Int).toNat : List (List Int))).bind fun y411 => (if y408.length + y411.length < 5864062014805 then (some (y408 ++ y411)) else (none)))) else (none)))) else (none))) else (none)) = some r := by first | (rw [hy394]; with_reducible exact H) | (have H2_ := (Option.bind_some _ _).symm.trans H; rw [hy394]; with_reducible exact H2_) | (have H2_ := (Option.bind_some _ _).symm.trans H; with_reducible exact H2_) | with_reducible exact H | (rw [hy394]; exact H) | exact H
      have Ny394 := Aside0.mk hy394
      clear hy394
      have c7b0 := eq_true (dd_ : 0 ≤ x5_1)
      by_cases c8 : x5_1 ≤ (l0.length : Int)
      ·rw [if_pos c8] at H
       have c8b0 := eq_true c8
       have c8b1 : decide (x5_1 ≤ (l0.length : Int)) = true := decide_eq_true c8
       clear c8
       obtain ⟨y397, hy397⟩ : ∃ y_ : List (List Int), y_ = (l0.take (x5_1 : Int).toNat) := ⟨_, rfl⟩
       replace H : (if y394.length + y397.length < 5864062014805 then ((some (y394 ++ y397 : List (List Int))).bind fun y402 => ((some (([l1] : List (List Int)) : List (List Int))).bind fun y405 => (if y402.length + y405.length < 5864062014805 then ((some (y402 ++ y405 : List (List Int))).bind fun y408 => ((some (l0.drop (x5_1 : Int).toNat : List (List Int))).bind fun y411 => (if y408.length + y411.length < 5864062014805 then (some (y408 ++ y411)) else (none)))) else (none)))) else (none)) = some r := by first | (rw [hy397]; with_reducible exact H) | (have H2_ := (Option.bind_some _ _).symm.trans H; rw [hy397]; with_reducible exact H2_) | (have H2_ := (Option.bind_some _ _).symm.trans H; with_reducible exact H2_) | with_reducible exact H | (rw [hy397]; exact H) | exact H
       have Ny397 := Aside0.mk hy397
       clear hy397
       by_cases c9 : y394.length + y397.length < 5864062014805
       ·rw [if_pos c9] at H
        have LMc9 := Aside0.mk c9
        clear c9
        obtain ⟨y402, hy402⟩ : ∃ y_ : List (List Int), y_ = (y394 ++ y397) := ⟨_, rfl⟩
        replace H : ((some (([l1] : List (List Int)) : List (List Int))).bind fun y405 => (if y402.length + y405.length < 5864062014805 then ((some (y402 ++ y405 : List (List Int))).bind fun y408 => ((some (l0.drop (x5_1 : Int).toNat : List (List Int))).bind fun y411 => (if y408.length + y411.length < 5864062014805 then (some (y408 ++ y411)) else (none)))) else (none))) = some r := by first | (rw [hy402]; with_reducible exact H) | (have H2_ := (Option.bind_some _ _).symm.trans H; rw [hy402]; with_reducible exact H2_) | (have H2_ := (Option.bind_some _ _).symm.trans H; with_reducible exact H2_) | with_reducible exact H | (rw [hy402]; exact H) | exact H
        have Ny402 := Aside0.mk hy402
        clear hy402
        obtain ⟨y405, hy405⟩ : ∃ y_ : List (List Int), y_ = (([l1] : List (List Int))) := ⟨_, rfl⟩
        replace H : (if y402.length + y405.length < 5864062014805 then ((some (y402 ++ y405 : List (List Int))).bind fun y408 => ((some (l0.drop (x5_1 : Int).toNat : List (List Int))).bind fun y411 => (if y408.length + y411.length < 5864062014805 then (some (y408 ++ y411)) else (none)))) else (none)) = some r := by first | (rw [hy405]; with_reducible exact H) | (have H2_ := (Option.bind_some _ _).symm.trans H; rw [hy405]; with_reducible exact H2_) | (have H2_ := (Option.bind_some _ _).symm.trans H; with_reducible exact H2_) | with_reducible exact H | (rw [hy405]; exact H) | exact H
        have Ny405 := Aside0.mk hy405
        clear hy405
        by_cases c10 : y402.length + y405.length < 5864062014805
        ·rw [if_pos c10] at H
         have LMc10 := Aside0.mk c10
         clear c10
         obtain ⟨y408, hy408⟩ : ∃ y_ : List (List Int), y_ = (y402 ++ y405) := ⟨_, rfl⟩
         replace H : ((some (l0.drop (x5_1 : Int).toNat : List (List Int))).bind fun y411 => (if y408.length + y411.length < 5864062014805 then (some (y408 ++ y411)) else (none))) = some r := by first | (rw [hy408]; with_reducible exact H) | (have H2_ := (Option.bind_some _ _).symm.trans H; rw [hy408]; with_reducible exact H2_) | (have H2_ := (Option.bind_some _ _).symm.trans H; with_reducible exact H2_) | with_reducible exact H | (rw [hy408]; exact H) | exact H
         have Ny408 := Aside0.mk hy408
         clear hy408
         have c11b0 := eq_true (dd_ : 0 ≤ x5_1)
         have c12b0 := eq_true (dd_ : x5_1 ≤ (l0.length : Int))
         obtain ⟨y411, hy411⟩ : ∃ y_ : List (List Int), y_ = (l0.drop (x5_1 : Int).toNat) := ⟨_, rfl⟩
         replace H : (if y408.length + y411.length < 5864062014805 then (some (y408 ++ y411)) else (none)) = some r := by first | (rw [hy411]; with_reducible exact H) | (have H2_ := (Option.bind_some _ _).symm.trans H; rw [hy411]; with_reducible exact H2_) | (have H2_ := (Option.bind_some _ _).symm.trans H; with_reducible exact H2_) | with_reducible exact H | (rw [hy411]; exact H) | exact H
         have Ny411 := Aside0.mk hy411
         clear hy411
         by_cases c13 : y408.length + y411.length < 5864062014805
         ·rw [if_pos c13] at H
          have LMc13 := Aside0.mk c13
          clear c13
          obtain ⟨y416, hy416⟩ : ∃ y_ : List (List Int), y_ = (y408 ++ y411) := ⟨_, rfl⟩
          replace H : (some y416) = some r := by first | (rw [hy416]; with_reducible exact H) | (have H2_ := (Option.bind_some _ _).symm.trans H; rw [hy416]; with_reducible exact H2_) | (have H2_ := (Option.bind_some _ _).symm.trans H; with_reducible exact H2_) | with_reducible exact H | (rw [hy416]; exact H) | exact H
          have Ny416 := Aside0.mk hy416
          clear hy416
          obtain rfl := Option.some.inj H
          have p392 : 0 ≤ (x5_1 : Int) := dd_
          have q392 : x5_1 < (l0.length : Int) := dd_
          obtain ⟨ad392, A392_0, c392_0, e392, hx392_0, hl392_0, hi392_0⟩ := at_LI (Kd.V_reads' HO_0.out).2.2 x5_1 p392 q392
          cases e392
          obtain ⟨ce392, hce392, hMe392, hcc392⟩ := Kd.V_get HO_0.out [] x5_1 p392 (by first | exact q392 | exact dd_ | (have e_ := (Kd.V_reads' HO_0.out).1; omega))
          obtain ⟨ua392_0, uc392_0, rfl, ul392_0, ge392_0⟩ := Kd.FK_slice_open hMe392
          have hv392_0 := hcc392 0 _ rfl
          rw [Nat.add_zero, show ((Kd.slice 3 (Kd.int .i64))).sz = 1 from rfl, Nat.mul_one] at hv392_0
          replace hv392_0 := Option.some.inj (hv392_0.symm.trans hx392_0)
          injection hv392_0 with hva_ hvn_ hvc_
          rw [hva_] at ge392_0
          rw [hvc_] at ul392_0
          have HL392_0 := Aside0.mk (show Kd.V (Kd.int .i64) 3 _ w.heap.size _ _ (rd_LI l0 x5_1) from Kd.V_mk ul392_0 ge392_0)
          clear hva_ hvn_ hvc_ ge392_0 ul392_0
          clear hcc392 hce392
          have HR392_0 := Aside0.mk hi392_0
          have HC392_0 := Aside0.mk hl392_0
          clear hi392_0 hl392_0
          replace p392 := eq_true p392
          replace q392 := eq_true q392
          try go_wp2_with (first | (go_at_call 93; (with_reducible refine (spec_l6lLess.calls k1 _ _ (rd_LI l0 x5_1) _ _ l1 false _ ?side1 ?side2 ?side3 ?side4 A5.out).mono ?_); (case side1 => repeat (first | exact (by repeat (first | (with_reducible exact HR392_0.out) | (with_reducible refine Kd.C_alloc ?_ _) | (with_reducible refine Kd.C_drewN ?_ _) | (with_reducible refine Kd.C_drew ?_) | exact HR392_0.out)) | (with_reducible refine Kd.C_alloc ?_ _) | (with_reducible refine Kd.C_drewN ?_ _) | (with_reducible refine Kd.C_drew ?_))); (case side2 => exact HC392_0.out); (case side3 => repeat (first | exact (Kd.V_reads' HO_1.out).2.2 | (with_reducible refine Kd.C_alloc ?_ _) | (with_reducible refine Kd.C_drewN ?_ _) | (with_reducible refine Kd.C_drew ?_))); (case side4 => exact (Kd.V_reads' HO_1.out).2.1); rintro e w' ⟨rfl, ⟨nd, rfl⟩⟩))
          (try (rw [dself_ wr]; generalize hq_ : World.drewN wr _ = wr; have n0_ : Aside0 (Kd.V (Kd.int .i64) 3 wr w.heap.size (fun k_ => ((P0_ k_ ∨ P1_ k_) ∨ w.heap.size ≤ k_)) (.slice A392_0 (rd_LI l0 x5_1).length c392_0) (rd_LI l0 x5_1)) := ⟨by rw [← hq_]; exact (by (with_reducible repeat (first | apply Kd.V_alloc | apply Kd.V_drewN | apply Kd.V_drew)); exact HL392_0.out)⟩; have n1_ : Aside0 (Kd.V (Kd.slice 3 (Kd.int .i64)) 23 wr w.heap.size (fun k_ => ((P0_ k_ ∨ P1_ k_) ∨ w.heap.size ≤ k_)) (.slice (some ad392) l0.length c0) l0) := ⟨by rw [← hq_]; exact (by (with_reducible repeat (first | apply Kd.V_alloc | apply Kd.V_drewN | apply Kd.V_drew)); exact HO_0.out)⟩; have n2_ : Aside0 (Kd.V (Kd.int .i64) 3 wr w.heap.size (fun k_ => ((P0_ k_ ∨ P1_ k_) ∨ w.heap.size ≤ k_)) (.slice A1 l1.length c1) l1) := ⟨by rw [← hq_]; exact (by (with_reducible repeat (first | apply Kd.V_alloc | apply Kd.V_drewN | apply Kd.V_drew)); exact HO_1.out)⟩; have n3_ : Aside0 (Below w.heap.size w wr) := ⟨by rw [← hq_]; exact (bb_ HB)⟩; have n4_ : Aside0 (Kd.C (Kd.int .i64) wr A392_0 (rd_LI l0 x5_1).length (rd_LI l0 x5_1)) := ⟨by rw [← hq_]; exact (by repeat (first | (with_reducible exact HR392_0.out) | (with_reducible refine Kd.C_alloc ?_ _) | (with_reducible refine Kd.C_drewN ?_ _) | (with_reducible refine Kd.C_drew ?_) | exact HR392_0.out))⟩; clear HL392_0 HO_0 HO_1 HB HR392_0 hq_; have HL392_0 := n0_; have HO_0 := n1_; have HO_1 := n2_; have HB := n3_; have HR392_0 := n4_; clear n0_ n1_ n2_ n3_ n4_))
          have n0_ := Aside0.mk (Kd.V_drew HO_0.out)
          have n1_ := Aside0.mk (Kd.V_drew HO_1.out)
          have n2_ := Aside0.mk (Kd.V_drew HL392_0.out)
          have n3_ := Aside0.mk (Kd.C_drew HR392_0.out)
          have n4_ := Aside0.mk (below_drew1 HB.out)
          clear HO_0
          clear HO_1
          clear HL392_0
          clear HR392_0
          clear HB
          have HO_0 := n0_
          have HO_1 := n1_
          have HL392_0 := n2_
          have HR392_0 := n3_
          have HB := n4_
          clear n0_ n1_ n2_ n3_ n4_
          have q15 : (x5_1 : Int) ≤ ((l0.length : Int) : Int) := dd_
          obtain ⟨i015, hi015, _, hsz15, _⟩ := info_parts info23
          have hroom15 : l0.length ≤ c0 := (Kd.V_reads' HO_0.out).2.1
          have hC15 : Kd.F (Kd.slice 3 (Kd.int .i64)) _ _ (some ad392) l0.length l0 := (Kd.V_at (base := w.heap.size) HO_0.out).2.2
          have hcut15 := cut_to (P := Try.prog) 32 23 .i64 Try.underlying32 hi015 (some ad392) l0.length c0 x5_1 (dd_) q15 hroom15
          have hr15 := Kd.F_take (m := (x5_1 : Int).toNat) hC15 (by omega)
          have hy15 : y397.length = (x5_1 : Int).toNat := (by rw [Ny397.out, List.length_take]; omega)
          rw [← Ny397.out] at hr15
          rw [← hy15] at hcut15
          have HO401 := Aside0.mk (show Kd.V (Kd.slice 3 (Kd.int .i64)) 23 _ w.heap.size _ (.slice (some ad392) y397.length c0) y397 from Kd.V_mk (by omega) hr15)
          have HC401 := Aside0.mk (show y397.length ≤ c0 from by omega)
          clear hr15 hC15 hroom15 hi015 hsz15
          have KY15 := Aside0.mk hy15
          clear hy15
          replace q15 := eq_true q15
          have q16 : (x5_1 : Int) ≤ ((l0.length : Int) : Int) := dd_
          obtain ⟨i016, hi016, _, hsz16, _⟩ := info_parts info23
          have hroom16 : l0.length ≤ c0 := (Kd.V_reads' HO_0.out).2.1
          have hC16 : Kd.F (Kd.slice 3 (Kd.int .i64)) _ _ (some ad392) l0.length l0 := (Kd.V_at (base := w.heap.size) HO_0.out).2.2
          have q016 : (0 : Int) ≤ (x5_1 : Int) := dd_
          have hcut16 := cut_from (P := Try.prog) 32 23 .i64 Try.underlying32 hi016 1 hsz16 (some ad392) l0.length c0 x5_1 q016 q16
          have hr16 := Kd.F_cut (m := (x5_1 : Int).toNat) (c := c0) hC16 (by omega) hroom16
          obtain ⟨A16, hA16⟩ : ∃ A1, A1 = (if c0 = (x5_1 : Int).toNat then (some ad392) else ((some ad392) : Option Addr).map (·.add ((x5_1 : Int).toNat * 1))) := ⟨_, rfl⟩
          obtain ⟨c16, hc16⟩ : ∃ c1, c1 = c0 - (x5_1 : Int).toNat := ⟨_, rfl⟩
          have hy16 : y411.length = l0.length - (x5_1 : Int).toNat := (by rw [Ny411.out, List.length_drop] <;> omega)
          rw [show (l0).drop (x5_1 : Int).toNat = y411 from Ny411.out.symm] at hr16
          replace hr16 : Kd.F (Kd.slice 3 (Kd.int .i64)) _ _ A16 y411.length y411 := (by rw [hA16]; exact hr16)
          rw [← hy16, ← hA16, ← hc16] at hcut16
          have HO415 := Aside0.mk (show Kd.V (Kd.slice 3 (Kd.int .i64)) 23 _ w.heap.size _ (.slice A16 y411.length c16) y411 from Kd.V_mk (by rw [hy16, hc16]; exact Nat.sub_le_sub_right hroom16 _) hr16)
          have HC415 := Aside0.mk (show y411.length ≤ c16 from by rw [hy16, hc16]; exact Nat.sub_le_sub_right hroom16 _)
          clear hr16 hC16 hroom16 hi016 hsz16 hc16
          have KY16 := Aside0.mk hy16
          have KA16 := Aside0.mk hA16
          clear hy16 hA16
          replace q16 := eq_true q16
          refine start_ (n := 13) (S := fun w' => True) (ds := []) #[F_,F_,F_,F_,F_,F_,F_,F_,F_,F_,F_,F_,F_] (by kernel_rfl) rfl rfl trivial (fun hHeld => ?_); refine with_tabW spec_l6lPut.tab4 spec_l6lPut.bits4 (fun HT_ HW_ => ?_)
          generalize wr.drew = w14 at HO_0 HO_1 HL392_0 HR392_0 HB HO401 HO415 hHeld ⊢
          refine p_ 1 21 (m_ 13 2) HT_.out ?_
          refine p_ 2 22 (m_ 13 6) HT_.out ?_
          refine p_ 3 23 (m_ 13 14) HT_.out ?_
          refine p_ 5 25 (m_ 13 46) HT_.out ?_
          refine p_ 8 28 (m_ 13 302) HT_.out ?_
          refine p_ 9 29 (m_ 13 814) HT_.out ?_
          refine p_ 10 30 (m_ 13 1838) HT_.out ?_
          refine join_ (σ := Value × Value × Value) 3 (m_ 13 1919) (fun s_ => [(20, s_.1), (24, s_.2.1), (26, s_.2.2)]) (fun s_ w' => (Kd.V (Kd.int .i64) 3 w' w.heap.size (fun k_ => ((P0_ k_ ∨ P1_ k_) ∨ w.heap.size ≤ k_) ∧ some k_ ≠ (s_.2.1 : Value).ownBlock ∧ some k_ ≠ (s_.2.2 : Value).ownBlock) (.slice A392_0 (rd_LI l0 x5_1).length c392_0) (rd_LI l0 x5_1)) ∧ (Kd.V (Kd.slice 3 (Kd.int .i64)) 23 w' w.heap.size (fun k_ => ((P0_ k_ ∨ P1_ k_) ∨ w.heap.size ≤ k_) ∧ some k_ ≠ (s_.2.1 : Value).ownBlock ∧ some k_ ≠ (s_.2.2 : Value).ownBlock) (.slice (some ad392) y397.length c0) y397) ∧ (Kd.N (Kd.slice 3 (Kd.int .i64)) 23 w' w.heap.size (fun k_ => ((P0_ k_ ∨ P1_ k_) ∨ w.heap.size ≤ k_) ∧ some k_ ≠ (s_.2.2 : Value).ownBlock) s_.2.1 y402) ∧ (Kd.N (Kd.slice 3 (Kd.int .i64)) 23 w' w.heap.size (fun k_ => ((P0_ k_ ∨ P1_ k_) ∨ w.heap.size ≤ k_) ∧ some k_ ≠ (s_.2.1 : Value).ownBlock) s_.2.2 y405) ∧ (Kd.V (Kd.slice 3 (Kd.int .i64)) 23 w' w.heap.size (fun k_ => ((P0_ k_ ∨ P1_ k_) ∨ w.heap.size ≤ k_) ∧ some k_ ≠ (s_.2.1 : Value).ownBlock ∧ some k_ ≠ (s_.2.2 : Value).ownBlock) (.slice A16 y411.length c16) y411) ∧ (Kd.V (Kd.slice 3 (Kd.int .i64)) 23 w' w.heap.size (fun k_ => ((P0_ k_ ∨ P1_ k_) ∨ w.heap.size ≤ k_) ∧ some k_ ≠ (s_.2.1 : Value).ownBlock ∧ some k_ ≠ (s_.2.2 : Value).ownBlock) (.slice (some ad392) l0.length c0) l0) ∧ (Kd.V (Kd.int .i64) 3 w' w.heap.size (fun k_ => ((P0_ k_ ∨ P1_ k_) ∨ w.heap.size ≤ k_) ∧ some k_ ≠ (s_.2.1 : Value).ownBlock ∧ some k_ ≠ (s_.2.2 : Value).ownBlock) (.slice A1 l1.length c1) l1) ∧ (Below w.heap.size w w')) ?_ ?_
          rotate_left
          ·intro hCont
           refine two_ (i := 0) (j := 6) (Ni := some 20) (Nj := some 26) (m_ 13 1839) (m_ 13 1902) rfl rfl rfl rfl (two_of HT_.out (by kernel_rfl)) (by decide) (by decide) (fun K hK => ?_) (fun K hK => ?_)
           ·skip
            refine Kd.N_lit_step (Kd.slice 3 (Kd.int .i64)) _ 23 ?hg (N' := 20) ?hd (xs := ([] : List (List Int))) (inner := []) (ok := (fun k_ => ((P0_ k_ ∨ P1_ k_) ∨ w.heap.size ≤ k_))) (okp := (fun k_ => ((P0_ k_ ∨ P1_ k_) ∨ w.heap.size ≤ k_))) ?hr ?hp (fun _ hk => hk) ((show ∀ k_, w14.heap.size ≤ k_ → (fun k_ => ((P0_ k_ ∨ P1_ k_) ∨ w.heap.size ≤ k_)) k_ from fun k_ hk => (.inr (Nat.le_trans (below_size (bb_ HB)) hk))) _ (Nat.le_refl _)) (Below.refl _ _) (Nat.le_refl _) (by simp) ?_; (case hd => rfl); (case hg => rfl); (case hr => first | (go_simp; done) | (go_simp; rfl)); (case hp => exact (Reps.none _ _))
            intro v395 w17 ho18 hb hg_ hnew_
            clear hg_ hnew_
            (first | rw [← Ny394.out] at ho18 | (simp only [Int.reduceToNat] at ho18; rw [← Ny394.out] at ho18))
            have n0_ := Aside0.mk (Kd.V_elder' (by (with_reducible repeat (first | apply Kd.V_alloc | apply Kd.V_drewN | apply Kd.V_drew)); exact HO_0.out) (Kd.N_base ho18) hb)
            have n1_ := Aside0.mk (Kd.V_elder' (by (with_reducible repeat (first | apply Kd.V_alloc | apply Kd.V_drewN | apply Kd.V_drew)); exact HO_1.out) (Kd.N_base ho18) hb)
            have n2_ := Aside0.mk (Kd.V_elder' (by (with_reducible repeat (first | apply Kd.V_alloc | apply Kd.V_drewN | apply Kd.V_drew)); exact HL392_0.out) (Kd.N_base ho18) hb)
            have n3_ := Aside0.mk (Kd.V_elder' (by (with_reducible repeat (first | apply Kd.V_alloc | apply Kd.V_drewN | apply Kd.V_drew)); exact HO401.out) (Kd.N_base ho18) hb)
            have n4_ := Aside0.mk (Kd.V_elder' (by (with_reducible repeat (first | apply Kd.V_alloc | apply Kd.V_drewN | apply Kd.V_drew)); exact HO415.out) (Kd.N_base ho18) hb)
            have n5_ := Aside0.mk (Kd.N_lower ho18 (below_size (bb_ HB)))
            have n6_ := Aside0.mk (Kd.C_below (by repeat (first | (with_reducible exact HR392_0.out) | (with_reducible refine Kd.C_alloc ?_ _) | (with_reducible refine Kd.C_drewN ?_ _) | (with_reducible refine Kd.C_drew ?_) | exact HR392_0.out)) hb)
            have n7_ := Aside0.mk (below_step (bb_ HB) hb)
            clear HO_0
            clear HO_1
            clear HL392_0
            clear HO401
            clear HO415
            clear HR392_0
            clear HB
            have HO_0 := n0_
            have HO_1 := n1_
            have HL392_0 := n2_
            have HO401 := n3_
            have HO415 := n4_
            have HO396 := n5_
            have HR392_0 := n6_
            have HB := n7_
            clear n0_ n1_ n2_ n3_ n4_ n5_ n6_ n7_
            clear hb ho18
            refine hK.out _ _ trivial (fun hHeld => ?_)
            clear hK K
            refine norm_ (a' := ?_) ?_ ?_; rotate_left; (show Act.put _ (some 20) _ = _; simp only [Act.put, List.setIfInBounds_toArray, List.set_cons_zero, List.set_cons_succ, i64_w, i32_w]; rfl)
            refine two_ (i := 4) (j := 6) (Ni := some 24) (Nj := some 26) (m_ 13 1855) (m_ 13 1903) rfl rfl rfl rfl (two_of HT_.out (by kernel_rfl)) (by decide) (by decide) (fun K hK => ?_) (fun K hK => ?_)
            ·skip
             refine Kd.N_append_rows_step (Kd.slice 3 (Kd.int .i64)) (w0 := w) w.heap.size (by rfl) (.tmp 20) (.tmp 23) 32 23 (.slice none 0 0) 24 rfl Try.underlying32 info23 rfl (by decide) (by omega) v395 y394 y397 _ _ _ (fun k_ => ((P0_ k_ ∨ P1_ k_) ∨ w.heap.size ≤ k_)) (fun k_ => ((fun k_ => ((P0_ k_ ∨ P1_ k_) ∨ w.heap.size ≤ k_))) k_ ∧ some k_ ≠ (v395 : Value).ownBlock) rfl rfl ?aO ?aR (fun _ hk => hk) ?aF ?aB ?aS ?aL ?_
             (case aR => exact (by skip; exact Kd.V_F (Kd.V_mono (ok' := (fun k_ => ((fun k_ => ((P0_ k_ ∨ P1_ k_) ∨ w.heap.size ≤ k_))) k_ ∧ some k_ ≠ (v395 : Value).ownBlock)) (HO401.out) (fun k_ hk => ⟨hk.1, hk.2⟩))))
             (case aB => exact (bb_ HB))
             (case aF => exact (fun k_ hk => (.inr (Nat.le_trans (below_size (bb_ HB)) hk))))
             (case aO => exact (by (with_reducible repeat (first | apply Kd.N_alloc | apply Kd.N_drewN | apply Kd.N_drew)); exact HO396.out))
             (case aS => exact (below_size (bb_ HB)))
             (case aL => have := LMc9.out; omega)
             intro v403 w19 ho hb hg hat
             rw [← Ny402.out] at ho
             have n0_ := Aside0.mk (Kd.V_afterv (ok := (fun k_ => ((P0_ k_ ∨ P1_ k_) ∨ w.heap.size ≤ k_))) (by (with_reducible repeat (first | apply Kd.V_alloc | apply Kd.V_drewN | apply Kd.V_drew)); exact HO_0.out) hg hat)
             have n1_ := Aside0.mk (Kd.V_afterv (ok := (fun k_ => ((P0_ k_ ∨ P1_ k_) ∨ w.heap.size ≤ k_))) (by (with_reducible repeat (first | apply Kd.V_alloc | apply Kd.V_drewN | apply Kd.V_drew)); exact HO_1.out) hg hat)
             have n2_ := Aside0.mk (Kd.V_afterv (ok := (fun k_ => ((P0_ k_ ∨ P1_ k_) ∨ w.heap.size ≤ k_))) (by (with_reducible repeat (first | apply Kd.V_alloc | apply Kd.V_drewN | apply Kd.V_drew)); exact HL392_0.out) hg hat)
             have n3_ := Aside0.mk (Kd.V_afterv (ok := (fun k_ => ((P0_ k_ ∨ P1_ k_) ∨ w.heap.size ≤ k_))) (by (with_reducible repeat (first | apply Kd.V_alloc | apply Kd.V_drewN | apply Kd.V_drew)); exact HO401.out) hg hat)
             have n4_ := Aside0.mk (Kd.V_afterv (ok := (fun k_ => ((P0_ k_ ∨ P1_ k_) ∨ w.heap.size ≤ k_))) (by (with_reducible repeat (first | apply Kd.V_alloc | apply Kd.V_drewN | apply Kd.V_drew)); exact HO415.out) hg hat)
             have n5_ := Aside0.mk (hb)
             have n6_ := Aside0.mk (ho)
             clear HO_0
             clear HO_1
             clear HL392_0
             clear HO401
             clear HO415
             clear HB
             clear HO396
             have HO_0 := n0_
             have HO_1 := n1_
             have HL392_0 := n2_
             have HO401 := n3_
             have HO415 := n4_
             have HB := n5_
             have HO404 := n6_
             clear n0_ n1_ n2_ n3_ n4_ n5_ n6_
             clear ho hb hg hat
             refine hK.out _ _ trivial (fun hHeld => ?_)
             clear hK K
             refine norm_ (a' := ?_) ?_ ?_; rotate_left; (show Act.put _ (some 24) _ = _; simp only [Act.put, List.setIfInBounds_toArray, List.set_cons_zero, List.set_cons_succ, i64_w, i32_w]; rfl)
             refine one_ (i := 6) (N := some 26) (m_ 13 1919) rfl rfl (one_of HT_.out (by kernel_rfl)) (by decide) (fun K hK => ?_)
             refine Kd.N_lit_step (Kd.slice 3 (Kd.int .i64)) _ 23 ?hg (N' := 26) ?hd (xs := ([l1] : List (List Int))) (inner := [.slice A1 l1.length c1]) (ok := (fun k_ => ((P0_ k_ ∨ P1_ k_) ∨ w.heap.size ≤ k_) ∧ some k_ ≠ (v403 : Value).ownBlock)) (okp := (fun k_ => ((P0_ k_ ∨ P1_ k_) ∨ w.heap.size ≤ k_) ∧ some k_ ≠ (v403 : Value).ownBlock)) ?hr ?hp (fun _ hk => hk) ((show ∀ k_, w19.heap.size ≤ k_ → (fun k_ => ((P0_ k_ ∨ P1_ k_) ∨ w.heap.size ≤ k_) ∧ some k_ ≠ (v403 : Value).ownBlock) k_ from fun k_ hk => ⟨(.inr (Nat.le_trans (below_size (bb_ HB)) hk)), Kd.fresh' (Kd.N_lt (by (with_reducible repeat (first | apply Kd.N_alloc | apply Kd.N_drewN | apply Kd.N_drew)); exact HO404.out)) k_ hk⟩) _ (Nat.le_refl _)) (Below.refl _ _) (Nat.le_refl _) (by simp) ?_; (case hd => rfl); (case hg => rfl); (case hr => first | (go_simp; done) | (go_simp; rfl)); (case hp => exact (Reps.one (show Kd.FK (Kd.slice 3 (Kd.int .i64)) _ _ l1 [.slice A1 l1.length c1] from (Kd.FK_slice_mk (Kd.V_reads' (Kd.V_mono (ok' := (fun k_ => ((P0_ k_ ∨ P1_ k_) ∨ w.heap.size ≤ k_) ∧ some k_ ≠ (v403 : Value).ownBlock)) (HO_1.out) (fun k_ hk => ⟨hk.1, hk.2⟩))).2.1 (Kd.V_F (Kd.V_mono (ok' := (fun k_ => ((P0_ k_ ∨ P1_ k_) ∨ w.heap.size ≤ k_) ∧ some k_ ≠ (v403 : Value).ownBlock)) (HO_1.out) (fun k_ hk => ⟨hk.1, hk.2⟩))))) (Reps.none _ _)))
             intro v406 w20 ho21 hb hg_ hnew_
             clear hg_ hnew_
             (first | rw [← Ny405.out] at ho21 | (simp only [Int.reduceToNat] at ho21; rw [← Ny405.out] at ho21))
             have n0_ := Aside0.mk (Kd.V_elder' (by (with_reducible repeat (first | apply Kd.V_alloc | apply Kd.V_drewN | apply Kd.V_drew)); exact HO_0.out) (Kd.N_base ho21) hb)
             have n1_ := Aside0.mk (Kd.V_elder' (by (with_reducible repeat (first | apply Kd.V_alloc | apply Kd.V_drewN | apply Kd.V_drew)); exact HO_1.out) (Kd.N_base ho21) hb)
             have n2_ := Aside0.mk (Kd.V_elder' (by (with_reducible repeat (first | apply Kd.V_alloc | apply Kd.V_drewN | apply Kd.V_drew)); exact HL392_0.out) (Kd.N_base ho21) hb)
             have n3_ := Aside0.mk (Kd.V_elder' (by (with_reducible repeat (first | apply Kd.V_alloc | apply Kd.V_drewN | apply Kd.V_drew)); exact HO401.out) (Kd.N_base ho21) hb)
             have n4_ := Aside0.mk (Kd.V_elder' (by (with_reducible repeat (first | apply Kd.V_alloc | apply Kd.V_drewN | apply Kd.V_drew)); exact HO415.out) (Kd.N_base ho21) hb)
             have n5_ := Aside0.mk (Kd.N_elder' (by (with_reducible repeat (first | apply Kd.N_alloc | apply Kd.N_drewN | apply Kd.N_drew)); exact HO404.out) (Kd.N_base ho21) hb)
             have n6_ := Aside0.mk (Kd.N_lower ho21 (below_size (bb_ HB)))
             have n7_ := Aside0.mk (below_step (bb_ HB) hb)
             clear HO_0
             clear HO_1
             clear HL392_0
             clear HO401
             clear HO415
             clear HO404
             clear HB
             have HO_0 := n0_
             have HO_1 := n1_
             have HL392_0 := n2_
             have HO401 := n3_
             have HO415 := n4_
             have HO404 := n5_
             have HO407 := n6_
             have HB := n7_
             clear n0_ n1_ n2_ n3_ n4_ n5_ n6_ n7_
             clear hb ho21
             refine hK.out _ _ trivial (fun hHeld => ?_)
             clear hK K
             refine norm_ (a' := ?_) ?_ ?_; rotate_left; (show Act.put _ (some 26) _ = _; simp only [Act.put, List.setIfInBounds_toArray, List.set_cons_zero, List.set_cons_succ, i64_w, i32_w]; rfl)
             exact norm_ (by simp only [putAll, Act.put, List.setIfInBounds_toArray, List.set_cons_zero, List.set_cons_succ]) (hCont (v395, v403, v406) _ ⟨(by (with_reducible repeat (first | apply Kd.V_alloc | apply Kd.V_drewN | apply Kd.V_drew)); exact Kd.V_mono HL392_0.out (fun _ hk => ⟨hk.1.1, ⟨hk.1.2, hk.2⟩⟩)), (by (with_reducible repeat (first | apply Kd.V_alloc | apply Kd.V_drewN | apply Kd.V_drew)); exact Kd.V_mono HO401.out (fun _ hk => ⟨hk.1.1, ⟨hk.1.2, hk.2⟩⟩)), (by (with_reducible repeat (first | apply Kd.N_alloc | apply Kd.N_drewN | apply Kd.N_drew)); exact HO404.out), (by (with_reducible repeat (first | apply Kd.N_alloc | apply Kd.N_drewN | apply Kd.N_drew)); exact HO407.out), (by (with_reducible repeat (first | apply Kd.V_alloc | apply Kd.V_drewN | apply Kd.V_drew)); exact Kd.V_mono HO415.out (fun _ hk => ⟨hk.1.1, ⟨hk.1.2, hk.2⟩⟩)), (by (with_reducible repeat (first | apply Kd.V_alloc | apply Kd.V_drewN | apply Kd.V_drew)); exact Kd.V_mono HO_0.out (fun _ hk => ⟨hk.1.1, ⟨hk.1.2, hk.2⟩⟩)), (by (with_reducible repeat (first | apply Kd.V_alloc | apply Kd.V_drewN | apply Kd.V_drew)); exact Kd.V_mono HO_1.out (fun _ hk => ⟨hk.1.1, ⟨hk.1.2, hk.2⟩⟩)), (bb_ HB)⟩)
            ·skip
             refine Kd.N_lit_step (Kd.slice 3 (Kd.int .i64)) _ 23 ?hg (N' := 26) ?hd (xs := ([l1] : List (List Int))) (inner := [.slice A1 l1.length c1]) (ok := (fun k_ => ((P0_ k_ ∨ P1_ k_) ∨ w.heap.size ≤ k_) ∧ some k_ ≠ (v395 : Value).ownBlock)) (okp := (fun k_ => ((P0_ k_ ∨ P1_ k_) ∨ w.heap.size ≤ k_) ∧ some k_ ≠ (v395 : Value).ownBlock)) ?hr ?hp (fun _ hk => hk) ((show ∀ k_, w17.heap.size ≤ k_ → (fun k_ => ((P0_ k_ ∨ P1_ k_) ∨ w.heap.size ≤ k_) ∧ some k_ ≠ (v395 : Value).ownBlock) k_ from fun k_ hk => ⟨(.inr (Nat.le_trans (below_size (bb_ HB)) hk)), Kd.fresh' (Kd.N_lt (by (with_reducible repeat (first | apply Kd.N_alloc | apply Kd.N_drewN | apply Kd.N_drew)); exact HO396.out)) k_ hk⟩) _ (Nat.le_refl _)) (Below.refl _ _) (Nat.le_refl _) (by simp) ?_; (case hd => rfl); (case hg => rfl); (case hr => first | (go_simp; done) | (go_simp; rfl)); (case hp => exact (Reps.one (show Kd.FK (Kd.slice 3 (Kd.int .i64)) _ _ l1 [.slice A1 l1.length c1] from (Kd.FK_slice_mk (Kd.V_reads' (Kd.V_mono (ok' := (fun k_ => ((P0_ k_ ∨ P1_ k_) ∨ w.heap.size ≤ k_) ∧ some k_ ≠ (v395 : Value).ownBlock)) (HO_1.out) (fun k_ hk => ⟨hk.1, hk.2⟩))).2.1 (Kd.V_F (Kd.V_mono (ok' := (fun k_ => ((P0_ k_ ∨ P1_ k_) ∨ w.heap.size ≤ k_) ∧ some k_ ≠ (v395 : Value).ownBlock)) (HO_1.out) (fun k_ hk => ⟨hk.1, hk.2⟩))))) (Reps.none _ _)))
             intro v406 w19 ho20 hb hg_ hnew_
             clear hg_ hnew_
             (first | rw [← Ny405.out] at ho20 | (simp only [Int.reduceToNat] at ho20; rw [← Ny405.out] at ho20))
             have n0_ := Aside0.mk (Kd.V_elder' (by (with_reducible repeat (first | apply Kd.V_alloc | apply Kd.V_drewN | apply Kd.V_drew)); exact HO_0.out) (Kd.N_base ho20) hb)
             have n1_ := Aside0.mk (Kd.V_elder' (by (with_reducible repeat (first | apply Kd.V_alloc | apply Kd.V_drewN | apply Kd.V_drew)); exact HO_1.out) (Kd.N_base ho20) hb)
             have n2_ := Aside0.mk (Kd.V_elder' (by (with_reducible repeat (first | apply Kd.V_alloc | apply Kd.V_drewN | apply Kd.V_drew)); exact HL392_0.out) (Kd.N_base ho20) hb)
             have n3_ := Aside0.mk (Kd.V_elder' (by (with_reducible repeat (first | apply Kd.V_alloc | apply Kd.V_drewN | apply Kd.V_drew)); exact HO401.out) (Kd.N_base ho20) hb)
             have n4_ := Aside0.mk (Kd.V_elder' (by (with_reducible repeat (first | apply Kd.V_alloc | apply Kd.V_drewN | apply Kd.V_drew)); exact HO415.out) (Kd.N_base ho20) hb)
             have n5_ := Aside0.mk (Kd.N_elder' (by (with_reducible repeat (first | apply Kd.N_alloc | apply Kd.N_drewN | apply Kd.N_drew)); exact HO396.out) (Kd.N_base ho20) hb)
             have n6_ := Aside0.mk (Kd.N_lower ho20 (below_size (bb_ HB)))
             have n7_ := Aside0.mk (Kd.C_below (by repeat (first | (with_reducible exact HR392_0.out) | (with_reducible refine Kd.C_alloc ?_ _) | (with_reducible refine Kd.C_drewN ?_ _) | (with_reducible refine Kd.C_drew ?_) | exact HR392_0.out)) hb)
             have n8_ := Aside0.mk (below_step (bb_ HB) hb)
             clear HO_0
             clear HO_1
             clear HL392_0
             clear HO401
             clear HO415
             clear HO396
             clear HR392_0
             clear HB
             have HO_0 := n0_
             have HO_1 := n1_
             have HL392_0 := n2_
             have HO401 := n3_
             have HO415 := n4_
             have HO396 := n5_
             have HO407 := n6_
             have HR392_0 := n7_
             have HB := n8_
             clear n0_ n1_ n2_ n3_ n4_ n5_ n6_ n7_ n8_
             clear hb ho20
             refine hK.out _ _ trivial (fun hHeld => ?_)
             clear hK K
             refine norm_ (a' := ?_) ?_ ?_; rotate_left; (show Act.put _ (some 26) _ = _; simp only [Act.put, List.setIfInBounds_toArray, List.set_cons_zero, List.set_cons_succ, i64_w, i32_w]; rfl)
             refine one_ (i := 4) (N := some 24) (m_ 13 1919) rfl rfl (one_of HT_.out (by kernel_rfl)) (by decide) (fun K hK => ?_)
             refine Kd.N_append_rows_step (Kd.slice 3 (Kd.int .i64)) (w0 := w) w.heap.size (by rfl) (.tmp 20) (.tmp 23) 32 23 (.slice none 0 0) 24 rfl Try.underlying32 info23 rfl (by decide) (by omega) v395 y394 y397 _ _ _ (fun k_ => ((P0_ k_ ∨ P1_ k_) ∨ w.heap.size ≤ k_) ∧ some k_ ≠ (v406 : Value).ownBlock) (fun k_ => ((fun k_ => ((P0_ k_ ∨ P1_ k_) ∨ w.heap.size ≤ k_) ∧ some k_ ≠ (v406 : Value).ownBlock)) k_ ∧ some k_ ≠ (v395 : Value).ownBlock) rfl rfl ?aO ?aR (fun _ hk => hk) ?aF ?aB ?aS ?aL ?_
             (case aR => exact (by skip; exact Kd.V_F (Kd.V_mono (ok' := (fun k_ => ((fun k_ => ((P0_ k_ ∨ P1_ k_) ∨ w.heap.size ≤ k_) ∧ some k_ ≠ (v406 : Value).ownBlock)) k_ ∧ some k_ ≠ (v395 : Value).ownBlock)) (HO401.out) (fun k_ hk => ⟨⟨hk.1.1, hk.2⟩, hk.1.2⟩))))
             (case aB => exact (bb_ HB))
             (case aF => exact (fun k_ hk => ⟨(.inr (Nat.le_trans (below_size (bb_ HB)) hk)), Kd.fresh' (Kd.N_lt (by (with_reducible repeat (first | apply Kd.N_alloc | apply Kd.N_drewN | apply Kd.N_drew)); exact HO407.out)) k_ hk⟩))
             (case aO => exact (by (with_reducible repeat (first | apply Kd.N_alloc | apply Kd.N_drewN | apply Kd.N_drew)); exact HO396.out))
             (case aS => exact (below_size (bb_ HB)))
             (case aL => have := LMc9.out; omega)
             intro v403 w21 ho hb hg hat
             rw [← Ny402.out] at ho
             have n0_ := Aside0.mk (Kd.V_afterv (ok := (fun k_ => ((P0_ k_ ∨ P1_ k_) ∨ w.heap.size ≤ k_) ∧ some k_ ≠ (v406 : Value).ownBlock)) (by (with_reducible repeat (first | apply Kd.V_alloc | apply Kd.V_drewN | apply Kd.V_drew)); exact Kd.V_mono HO_0.out (fun _ hk => ⟨⟨hk.1.1, hk.2⟩, hk.1.2⟩)) hg hat)
             have n1_ := Aside0.mk (Kd.V_afterv (ok := (fun k_ => ((P0_ k_ ∨ P1_ k_) ∨ w.heap.size ≤ k_) ∧ some k_ ≠ (v406 : Value).ownBlock)) (by (with_reducible repeat (first | apply Kd.V_alloc | apply Kd.V_drewN | apply Kd.V_drew)); exact Kd.V_mono HO_1.out (fun _ hk => ⟨⟨hk.1.1, hk.2⟩, hk.1.2⟩)) hg hat)
             have n2_ := Aside0.mk (Kd.V_afterv (ok := (fun k_ => ((P0_ k_ ∨ P1_ k_) ∨ w.heap.size ≤ k_) ∧ some k_ ≠ (v406 : Value).ownBlock)) (by (with_reducible repeat (first | apply Kd.V_alloc | apply Kd.V_drewN | apply Kd.V_drew)); exact Kd.V_mono HL392_0.out (fun _ hk => ⟨⟨hk.1.1, hk.2⟩, hk.1.2⟩)) hg hat)
             have n3_ := Aside0.mk (Kd.V_afterv (ok := (fun k_ => ((P0_ k_ ∨ P1_ k_) ∨ w.heap.size ≤ k_) ∧ some k_ ≠ (v406 : Value).ownBlock)) (by (with_reducible repeat (first | apply Kd.V_alloc | apply Kd.V_drewN | apply Kd.V_drew)); exact Kd.V_mono HO401.out (fun _ hk => ⟨⟨hk.1.1, hk.2⟩, hk.1.2⟩)) hg hat)
             have n4_ := Aside0.mk (Kd.V_afterv (ok := (fun k_ => ((P0_ k_ ∨ P1_ k_) ∨ w.heap.size ≤ k_) ∧ some k_ ≠ (v406 : Value).ownBlock)) (by (with_reducible repeat (first | apply Kd.V_alloc | apply Kd.V_drewN | apply Kd.V_drew)); exact Kd.V_mono HO415.out (fun _ hk => ⟨⟨hk.1.1, hk.2⟩, hk.1.2⟩)) hg hat)
             have n5_ := Aside0.mk (Kd.N_afterv (ok := (fun k_ => ((P0_ k_ ∨ P1_ k_) ∨ w.heap.size ≤ k_))) (by (with_reducible repeat (first | apply Kd.N_alloc | apply Kd.N_drewN | apply Kd.N_drew)); exact HO407.out) hg hat)
             have n6_ := Aside0.mk (hb)
             have n7_ := Aside0.mk (ho)
             clear HO_0
             clear HO_1
             clear HL392_0
             clear HO401
             clear HO415
             clear HO407
             clear HB
             clear HO396
             have HO_0 := n0_
             have HO_1 := n1_
             have HL392_0 := n2_
             have HO401 := n3_
             have HO415 := n4_
             have HO407 := n5_
             have HB := n6_
             have HO404 := n7_
             clear n0_ n1_ n2_ n3_ n4_ n5_ n6_ n7_
             clear ho hb hg hat
             refine hK.out _ _ trivial (fun hHeld => ?_)
             clear hK K
             refine norm_ (a' := ?_) ?_ ?_; rotate_left; (show Act.put _ (some 24) _ = _; simp only [Act.put, List.setIfInBounds_toArray, List.set_cons_zero, List.set_cons_succ, i64_w, i32_w]; rfl)
             exact norm_ (by simp only [putAll, Act.put, List.setIfInBounds_toArray, List.set_cons_zero, List.set_cons_succ]) (hCont (v395, v403, v406) _ ⟨(by (with_reducible repeat (first | apply Kd.V_alloc | apply Kd.V_drewN | apply Kd.V_drew)); exact Kd.V_mono HL392_0.out (fun _ hk => ⟨hk.1.1, ⟨hk.2, hk.1.2⟩⟩)), (by (with_reducible repeat (first | apply Kd.V_alloc | apply Kd.V_drewN | apply Kd.V_drew)); exact Kd.V_mono HO401.out (fun _ hk => ⟨hk.1.1, ⟨hk.2, hk.1.2⟩⟩)), (by (with_reducible repeat (first | apply Kd.N_alloc | apply Kd.N_drewN | apply Kd.N_drew)); exact HO404.out), (by (with_reducible repeat (first | apply Kd.N_alloc | apply Kd.N_drewN | apply Kd.N_drew)); exact HO407.out), (by (with_reducible repeat (first | apply Kd.V_alloc | apply Kd.V_drewN | apply Kd.V_drew)); exact Kd.V_mono HO415.out (fun _ hk => ⟨hk.1.1, ⟨hk.2, hk.1.2⟩⟩)), (by (with_reducible repeat (first | apply Kd.V_alloc | apply Kd.V_drewN | apply Kd.V_drew)); exact Kd.V_mono HO_0.out (fun _ hk => ⟨hk.1.1, ⟨hk.2, hk.1.2⟩⟩)), (by (with_reducible repeat (first | apply Kd.V_alloc | apply Kd.V_drewN | apply Kd.V_drew)); exact Kd.V_mono HO_1.out (fun _ hk => ⟨hk.1.1, ⟨hk.2, hk.1.2⟩⟩)), (bb_ HB)⟩)
           ·skip
            refine Kd.N_lit_step (Kd.slice 3 (Kd.int .i64)) _ 23 ?hg (N' := 26) ?hd (xs := ([l1] : List (List Int))) (inner := [.slice A1 l1.length c1]) (ok := (fun k_ => ((P0_ k_ ∨ P1_ k_) ∨ w.heap.size ≤ k_))) (okp := (fun k_ => ((P0_ k_ ∨ P1_ k_) ∨ w.heap.size ≤ k_))) ?hr ?hp (fun _ hk => hk) ((show ∀ k_, w14.heap.size ≤ k_ → (fun k_ => ((P0_ k_ ∨ P1_ k_) ∨ w.heap.size ≤ k_)) k_ from fun k_ hk => (.inr (Nat.le_trans (below_size (bb_ HB)) hk))) _ (Nat.le_refl _)) (Below.refl _ _) (Nat.le_refl _) (by simp) ?_; (case hd => rfl); (case hg => rfl); (case hr => first | (go_simp; done) | (go_simp; rfl)); (case hp => exact (Reps.one (show Kd.FK (Kd.slice 3 (Kd.int .i64)) _ _ l1 [.slice A1 l1.length c1] from (Kd.FK_slice_mk (Kd.V_reads' (Kd.V_mono (ok' := (fun k_ => ((P0_ k_ ∨ P1_ k_) ∨ w.heap.size ≤ k_))) (HO_1.out) (fun k_ hk => hk))).2.1 (Kd.V_F (Kd.V_mono (ok' := (fun k_ => ((P0_ k_ ∨ P1_ k_) ∨ w.heap.size ≤ k_))) (HO_1.out) (fun k_ hk => hk))))) (Reps.none _ _)))
            intro v406 w17 ho18 hb hg_ hnew_
            clear hg_ hnew_
            (first | rw [← Ny405.out] at ho18 | (simp only [Int.reduceToNat] at ho18; rw [← Ny405.out] at ho18))
            have n0_ := Aside0.mk (Kd.V_elder' (by (with_reducible repeat (first | apply Kd.V_alloc | apply Kd.V_drewN | apply Kd.V_drew)); exact HO_0.out) (Kd.N_base ho18) hb)
            have n1_ := Aside0.mk (Kd.V_elder' (by (with_reducible repeat (first | apply Kd.V_alloc | apply Kd.V_drewN | apply Kd.V_drew)); exact HO_1.out) (Kd.N_base ho18) hb)
            have n2_ := Aside0.mk (Kd.V_elder' (by (with_reducible repeat (first | apply Kd.V_alloc | apply Kd.V_drewN | apply Kd.V_drew)); exact HL392_0.out) (Kd.N_base ho18) hb)
            have n3_ := Aside0.mk (Kd.V_elder' (by (with_reducible repeat (first | apply Kd.V_alloc | apply Kd.V_drewN | apply Kd.V_drew)); exact HO401.out) (Kd.N_base ho18) hb)
            have n4_ := Aside0.mk (Kd.V_elder' (by (with_reducible repeat (first | apply Kd.V_alloc | apply Kd.V_drewN | apply Kd.V_drew)); exact HO415.out) (Kd.N_base ho18) hb)
            have n5_ := Aside0.mk (Kd.N_lower ho18 (below_size (bb_ HB)))
            have n6_ := Aside0.mk (Kd.C_below (by repeat (first | (with_reducible exact HR392_0.out) | (with_reducible refine Kd.C_alloc ?_ _) | (with_reducible refine Kd.C_drewN ?_ _) | (with_reducible refine Kd.C_drew ?_) | exact HR392_0.out)) hb)
            have n7_ := Aside0.mk (below_step (bb_ HB) hb)
            clear HO_0
            clear HO_1
            clear HL392_0
            clear HO401
            clear HO415
            clear HR392_0
            clear HB
            have HO_0 := n0_
            have HO_1 := n1_
            have HL392_0 := n2_
            have HO401 := n3_
            have HO415 := n4_
            have HO407 := n5_
            have HR392_0 := n6_
            have HB := n7_
            clear n0_ n1_ n2_ n3_ n4_ n5_ n6_ n7_
            clear hb ho18
            refine hK.out _ _ trivial (fun hHeld => ?_)
            clear hK K
            refine norm_ (a' := ?_) ?_ ?_; rotate_left; (show Act.put _ (some 26) _ = _; simp only [Act.put, List.setIfInBounds_toArray, List.set_cons_zero, List.set_cons_succ, i64_w, i32_w]; rfl)
            refine one_ (i := 0) (N := some 20) (m_ 13 1903) rfl rfl (one_of HT_.out (by kernel_rfl)) (by decide) (fun K hK => ?_)
            refine Kd.N_lit_step (Kd.slice 3 (Kd.int .i64)) _ 23 ?hg (N' := 20) ?hd (xs := ([] : List (List Int))) (inner := []) (ok := (fun k_ => ((P0_ k_ ∨ P1_ k_) ∨ w.heap.size ≤ k_) ∧ some k_ ≠ (v406 : Value).ownBlock)) (okp := (fun k_ => ((P0_ k_ ∨ P1_ k_) ∨ w.heap.size ≤ k_) ∧ some k_ ≠ (v406 : Value).ownBlock)) ?hr ?hp (fun _ hk => hk) ((show ∀ k_, w17.heap.size ≤ k_ → (fun k_ => ((P0_ k_ ∨ P1_ k_) ∨ w.heap.size ≤ k_) ∧ some k_ ≠ (v406 : Value).ownBlock) k_ from fun k_ hk => ⟨(.inr (Nat.le_trans (below_size (bb_ HB)) hk)), Kd.fresh' (Kd.N_lt (by (with_reducible repeat (first | apply Kd.N_alloc | apply Kd.N_drewN | apply Kd.N_drew)); exact HO407.out)) k_ hk⟩) _ (Nat.le_refl _)) (Below.refl _ _) (Nat.le_refl _) (by simp) ?_; (case hd => rfl); (case hg => rfl); (case hr => first | (go_simp; done) | (go_simp; rfl)); (case hp => exact (Reps.none _ _))
            intro v395 w19 ho20 hb hg_ hnew_
            clear hg_ hnew_
            (first | rw [← Ny394.out] at ho20 | (simp only [Int.reduceToNat] at ho20; rw [← Ny394.out] at ho20))
            have n0_ := Aside0.mk (Kd.V_elder' (by (with_reducible repeat (first | apply Kd.V_alloc | apply Kd.V_drewN | apply Kd.V_drew)); exact HO_0.out) (Kd.N_base ho20) hb)
            have n1_ := Aside0.mk (Kd.V_elder' (by (with_reducible repeat (first | apply Kd.V_alloc | apply Kd.V_drewN | apply Kd.V_drew)); exact HO_1.out) (Kd.N_base ho20) hb)
            have n2_ := Aside0.mk (Kd.V_elder' (by (with_reducible repeat (first | apply Kd.V_alloc | apply Kd.V_drewN | apply Kd.V_drew)); exact HL392_0.out) (Kd.N_base ho20) hb)
            have n3_ := Aside0.mk (Kd.V_elder' (by (with_reducible repeat (first | apply Kd.V_alloc | apply Kd.V_drewN | apply Kd.V_drew)); exact HO401.out) (Kd.N_base ho20) hb)
            have n4_ := Aside0.mk (Kd.V_elder' (by (with_reducible repeat (first | apply Kd.V_alloc | apply Kd.V_drewN | apply Kd.V_drew)); exact HO415.out) (Kd.N_base ho20) hb)
            have n5_ := Aside0.mk (Kd.N_elder' (by (with_reducible repeat (first | apply Kd.N_alloc | apply Kd.N_drewN | apply Kd.N_drew)); exact HO407.out) (Kd.N_base ho20) hb)
            have n6_ := Aside0.mk (Kd.N_lower ho20 (below_size (bb_ HB)))
            have n7_ := Aside0.mk (Kd.C_below (by repeat (first | (with_reducible exact HR392_0.out) | (with_reducible refine Kd.C_alloc ?_ _) | (with_reducible refine Kd.C_drewN ?_ _) | (with_reducible refine Kd.C_drew ?_) | exact HR392_0.out)) hb)
            have n8_ := Aside0.mk (below_step (bb_ HB) hb)
            clear HO_0
            clear HO_1
            clear HL392_0
            clear HO401
            clear HO415
            clear HO407
            clear HR392_0
            clear HB
            have HO_0 := n0_
            have HO_1 := n1_
            have HL392_0 := n2_
            have HO401 := n3_
            have HO415 := n4_
            have HO407 := n5_
            have HO396 := n6_
            have HR392_0 := n7_
            have HB := n8_
            clear n0_ n1_ n2_ n3_ n4_ n5_ n6_ n7_ n8_
            clear hb ho20
            refine hK.out _ _ trivial (fun hHeld => ?_)
            clear hK K
            refine norm_ (a' := ?_) ?_ ?_; rotate_left; (show Act.put _ (some 20) _ = _; simp only [Act.put, List.setIfInBounds_toArray, List.set_cons_zero, List.set_cons_succ, i64_w, i32_w]; rfl)
            refine one_ (i := 4) (N := some 24) (m_ 13 1919) rfl rfl (one_of HT_.out (by kernel_rfl)) (by decide) (fun K hK => ?_)
            refine Kd.N_append_rows_step (Kd.slice 3 (Kd.int .i64)) (w0 := w) w.heap.size (by rfl) (.tmp 20) (.tmp 23) 32 23 (.slice none 0 0) 24 rfl Try.underlying32 info23 rfl (by decide) (by omega) v395 y394 y397 _ _ _ (fun k_ => ((P0_ k_ ∨ P1_ k_) ∨ w.heap.size ≤ k_) ∧ some k_ ≠ (v406 : Value).ownBlock) (fun k_ => ((fun k_ => ((P0_ k_ ∨ P1_ k_) ∨ w.heap.size ≤ k_) ∧ some k_ ≠ (v406 : Value).ownBlock)) k_ ∧ some k_ ≠ (v395 : Value).ownBlock) rfl rfl ?aO ?aR (fun _ hk => hk) ?aF ?aB ?aS ?aL ?_
            (case aR => exact (by skip; exact Kd.V_F (Kd.V_mono (ok' := (fun k_ => ((fun k_ => ((P0_ k_ ∨ P1_ k_) ∨ w.heap.size ≤ k_) ∧ some k_ ≠ (v406 : Value).ownBlock)) k_ ∧ some k_ ≠ (v395 : Value).ownBlock)) (HO401.out) (fun k_ hk => ⟨⟨hk.1.1, hk.1.2⟩, hk.2⟩))))
            (case aB => exact (bb_ HB))
            (case aF => exact (fun k_ hk => ⟨(.inr (Nat.le_trans (below_size (bb_ HB)) hk)), Kd.fresh' (Kd.N_lt (by (with_reducible repeat (first | apply Kd.N_alloc | apply Kd.N_drewN | apply Kd.N_drew)); exact HO407.out)) k_ hk⟩))
            (case aO => exact (by (with_reducible repeat (first | apply Kd.N_alloc | apply Kd.N_drewN | apply Kd.N_drew)); exact HO396.out))
            (case aS => exact (below_size (bb_ HB)))
            (case aL => have := LMc9.out; omega)
            intro v403 w21 ho hb hg hat
            rw [← Ny402.out] at ho
            have n0_ := Aside0.mk (Kd.V_afterv (ok := (fun k_ => ((P0_ k_ ∨ P1_ k_) ∨ w.heap.size ≤ k_) ∧ some k_ ≠ (v406 : Value).ownBlock)) (by (with_reducible repeat (first | apply Kd.V_alloc | apply Kd.V_drewN | apply Kd.V_drew)); exact HO_0.out) hg hat)
            have n1_ := Aside0.mk (Kd.V_afterv (ok := (fun k_ => ((P0_ k_ ∨ P1_ k_) ∨ w.heap.size ≤ k_) ∧ some k_ ≠ (v406 : Value).ownBlock)) (by (with_reducible repeat (first | apply Kd.V_alloc | apply Kd.V_drewN | apply Kd.V_drew)); exact HO_1.out) hg hat)
            have n2_ := Aside0.mk (Kd.V_afterv (ok := (fun k_ => ((P0_ k_ ∨ P1_ k_) ∨ w.heap.size ≤ k_) ∧ some k_ ≠ (v406 : Value).ownBlock)) (by (with_reducible repeat (first | apply Kd.V_alloc | apply Kd.V_drewN | apply Kd.V_drew)); exact HL392_0.out) hg hat)
            have n3_ := Aside0.mk (Kd.V_afterv (ok := (fun k_ => ((P0_ k_ ∨ P1_ k_) ∨ w.heap.size ≤ k_) ∧ some k_ ≠ (v406 : Value).ownBlock)) (by (with_reducible repeat (first | apply Kd.V_alloc | apply Kd.V_drewN | apply Kd.V_drew)); exact HO401.out) hg hat)
            have n4_ := Aside0.mk (Kd.V_afterv (ok := (fun k_ => ((P0_ k_ ∨ P1_ k_) ∨ w.heap.size ≤ k_) ∧ some k_ ≠ (v406 : Value).ownBlock)) (by (with_reducible repeat (first | apply Kd.V_alloc | apply Kd.V_drewN | apply Kd.V_drew)); exact HO415.out) hg hat)
            have n5_ := Aside0.mk (Kd.N_afterv (ok := (fun k_ => ((P0_ k_ ∨ P1_ k_) ∨ w.heap.size ≤ k_))) (by (with_reducible repeat (first | apply Kd.N_alloc | apply Kd.N_drewN | apply Kd.N_drew)); exact HO407.out) hg hat)
            have n6_ := Aside0.mk (hb)
            have n7_ := Aside0.mk (ho)
            clear HO_0
            clear HO_1
            clear HL392_0
            clear HO401
            clear HO415
            clear HO407
            clear HB
            clear HO396
            have HO_0 := n0_
            have HO_1 := n1_
            have HL392_0 := n2_
            have HO401 := n3_
            have HO415 := n4_
            have HO407 := n5_
            have HB := n6_
            have HO404 := n7_
            clear n0_ n1_ n2_ n3_ n4_ n5_ n6_ n7_
            clear ho hb hg hat
            refine hK.out _ _ trivial (fun hHeld => ?_)
            clear hK K
            refine norm_ (a' := ?_) ?_ ?_; rotate_left; (show Act.put _ (some 24) _ = _; simp only [Act.put, List.setIfInBounds_toArray, List.set_cons_zero, List.set_cons_succ, i64_w, i32_w]; rfl)
            exact norm_ (by simp only [putAll, Act.put, List.setIfInBounds_toArray, List.set_cons_zero, List.set_cons_succ]) (hCont (v395, v403, v406) _ ⟨(by (with_reducible repeat (first | apply Kd.V_alloc | apply Kd.V_drewN | apply Kd.V_drew)); exact Kd.V_mono HL392_0.out (fun _ hk => ⟨hk.1.1, ⟨hk.2, hk.1.2⟩⟩)), (by (with_reducible repeat (first | apply Kd.V_alloc | apply Kd.V_drewN | apply Kd.V_drew)); exact Kd.V_mono HO401.out (fun _ hk => ⟨hk.1.1, ⟨hk.2, hk.1.2⟩⟩)), (by (with_reducible repeat (first | apply Kd.N_alloc | apply Kd.N_drewN | apply Kd.N_drew)); exact HO404.out), (by (with_reducible repeat (first | apply Kd.N_alloc | apply Kd.N_drewN | apply Kd.N_drew)); exact HO407.out), (by (with_reducible repeat (first | apply Kd.V_alloc | apply Kd.V_drewN | apply Kd.V_drew)); exact Kd.V_mono HO415.out (fun _ hk => ⟨hk.1.1, ⟨hk.2, hk.1.2⟩⟩)), (by (with_reducible repeat (first | apply Kd.V_alloc | apply Kd.V_drewN | apply Kd.V_drew)); exact Kd.V_mono HO_0.out (fun _ hk => ⟨hk.1.1, ⟨hk.2, hk.1.2⟩⟩)), (by (with_reducible repeat (first | apply Kd.V_alloc | apply Kd.V_drewN | apply Kd.V_drew)); exact Kd.V_mono HO_1.out (fun _ hk => ⟨hk.1.1, ⟨hk.2, hk.1.2⟩⟩)), (bb_ HB)⟩)
          rintro ⟨v395, v403, v406⟩ w22 ⟨h0_, h1_, h2_, h3_, h4_, h5_, h6_, h7_⟩
          have n0_ : Aside0 (Kd.V (Kd.int .i64) 3 w22 w.heap.size (fun k_ => ((P0_ k_ ∨ P1_ k_) ∨ w.heap.size ≤ k_) ∧ some k_ ≠ (v403 : Value).ownBlock ∧ some k_ ≠ (v406 : Value).ownBlock) (.slice A392_0 (rd_LI l0 x5_1).length c392_0) (rd_LI l0 x5_1)) := ⟨h0_⟩
          have n1_ : Aside0 (Kd.V (Kd.slice 3 (Kd.int .i64)) 23 w22 w.heap.size (fun k_ => ((P0_ k_ ∨ P1_ k_) ∨ w.heap.size ≤ k_) ∧ some k_ ≠ (v403 : Value).ownBlock ∧ some k_ ≠ (v406 : Value).ownBlock) (.slice (some ad392) y397.length c0) y397) := ⟨h1_⟩
          have n2_ : Aside0 (Kd.N (Kd.slice 3 (Kd.int .i64)) 23 w22 w.heap.size (fun k_ => ((P0_ k_ ∨ P1_ k_) ∨ w.heap.size ≤ k_) ∧ some k_ ≠ (v406 : Value).ownBlock) v403 y402) := ⟨h2_⟩
          have n3_ : Aside0 (Kd.N (Kd.slice 3 (Kd.int .i64)) 23 w22 w.heap.size (fun k_ => ((P0_ k_ ∨ P1_ k_) ∨ w.heap.size ≤ k_) ∧ some k_ ≠ (v403 : Value).ownBlock) v406 y405) := ⟨h3_⟩
          have n4_ : Aside0 (Kd.V (Kd.slice 3 (Kd.int .i64)) 23 w22 w.heap.size (fun k_ => ((P0_ k_ ∨ P1_ k_) ∨ w.heap.size ≤ k_) ∧ some k_ ≠ (v403 : Value).ownBlock ∧ some k_ ≠ (v406 : Value).ownBlock) (.slice A16 y411.length c16) y411) := ⟨h4_⟩
          have n5_ : Aside0 (Kd.V (Kd.slice 3 (Kd.int .i64)) 23 w22 w.heap.size (fun k_ => ((P0_ k_ ∨ P1_ k_) ∨ w.heap.size ≤ k_) ∧ some k_ ≠ (v403 : Value).ownBlock ∧ some k_ ≠ (v406 : Value).ownBlock) (.slice (some ad392) l0.length c0) l0) := ⟨h5_⟩
          have n6_ : Aside0 (Kd.V (Kd.int .i64) 3 w22 w.heap.size (fun k_ => ((P0_ k_ ∨ P1_ k_) ∨ w.heap.size ≤ k_) ∧ some k_ ≠ (v403 : Value).ownBlock ∧ some k_ ≠ (v406 : Value).ownBlock) (.slice A1 l1.length c1) l1) := ⟨h6_⟩
          have n7_ : Aside0 (Below w.heap.size w w22) := ⟨h7_⟩
          clear HO_0
          clear HO_1
          clear HL392_0
          clear HR392_0
          clear HB
          clear h0_ h1_ h2_ h3_ h4_ h5_ h6_ h7_
          have HL392_0 := n0_
          have HO401 := n1_
          have HO404 := n2_
          have HO407 := n3_
          have HO415 := n4_
          have HO_0 := n5_
          have HO_1 := n6_
          have HB := n7_
          clear n0_ n1_ n2_ n3_ n4_ n5_ n6_ n7_
          have hHeld := trivial
          obtain ⟨Ao24, co24, eo24⟩ := Kd.N_slice HO407.out
          (first | subst eo24 | (injection eo24 with f1_ f2_ f3_; have f4_ := f1_.symm; have f5_ := f3_.symm; clear f1_ f2_ f3_; subst f4_; subst f5_))
          refine norm_ (a' := ?_) ?_ ?_; rotate_left; (simp only [putAll, Act.put, List.setIfInBounds_toArray, List.set_cons_zero, List.set_cons_succ]; rfl)
          refine one_ (i := 7) (N := some 27) (m_ 13 2047) rfl rfl (one_of HT_.out (by kernel_rfl)) (by decide) (fun K hK => ?_)
          refine Kd.N_append_rows_step (Kd.slice 3 (Kd.int .i64)) (w0 := w) w.heap.size (by rfl) (.tmp 24) (.tmp 26) 32 23 (.slice none 0 0) 24 rfl Try.underlying32 info23 rfl (by decide) (by omega) v403 y402 y405 _ _ _ (fun k_ => ((P0_ k_ ∨ P1_ k_) ∨ w.heap.size ≤ k_)) (fun k_ => ((fun k_ => ((P0_ k_ ∨ P1_ k_) ∨ w.heap.size ≤ k_))) k_ ∧ some k_ ≠ (v403 : Value).ownBlock) rfl rfl ?aO ?aR (fun _ hk => hk) ?aF ?aB ?aS ?aL ?_
          (case aR => exact (by skip; exact Kd.N_F (Kd.N_mono (ok' := (fun k_ => ((fun k_ => ((P0_ k_ ∨ P1_ k_) ∨ w.heap.size ≤ k_))) k_ ∧ some k_ ≠ (v403 : Value).ownBlock)) (HO407.out) (fun k_ hk => ⟨hk.1, hk.2⟩))))
          (case aB => exact (bb_ HB))
          (case aF => exact (fun k_ hk => (.inr (Nat.le_trans (below_size (bb_ HB)) hk))))
          (case aO => exact (by (with_reducible repeat (first | apply Kd.N_alloc | apply Kd.N_drewN | apply Kd.N_drew)); exact Kd.N_mono HO404.out (fun _ hk => hk.1)))
          (case aS => exact (below_size (bb_ HB)))
          (case aL => have := LMc10.out; omega)
          intro v409 w23 ho hb hg hat
          rw [← Ny408.out] at ho
          have n0_ := Aside0.mk (Kd.V_afterv (ok := (fun k_ => ((P0_ k_ ∨ P1_ k_) ∨ w.heap.size ≤ k_) ∧ some k_ ≠ (.slice Ao24 y405.length co24 : Value).ownBlock)) (by (with_reducible repeat (first | apply Kd.V_alloc | apply Kd.V_drewN | apply Kd.V_drew)); exact Kd.V_mono HO_0.out (fun _ hk => ⟨⟨hk.1, hk.2.2⟩, hk.2.1⟩)) hg hat)
          have n1_ := Aside0.mk (Kd.V_afterv (ok := (fun k_ => ((P0_ k_ ∨ P1_ k_) ∨ w.heap.size ≤ k_) ∧ some k_ ≠ (.slice Ao24 y405.length co24 : Value).ownBlock)) (by (with_reducible repeat (first | apply Kd.V_alloc | apply Kd.V_drewN | apply Kd.V_drew)); exact Kd.V_mono HO_1.out (fun _ hk => ⟨⟨hk.1, hk.2.2⟩, hk.2.1⟩)) hg hat)
          have n2_ := Aside0.mk (Kd.V_afterv (ok := (fun k_ => ((P0_ k_ ∨ P1_ k_) ∨ w.heap.size ≤ k_) ∧ some k_ ≠ (.slice Ao24 y405.length co24 : Value).ownBlock)) (by (with_reducible repeat (first | apply Kd.V_alloc | apply Kd.V_drewN | apply Kd.V_drew)); exact Kd.V_mono HL392_0.out (fun _ hk => ⟨⟨hk.1, hk.2.2⟩, hk.2.1⟩)) hg hat)
          have n3_ := Aside0.mk (Kd.V_afterv (ok := (fun k_ => ((P0_ k_ ∨ P1_ k_) ∨ w.heap.size ≤ k_) ∧ some k_ ≠ (.slice Ao24 y405.length co24 : Value).ownBlock)) (by (with_reducible repeat (first | apply Kd.V_alloc | apply Kd.V_drewN | apply Kd.V_drew)); exact Kd.V_mono HO401.out (fun _ hk => ⟨⟨hk.1, hk.2.2⟩, hk.2.1⟩)) hg hat)
          have n4_ := Aside0.mk (Kd.V_afterv (ok := (fun k_ => ((P0_ k_ ∨ P1_ k_) ∨ w.heap.size ≤ k_) ∧ some k_ ≠ (.slice Ao24 y405.length co24 : Value).ownBlock)) (by (with_reducible repeat (first | apply Kd.V_alloc | apply Kd.V_drewN | apply Kd.V_drew)); exact Kd.V_mono HO415.out (fun _ hk => ⟨⟨hk.1, hk.2.2⟩, hk.2.1⟩)) hg hat)
          have n5_ := Aside0.mk (Kd.N_afterv (ok := (fun k_ => ((P0_ k_ ∨ P1_ k_) ∨ w.heap.size ≤ k_))) (by (with_reducible repeat (first | apply Kd.N_alloc | apply Kd.N_drewN | apply Kd.N_drew)); exact HO407.out) hg hat)
          have n6_ := Aside0.mk (hb)
          have n7_ := Aside0.mk (ho)
          clear HO_0
          clear HO_1
          clear HL392_0
          clear HO401
          clear HO415
          clear HO407
          clear HB
          clear HO404
          have HO_0 := n0_
          have HO_1 := n1_
          have HL392_0 := n2_
          have HO401 := n3_
          have HO415 := n4_
          have HO407 := n5_
          have HB := n6_
          have HO410 := n7_
          clear n0_ n1_ n2_ n3_ n4_ n5_ n6_ n7_
          clear ho hb hg hat
          refine hK.out _ _ trivial (fun hHeld => ?_)
          clear hK K
          refine norm_ (a' := ?_) ?_ ?_; rotate_left; (show Act.put _ (some 27) _ = _; simp only [Act.put, List.setIfInBounds_toArray, List.set_cons_zero, List.set_cons_succ, i64_w, i32_w]; rfl)
          refine one_ (i := 11) (N := some 31) (m_ 13 4095) rfl rfl (one_of HT_.out (by kernel_rfl)) (by decide) (fun K hK => ?_)
          refine Kd.N_append_rows_step (Kd.slice 3 (Kd.int .i64)) (w0 := w) w.heap.size (by rfl) (.tmp 27) (.tmp 30) 32 23 (.slice none 0 0) 24 rfl Try.underlying32 info23 rfl (by decide) (by omega) v409 y408 y411 _ _ _ (fun k_ => ((P0_ k_ ∨ P1_ k_) ∨ w.heap.size ≤ k_)) (fun k_ => ((fun k_ => ((P0_ k_ ∨ P1_ k_) ∨ w.heap.size ≤ k_))) k_ ∧ some k_ ≠ (v409 : Value).ownBlock) rfl rfl ?aO ?aR (fun _ hk => hk) ?aF ?aB ?aS ?aL ?_
          (case aR => exact (by skip; exact Kd.V_F (Kd.V_mono (ok' := (fun k_ => ((fun k_ => ((P0_ k_ ∨ P1_ k_) ∨ w.heap.size ≤ k_))) k_ ∧ some k_ ≠ (v409 : Value).ownBlock)) (HO415.out) (fun k_ hk => ⟨hk.1.1, hk.2⟩))))
          (case aB => exact (bb_ HB))
          (case aF => exact (fun k_ hk => (.inr (Nat.le_trans (below_size (bb_ HB)) hk))))
          (case aO => exact (by (with_reducible repeat (first | apply Kd.N_alloc | apply Kd.N_drewN | apply Kd.N_drew)); exact HO410.out))
          (case aS => exact (below_size (bb_ HB)))
          (case aL => have := LMc13.out; omega)
          intro v417 w25 ho hb hg hat
          rw [← Ny416.out] at ho
          have n0_ := Aside0.mk (Kd.V_afterv (ok := (fun k_ => ((P0_ k_ ∨ P1_ k_) ∨ w.heap.size ≤ k_) ∧ some k_ ≠ (.slice Ao24 y405.length co24 : Value).ownBlock)) (by (with_reducible repeat (first | apply Kd.V_alloc | apply Kd.V_drewN | apply Kd.V_drew)); exact HO_0.out) hg hat)
          have n1_ := Aside0.mk (Kd.V_afterv (ok := (fun k_ => ((P0_ k_ ∨ P1_ k_) ∨ w.heap.size ≤ k_) ∧ some k_ ≠ (.slice Ao24 y405.length co24 : Value).ownBlock)) (by (with_reducible repeat (first | apply Kd.V_alloc | apply Kd.V_drewN | apply Kd.V_drew)); exact HO_1.out) hg hat)
          have n2_ := Aside0.mk (Kd.V_afterv (ok := (fun k_ => ((P0_ k_ ∨ P1_ k_) ∨ w.heap.size ≤ k_) ∧ some k_ ≠ (.slice Ao24 y405.length co24 : Value).ownBlock)) (by (with_reducible repeat (first | apply Kd.V_alloc | apply Kd.V_drewN | apply Kd.V_drew)); exact HL392_0.out) hg hat)
          have n3_ := Aside0.mk (Kd.V_afterv (ok := (fun k_ => ((P0_ k_ ∨ P1_ k_) ∨ w.heap.size ≤ k_) ∧ some k_ ≠ (.slice Ao24 y405.length co24 : Value).ownBlock)) (by (with_reducible repeat (first | apply Kd.V_alloc | apply Kd.V_drewN | apply Kd.V_drew)); exact HO401.out) hg hat)
          have n4_ := Aside0.mk (Kd.V_afterv (ok := (fun k_ => ((P0_ k_ ∨ P1_ k_) ∨ w.heap.size ≤ k_) ∧ some k_ ≠ (.slice Ao24 y405.length co24 : Value).ownBlock)) (by (with_reducible repeat (first | apply Kd.V_alloc | apply Kd.V_drewN | apply Kd.V_drew)); exact HO415.out) hg hat)
          have n5_ := Aside0.mk (Kd.N_afterv (ok := (fun k_ => ((P0_ k_ ∨ P1_ k_) ∨ w.heap.size ≤ k_))) (by (with_reducible repeat (first | apply Kd.N_alloc | apply Kd.N_drewN | apply Kd.N_drew)); exact HO407.out) hg hat)
          have n6_ := Aside0.mk (hb)
          have n7_ := Aside0.mk (ho)
          clear HO_0
          clear HO_1
          clear HL392_0
          clear HO401
          clear HO415
          clear HO407
          clear HB
          clear HO410
          have HO_0 := n0_
          have HO_1 := n1_
          have HL392_0 := n2_
          have HO401 := n3_
          have HO415 := n4_
          have HO407 := n5_
          have HB := n6_
          have HO418 := n7_
          clear n0_ n1_ n2_ n3_ n4_ n5_ n6_ n7_
          clear ho hb hg hat
          refine hK.out _ _ trivial (fun hHeld => ?_)
          clear hK K
          refine norm_ (a' := ?_) ?_ ?_; rotate_left; (show Act.put _ (some 31) _ = _; simp only [Act.put, List.setIfInBounds_toArray, List.set_cons_zero, List.set_cons_succ, i64_w, i32_w]; rfl)
          refine p_ 12 4 (m_ 13 8191) HT_.out ?_
          refine done_ (done_of HT_.out (by kernel_rfl)) ?_
          try go_wp2
          go_ret
          exact ⟨_, ee_, by (with_reducible repeat (first | apply Kd.N_alloc | apply Kd.N_drewN | apply Kd.N_drew)); exact HO418.out, bb_ HB⟩
         ·rw [if_neg c13] at H
          exact absurd H (by simp)
        ·rw [if_neg c10] at H
         exact absurd H (by simp)
       ·rw [if_neg c9] at H
        exact absurd H (by simp)
      ·rw [if_neg c8] at H
       exact absurd H (by simp)
    ·rw [if_neg c4] at H
     exact absurd H (by simp)
   ·rw [if_neg c3] at H
    have c3b0 : decide (x5_1 < (l0.length : Int)) = false := decide_eq_false c3
    clear c3
    obtain ⟨y419, hy419⟩ : ∃ y_ : List (List Int), y_ = (([] : List (List Int))) := ⟨_, rfl⟩
    replace H : (if 0 ≤ x5_1 then (if x5_1 ≤ (l0.length : Int) then ((some (l0.take (x5_1 : Int).toNat : List (List Int))).bind fun y422 => (if y419.length + y422.length < 5864062014805 then ((some (y419 ++ y422 : List (List Int))).bind fun y427 => ((some (([l1] : List (List Int)) : List (List Int))).bind fun y430 => (if y427.length + y430.length < 5864062014805 then ((some (y427 ++ y430 : List (List Int))).bind fun y433 => ((some (l0.drop (x5_1 : Int).toNat : List (List Int))).bind fun y436 => (if y433.length + y436.length < 5864062014805 then (some (y433 ++ y436)) else (none)))) else (none)))) else (none))) else (none)) else (none)) = some r := by first | (rw [hy419]; with_reducible exact H) | (have H2_ := (Option.bind_some _ _).symm.trans H; rw [hy419]; with_reducible exact H2_) | (have H2_ := (Option.bind_some _ _).symm.trans H; with_reducible exact H2_) | with_reducible exact H | (rw [hy419]; exact H) | exact H
    have Ny419 := Aside0.mk hy419
    clear hy419
    by_cases c26 : 0 ≤ x5_1
    ·rw [if_pos c26] at H
     have c26b0 := eq_true c26
     have c26b1 : decide (0 ≤ x5_1) = true := decide_eq_true c26
     clear c26
     by_cases c27 : x5_1 ≤ (l0.length : Int)
     ·rw [if_pos c27] at H
      have c27b0 := eq_true c27
      have c27b1 : decide (x5_1 ≤ (l0.length : Int)) = true := decide_eq_true c27
      clear c27
      obtain ⟨y422, hy422⟩ : ∃ y_ : List (List Int), y_ = (l0.take (x5_1 : Int).toNat) := ⟨_, rfl⟩
      replace H : (if y419.length + y422.length < 5864062014805 then ((some (y419 ++ y422 : List (List Int))).bind fun y427 => ((some (([l1] : List (List Int)) : List (List Int))).bind fun y430 => (if y427.length + y430.length < 5864062014805 then ((some (y427 ++ y430 : List (List Int))).bind fun y433 => ((some (l0.drop (x5_1 : Int).toNat : List (List Int))).bind fun y436 => (if y433.length + y436.length < 5864062014805 then (some (y433 ++ y436)) else (none)))) else (none)))) else (none)) = some r := by first | (rw [hy422]; with_reducible exact H) | (have H2_ := (Option.bind_some _ _).symm.trans H; rw [hy422]; with_reducible exact H2_) | (have H2_ := (Option.bind_some _ _).symm.trans H; with_reducible exact H2_) | with_reducible exact H | (rw [hy422]; exact H) | exact H
      have Ny422 := Aside0.mk hy422
      clear hy422
      by_cases c28 : y419.length + y422.length < 5864062014805
      ·rw [if_pos c28] at H
       have LMc28 := Aside0.mk c28
       clear c28
       obtain ⟨y427, hy427⟩ : ∃ y_ : List (List Int), y_ = (y419 ++ y422) := ⟨_, rfl⟩
       replace H : ((some (([l1] : List (List Int)) : List (List Int))).bind fun y430 => (if y427.length + y430.length < 5864062014805 then ((some (y427 ++ y430 : List (List Int))).bind fun y433 => ((some (l0.drop (x5_1 : Int).toNat : List (List Int))).bind fun y436 => (if y433.length + y436.length < 5864062014805 then (some (y433 ++ y436)) else (none)))) else (none))) = some r := by first | (rw [hy427]; with_reducible exact H) | (have H2_ := (Option.bind_some _ _).symm.trans H; rw [hy427]; with_reducible exact H2_) | (have H2_ := (Option.bind_some _ _).symm.trans H; with_reducible exact H2_) | with_reducible exact H | (rw [hy427]; exact H) | exact H
       have Ny427 := Aside0.mk hy427
       clear hy427
       obtain ⟨y430, hy430⟩ : ∃ y_ : List (List Int), y_ = (([l1] : List (List Int))) := ⟨_, rfl⟩
       replace H : (if y427.length + y430.length < 5864062014805 then ((some (y427 ++ y430 : List (List Int))).bind fun y433 => ((some (l0.drop (x5_1 : Int).toNat : List (List Int))).bind fun y436 => (if y433.length + y436.length < 5864062014805 then (some (y433 ++ y436)) else (none)))) else (none)) = some r := by first | (rw [hy430]; with_reducible exact H) | (have H2_ := (Option.bind_some _ _).symm.trans H; rw [hy430]; with_reducible exact H2_) | (have H2_ := (Option.bind_some _ _).symm.trans H; with_reducible exact H2_) | with_reducible exact H | (rw [hy430]; exact H) | exact H
       have Ny430 := Aside0.mk hy430
       clear hy430
       by_cases c29 : y427.length + y430.length < 5864062014805
       ·rw [if_pos c29] at H
        have LMc29 := Aside0.mk c29
        clear c29
        obtain ⟨y433, hy433⟩ : ∃ y_ : List (List Int), y_ = (y427 ++ y430) := ⟨_, rfl⟩
        replace H : ((some (l0.drop (x5_1 : Int).toNat : List (List Int))).bind fun y436 => (if y433.length + y436.length < 5864062014805 then (some (y433 ++ y436)) else (none))) = some r := by first | (rw [hy433]; with_reducible exact H) | (have H2_ := (Option.bind_some _ _).symm.trans H; rw [hy433]; with_reducible exact H2_) | (have H2_ := (Option.bind_some _ _).symm.trans H; with_reducible exact H2_) | with_reducible exact H | (rw [hy433]; exact H) | exact H
        have Ny433 := Aside0.mk hy433
        clear hy433
        have c30b0 := eq_true (dd_ : 0 ≤ x5_1)
        have c31b0 := eq_true (dd_ : x5_1 ≤ (l0.length : Int))
        obtain ⟨y436, hy436⟩ : ∃ y_ : List (List Int), y_ = (l0.drop (x5_1 : Int).toNat) := ⟨_, rfl⟩
        replace H : (if y433.length + y436.length < 5864062014805 then (some (y433 ++ y436)) else (none)) = some r := by first | (rw [hy436]; with_reducible exact H) | (have H2_ := (Option.bind_some _ _).symm.trans H; rw [hy436]; with_reducible exact H2_) | (have H2_ := (Option.bind_some _ _).symm.trans H; with_reducible exact H2_) | with_reducible exact H | (rw [hy436]; exact H) | exact H
        have Ny436 := Aside0.mk hy436
        clear hy436
        by_cases c32 : y433.length + y436.length < 5864062014805
        ·rw [if_pos c32] at H
         have LMc32 := Aside0.mk c32
         clear c32
         obtain ⟨y441, hy441⟩ : ∃ y_ : List (List Int), y_ = (y433 ++ y436) := ⟨_, rfl⟩
         replace H : (some y441) = some r := by first | (rw [hy441]; with_reducible exact H) | (have H2_ := (Option.bind_some _ _).symm.trans H; rw [hy441]; with_reducible exact H2_) | (have H2_ := (Option.bind_some _ _).symm.trans H; with_reducible exact H2_) | with_reducible exact H | (rw [hy441]; exact H) | exact H
         have Ny441 := Aside0.mk hy441
         clear hy441
         obtain rfl := Option.some.inj H
         try go_wp2
         have n0_ := Aside0.mk (Kd.V_drew HO_0.out)
         have n1_ := Aside0.mk (Kd.V_drew HO_1.out)
         have n2_ := Aside0.mk (below_drew1 HB.out)
         clear HO_0
         clear HO_1
         clear HB
         have HO_0 := n0_
         have HO_1 := n1_
         have HB := n2_
         clear n0_ n1_ n2_
         have q34 : (x5_1 : Int) ≤ ((l0.length : Int) : Int) := dd_
         obtain ⟨i034, hi034, _, hsz34, _⟩ := info_parts info23
         have hroom34 : l0.length ≤ c0 := (Kd.V_reads' HO_0.out).2.1
         have hC34 : Kd.F (Kd.slice 3 (Kd.int .i64)) _ _ A0 l0.length l0 := (Kd.V_at (base := w.heap.size) HO_0.out).2.2
         have hcut34 := cut_to (P := Try.prog) 32 23 .i64 Try.underlying32 hi034 A0 l0.length c0 x5_1 (dd_) q34 hroom34
         have hr34 := Kd.F_take (m := (x5_1 : Int).toNat) hC34 (by omega)
         have hy34 : y422.length = (x5_1 : Int).toNat := (by rw [Ny422.out, List.length_take]; omega)
         rw [← Ny422.out] at hr34
         rw [← hy34] at hcut34
         have HO426 := Aside0.mk (show Kd.V (Kd.slice 3 (Kd.int .i64)) 23 _ w.heap.size _ (.slice A0 y422.length c0) y422 from Kd.V_mk (by omega) hr34)
         have HC426 := Aside0.mk (show y422.length ≤ c0 from by omega)
         clear hr34 hC34 hroom34 hi034 hsz34
         have KY34 := Aside0.mk hy34
         clear hy34
         replace q34 := eq_true q34
         have q35 : (x5_1 : Int) ≤ ((l0.length : Int) : Int) := dd_
         obtain ⟨i035, hi035, _, hsz35, _⟩ := info_parts info23
         have hroom35 : l0.length ≤ c0 := (Kd.V_reads' HO_0.out).2.1
         have hC35 : Kd.F (Kd.slice 3 (Kd.int .i64)) _ _ A0 l0.length l0 := (Kd.V_at (base := w.heap.size) HO_0.out).2.2
         have q035 : (0 : Int) ≤ (x5_1 : Int) := dd_
         have hcut35 := cut_from (P := Try.prog) 32 23 .i64 Try.underlying32 hi035 1 hsz35 A0 l0.length c0 x5_1 q035 q35
         have hr35 := Kd.F_cut (m := (x5_1 : Int).toNat) (c := c0) hC35 (by omega) hroom35
         obtain ⟨A35, hA35⟩ : ∃ A1, A1 = (if c0 = (x5_1 : Int).toNat then A0 else (A0 : Option Addr).map (·.add ((x5_1 : Int).toNat * 1))) := ⟨_, rfl⟩
         obtain ⟨c35, hc35⟩ : ∃ c1, c1 = c0 - (x5_1 : Int).toNat := ⟨_, rfl⟩
         have hy35 : y436.length = l0.length - (x5_1 : Int).toNat := (by rw [Ny436.out, List.length_drop] <;> omega)
         rw [show (l0).drop (x5_1 : Int).toNat = y436 from Ny436.out.symm] at hr35
         replace hr35 : Kd.F (Kd.slice 3 (Kd.int .i64)) _ _ A35 y436.length y436 := (by rw [hA35]; exact hr35)
         rw [← hy35, ← hA35, ← hc35] at hcut35
         have HO440 := Aside0.mk (show Kd.V (Kd.slice 3 (Kd.int .i64)) 23 _ w.heap.size _ (.slice A35 y436.length c35) y436 from Kd.V_mk (by rw [hy35, hc35]; exact Nat.sub_le_sub_right hroom35 _) hr35)
         have HC440 := Aside0.mk (show y436.length ≤ c35 from by rw [hy35, hc35]; exact Nat.sub_le_sub_right hroom35 _)
         clear hr35 hC35 hroom35 hi035 hsz35 hc35
         have KY35 := Aside0.mk hy35
         have KA35 := Aside0.mk hA35
         clear hy35 hA35
         replace q35 := eq_true q35
         refine start_ (n := 13) (S := fun w' => True) (ds := []) #[F_,F_,F_,F_,F_,F_,F_,F_,F_,F_,F_,F_,F_] (by kernel_rfl) rfl rfl trivial (fun hHeld => ?_); refine with_tabW spec_l6lPut.tab4 spec_l6lPut.bits4 (fun HT_ HW_ => ?_)
         generalize wr.drew = w33 at HO_0 HO_1 HB HO426 HO440 hHeld ⊢
         refine p_ 1 21 (m_ 13 2) HT_.out ?_
         refine p_ 2 22 (m_ 13 6) HT_.out ?_
         refine p_ 3 23 (m_ 13 14) HT_.out ?_
         refine p_ 5 25 (m_ 13 46) HT_.out ?_
         refine p_ 8 28 (m_ 13 302) HT_.out ?_
         refine p_ 9 29 (m_ 13 814) HT_.out ?_
         refine p_ 10 30 (m_ 13 1838) HT_.out ?_
         refine join_ (σ := Value × Value × Value) 3 (m_ 13 1919) (fun s_ => [(20, s_.1), (24, s_.2.1), (26, s_.2.2)]) (fun s_ w' => (Kd.V (Kd.slice 3 (Kd.int .i64)) 23 w' w.heap.size (fun k_ => ((P0_ k_ ∨ P1_ k_) ∨ w.heap.size ≤ k_) ∧ some k_ ≠ (s_.2.1 : Value).ownBlock ∧ some k_ ≠ (s_.2.2 : Value).ownBlock) (.slice A0 y422.length c0) y422) ∧ (Kd.N (Kd.slice 3 (Kd.int .i64)) 23 w' w.heap.size (fun k_ => ((P0_ k_ ∨ P1_ k_) ∨ w.heap.size ≤ k_) ∧ some k_ ≠ (s_.2.2 : Value).ownBlock) s_.2.1 y427) ∧ (Kd.N (Kd.slice 3 (Kd.int .i64)) 23 w' w.heap.size (fun k_ => ((P0_ k_ ∨ P1_ k_) ∨ w.heap.size ≤ k_) ∧ some k_ ≠ (s_.2.1 : Value).ownBlock) s_.2.2 y430) ∧ (Kd.V (Kd.slice 3 (Kd.int .i64)) 23 w' w.heap.size (fun k_ => ((P0_ k_ ∨ P1_ k_) ∨ w.heap.size ≤ k_) ∧ some k_ ≠ (s_.2.1 : Value).ownBlock ∧ some k_ ≠ (s_.2.2 : Value).ownBlock) (.slice A35 y436.length c35) y436) ∧ (Kd.V (Kd.slice 3 (Kd.int .i64)) 23 w' w.heap.size (fun k_ => ((P0_ k_ ∨ P1_ k_) ∨ w.heap.size ≤ k_) ∧ some k_ ≠ (s_.2.1 : Value).ownBlock ∧ some k_ ≠ (s_.2.2 : Value).ownBlock) (.slice A0 l0.length c0) l0) ∧ (Kd.V (Kd.int .i64) 3 w' w.heap.size (fun k_ => ((P0_ k_ ∨ P1_ k_) ∨ w.heap.size ≤ k_) ∧ some k_ ≠ (s_.2.1 : Value).ownBlock ∧ some k_ ≠ (s_.2.2 : Value).ownBlock) (.slice A1 l1.length c1) l1) ∧ (Below w.heap.size w w')) ?_ ?_
         rotate_left
         ·intro hCont
          refine two_ (i := 0) (j := 6) (Ni := some 20) (Nj := some 26) (m_ 13 1839) (m_ 13 1902) rfl rfl rfl rfl (two_of HT_.out (by kernel_rfl)) (by decide) (by decide) (fun K hK => ?_) (fun K hK => ?_)
          ·skip
           refine Kd.N_lit_step (Kd.slice 3 (Kd.int .i64)) _ 23 ?hg (N' := 20) ?hd (xs := ([] : List (List Int))) (inner := []) (ok := (fun k_ => ((P0_ k_ ∨ P1_ k_) ∨ w.heap.size ≤ k_))) (okp := (fun k_ => ((P0_ k_ ∨ P1_ k_) ∨ w.heap.size ≤ k_))) ?hr ?hp (fun _ hk => hk) ((show ∀ k_, w33.heap.size ≤ k_ → (fun k_ => ((P0_ k_ ∨ P1_ k_) ∨ w.heap.size ≤ k_)) k_ from fun k_ hk => (.inr (Nat.le_trans (below_size (bb_ HB)) hk))) _ (Nat.le_refl _)) (Below.refl _ _) (Nat.le_refl _) (by simp) ?_; (case hd => rfl); (case hg => rfl); (case hr => first | (go_simp; done) | (go_simp; rfl)); (case hp => exact (Reps.none _ _))
           intro v420 w36 ho37 hb hg_ hnew_
           clear hg_ hnew_
           (first | rw [← Ny419.out] at ho37 | (simp only [Int.reduceToNat] at ho37; rw [← Ny419.out] at ho37))
           have n0_ := Aside0.mk (Kd.V_elder' (by (with_reducible repeat (first | apply Kd.V_alloc | apply Kd.V_drewN | apply Kd.V_drew)); exact HO_0.out) (Kd.N_base ho37) hb)
           have n1_ := Aside0.mk (Kd.V_elder' (by (with_reducible repeat (first | apply Kd.V_alloc | apply Kd.V_drewN | apply Kd.V_drew)); exact HO_1.out) (Kd.N_base ho37) hb)
           have n2_ := Aside0.mk (Kd.V_elder' (by (with_reducible repeat (first | apply Kd.V_alloc | apply Kd.V_drewN | apply Kd.V_drew)); exact HO426.out) (Kd.N_base ho37) hb)
           have n3_ := Aside0.mk (Kd.V_elder' (by (with_reducible repeat (first | apply Kd.V_alloc | apply Kd.V_drewN | apply Kd.V_drew)); exact HO440.out) (Kd.N_base ho37) hb)
           have n4_ := Aside0.mk (Kd.N_lower ho37 (below_size (bb_ HB)))
           have n5_ := Aside0.mk (below_step (bb_ HB) hb)
           clear HO_0
           clear HO_1
           clear HO426
           clear HO440
           clear HB
           have HO_0 := n0_
           have HO_1 := n1_
           have HO426 := n2_
           have HO440 := n3_
           have HO421 := n4_
           have HB := n5_
           clear n0_ n1_ n2_ n3_ n4_ n5_
           clear hb ho37
           refine hK.out _ _ trivial (fun hHeld => ?_)
           clear hK K
           refine norm_ (a' := ?_) ?_ ?_; rotate_left; (show Act.put _ (some 20) _ = _; simp only [Act.put, List.setIfInBounds_toArray, List.set_cons_zero, List.set_cons_succ, i64_w, i32_w]; rfl)
           refine two_ (i := 4) (j := 6) (Ni := some 24) (Nj := some 26) (m_ 13 1855) (m_ 13 1903) rfl rfl rfl rfl (two_of HT_.out (by kernel_rfl)) (by decide) (by decide) (fun K hK => ?_) (fun K hK => ?_)
           ·skip
            refine Kd.N_append_rows_step (Kd.slice 3 (Kd.int .i64)) (w0 := w) w.heap.size (by rfl) (.tmp 20) (.tmp 23) 32 23 (.slice none 0 0) 24 rfl Try.underlying32 info23 rfl (by decide) (by omega) v420 y419 y422 _ _ _ (fun k_ => ((P0_ k_ ∨ P1_ k_) ∨ w.heap.size ≤ k_)) (fun k_ => ((fun k_ => ((P0_ k_ ∨ P1_ k_) ∨ w.heap.size ≤ k_))) k_ ∧ some k_ ≠ (v420 : Value).ownBlock) rfl rfl ?aO ?aR (fun _ hk => hk) ?aF ?aB ?aS ?aL ?_
            (case aR => exact (by skip; exact Kd.V_F (Kd.V_mono (ok' := (fun k_ => ((fun k_ => ((P0_ k_ ∨ P1_ k_) ∨ w.heap.size ≤ k_))) k_ ∧ some k_ ≠ (v420 : Value).ownBlock)) (HO426.out) (fun k_ hk => ⟨hk.1, hk.2⟩))))
            (case aB => exact (bb_ HB))
            (case aF => exact (fun k_ hk => (.inr (Nat.le_trans (below_size (bb_ HB)) hk))))
            (case aO => exact (by (with_reducible repeat (first | apply Kd.N_alloc | apply Kd.N_drewN | apply Kd.N_drew)); exact HO421.out))
            (case aS => exact (below_size (bb_ HB)))
            (case aL => have := LMc28.out; omega)
            intro v428 w38 ho hb hg hat
            rw [← Ny427.out] at ho
            have n0_ := Aside0.mk (Kd.V_afterv (ok := (fun k_ => ((P0_ k_ ∨ P1_ k_) ∨ w.heap.size ≤ k_))) (by (with_reducible repeat (first | apply Kd.V_alloc | apply Kd.V_drewN | apply Kd.V_drew)); exact HO_0.out) hg hat)
            have n1_ := Aside0.mk (Kd.V_afterv (ok := (fun k_ => ((P0_ k_ ∨ P1_ k_) ∨ w.heap.size ≤ k_))) (by (with_reducible repeat (first | apply Kd.V_alloc | apply Kd.V_drewN | apply Kd.V_drew)); exact HO_1.out) hg hat)
            have n2_ := Aside0.mk (Kd.V_afterv (ok := (fun k_ => ((P0_ k_ ∨ P1_ k_) ∨ w.heap.size ≤ k_))) (by (with_reducible repeat (first | apply Kd.V_alloc | apply Kd.V_drewN | apply Kd.V_drew)); exact HO426.out) hg hat)
            have n3_ := Aside0.mk (Kd.V_afterv (ok := (fun k_ => ((P0_ k_ ∨ P1_ k_) ∨ w.heap.size ≤ k_))) (by (with_reducible repeat (first | apply Kd.V_alloc | apply Kd.V_drewN | apply Kd.V_drew)); exact HO440.out) hg hat)
            have n4_ := Aside0.mk (hb)
            have n5_ := Aside0.mk (ho)
            clear HO_0
            clear HO_1
            clear HO426
            clear HO440
            clear HB
            clear HO421
            have HO_0 := n0_
            have HO_1 := n1_
            have HO426 := n2_
            have HO440 := n3_
            have HB := n4_
            have HO429 := n5_
            clear n0_ n1_ n2_ n3_ n4_ n5_
            clear ho hb hg hat
            refine hK.out _ _ trivial (fun hHeld => ?_)
            clear hK K
            refine norm_ (a' := ?_) ?_ ?_; rotate_left; (show Act.put _ (some 24) _ = _; simp only [Act.put, List.setIfInBounds_toArray, List.set_cons_zero, List.set_cons_succ, i64_w, i32_w]; rfl)
            refine one_ (i := 6) (N := some 26) (m_ 13 1919) rfl rfl (one_of HT_.out (by kernel_rfl)) (by decide) (fun K hK => ?_)
            refine Kd.N_lit_step (Kd.slice 3 (Kd.int .i64)) _ 23 ?hg (N' := 26) ?hd (xs := ([l1] : List (List Int))) (inner := [.slice A1 l1.length c1]) (ok := (fun k_ => ((P0_ k_ ∨ P1_ k_) ∨ w.heap.size ≤ k_) ∧ some k_ ≠ (v428 : Value).ownBlock)) (okp := (fun k_ => ((P0_ k_ ∨ P1_ k_) ∨ w.heap.size ≤ k_) ∧ some k_ ≠ (v428 : Value).ownBlock)) ?hr ?hp (fun _ hk => hk) ((show ∀ k_, w38.heap.size ≤ k_ → (fun k_ => ((P0_ k_ ∨ P1_ k_) ∨ w.heap.size ≤ k_) ∧ some k_ ≠ (v428 : Value).ownBlock) k_ from fun k_ hk => ⟨(.inr (Nat.le_trans (below_size (bb_ HB)) hk)), Kd.fresh' (Kd.N_lt (by (with_reducible repeat (first | apply Kd.N_alloc | apply Kd.N_drewN | apply Kd.N_drew)); exact HO429.out)) k_ hk⟩) _ (Nat.le_refl _)) (Below.refl _ _) (Nat.le_refl _) (by simp) ?_; (case hd => rfl); (case hg => rfl); (case hr => first | (go_simp; done) | (go_simp; rfl)); (case hp => exact (Reps.one (show Kd.FK (Kd.slice 3 (Kd.int .i64)) _ _ l1 [.slice A1 l1.length c1] from (Kd.FK_slice_mk (Kd.V_reads' (Kd.V_mono (ok' := (fun k_ => ((P0_ k_ ∨ P1_ k_) ∨ w.heap.size ≤ k_) ∧ some k_ ≠ (v428 : Value).ownBlock)) (HO_1.out) (fun k_ hk => ⟨hk.1, hk.2⟩))).2.1 (Kd.V_F (Kd.V_mono (ok' := (fun k_ => ((P0_ k_ ∨ P1_ k_) ∨ w.heap.size ≤ k_) ∧ some k_ ≠ (v428 : Value).ownBlock)) (HO_1.out) (fun k_ hk => ⟨hk.1, hk.2⟩))))) (Reps.none _ _)))
            intro v431 w39 ho40 hb hg_ hnew_
            clear hg_ hnew_
            (first | rw [← Ny430.out] at ho40 | (simp only [Int.reduceToNat] at ho40; rw [← Ny430.out] at ho40))
            have n0_ := Aside0.mk (Kd.V_elder' (by (with_reducible repeat (first | apply Kd.V_alloc | apply Kd.V_drewN | apply Kd.V_drew)); exact HO_0.out) (Kd.N_base ho40) hb)
            have n1_ := Aside0.mk (Kd.V_elder' (by (with_reducible repeat (first | apply Kd.V_alloc | apply Kd.V_drewN | apply Kd.V_drew)); exact HO_1.out) (Kd.N_base ho40) hb)
            have n2_ := Aside0.mk (Kd.V_elder' (by (with_reducible repeat (first | apply Kd.V_alloc | apply Kd.V_drewN | apply Kd.V_drew)); exact HO426.out) (Kd.N_base ho40) hb)
            have n3_ := Aside0.mk (Kd.V_elder' (by (with_reducible repeat (first | apply Kd.V_alloc | apply Kd.V_drewN | apply Kd.V_drew)); exact HO440.out) (Kd.N_base ho40) hb)
            have n4_ := Aside0.mk (Kd.N_elder' (by (with_reducible repeat (first | apply Kd.N_alloc | apply Kd.N_drewN | apply Kd.N_drew)); exact HO429.out) (Kd.N_base ho40) hb)
            have n5_ := Aside0.mk (Kd.N_lower ho40 (below_size (bb_ HB)))
            have n6_ := Aside0.mk (below_step (bb_ HB) hb)
            clear HO_0
            clear HO_1
            clear HO426
            clear HO440
            clear HO429
            clear HB
            have HO_0 := n0_
            have HO_1 := n1_
            have HO426 := n2_
            have HO440 := n3_
            have HO429 := n4_
            have HO432 := n5_
            have HB := n6_
            clear n0_ n1_ n2_ n3_ n4_ n5_ n6_
            clear hb ho40
            refine hK.out _ _ trivial (fun hHeld => ?_)
            clear hK K
            refine norm_ (a' := ?_) ?_ ?_; rotate_left; (show Act.put _ (some 26) _ = _; simp only [Act.put, List.setIfInBounds_toArray, List.set_cons_zero, List.set_cons_succ, i64_w, i32_w]; rfl)
            exact norm_ (by simp only [putAll, Act.put, List.setIfInBounds_toArray, List.set_cons_zero, List.set_cons_succ]) (hCont (v420, v428, v431) _ ⟨(by (with_reducible repeat (first | apply Kd.V_alloc | apply Kd.V_drewN | apply Kd.V_drew)); exact Kd.V_mono HO426.out (fun _ hk => ⟨hk.1.1, ⟨hk.1.2, hk.2⟩⟩)), (by (with_reducible repeat (first | apply Kd.N_alloc | apply Kd.N_drewN | apply Kd.N_drew)); exact HO429.out), (by (with_reducible repeat (first | apply Kd.N_alloc | apply Kd.N_drewN | apply Kd.N_drew)); exact HO432.out), (by (with_reducible repeat (first | apply Kd.V_alloc | apply Kd.V_drewN | apply Kd.V_drew)); exact Kd.V_mono HO440.out (fun _ hk => ⟨hk.1.1, ⟨hk.1.2, hk.2⟩⟩)), (by (with_reducible repeat (first | apply Kd.V_alloc | apply Kd.V_drewN | apply Kd.V_drew)); exact Kd.V_mono HO_0.out (fun _ hk => ⟨hk.1.1, ⟨hk.1.2, hk.2⟩⟩)), (by (with_reducible repeat (first | apply Kd.V_alloc | apply Kd.V_drewN | apply Kd.V_drew)); exact Kd.V_mono HO_1.out (fun _ hk => ⟨hk.1.1, ⟨hk.1.2, hk.2⟩⟩)), (bb_ HB)⟩)
           ·skip
            refine Kd.N_lit_step (Kd.slice 3 (Kd.int .i64)) _ 23 ?hg (N' := 26) ?hd (xs := ([l1] : List (List Int))) (inner := [.slice A1 l1.length c1]) (ok := (fun k_ => ((P0_ k_ ∨ P1_ k_) ∨ w.heap.size ≤ k_) ∧ some k_ ≠ (v420 : Value).ownBlock)) (okp := (fun k_ => ((P0_ k_ ∨ P1_ k_) ∨ w.heap.size ≤ k_) ∧ some k_ ≠ (v420 : Value).ownBlock)) ?hr ?hp (fun _ hk => hk) ((show ∀ k_, w36.heap.size ≤ k_ → (fun k_ => ((P0_ k_ ∨ P1_ k_) ∨ w.heap.size ≤ k_) ∧ some k_ ≠ (v420 : Value).ownBlock) k_ from fun k_ hk => ⟨(.inr (Nat.le_trans (below_size (bb_ HB)) hk)), Kd.fresh' (Kd.N_lt (by (with_reducible repeat (first | apply Kd.N_alloc | apply Kd.N_drewN | apply Kd.N_drew)); exact HO421.out)) k_ hk⟩) _ (Nat.le_refl _)) (Below.refl _ _) (Nat.le_refl _) (by simp) ?_; (case hd => rfl); (case hg => rfl); (case hr => first | (go_simp; done) | (go_simp; rfl)); (case hp => exact (Reps.one (show Kd.FK (Kd.slice 3 (Kd.int .i64)) _ _ l1 [.slice A1 l1.length c1] from (Kd.FK_slice_mk (Kd.V_reads' (Kd.V_mono (ok' := (fun k_ => ((P0_ k_ ∨ P1_ k_) ∨ w.heap.size ≤ k_) ∧ some k_ ≠ (v420 : Value).ownBlock)) (HO_1.out) (fun k_ hk => ⟨hk.1, hk.2⟩))).2.1 (Kd.V_F (Kd.V_mono (ok' := (fun k_ => ((P0_ k_ ∨ P1_ k_) ∨ w.heap.size ≤ k_) ∧ some k_ ≠ (v420 : Value).ownBlock)) (HO_1.out) (fun k_ hk => ⟨hk.1, hk.2⟩))))) (Reps.none _ _)))
            intro v431 w38 ho39 hb hg_ hnew_
            clear hg_ hnew_
            (first | rw [← Ny430.out] at ho39 | (simp only [Int.reduceToNat] at ho39; rw [← Ny430.out] at ho39))
            have n0_ := Aside0.mk (Kd.V_elder' (by (with_reducible repeat (first | apply Kd.V_alloc | apply Kd.V_drewN | apply Kd.V_drew)); exact HO_0.out) (Kd.N_base ho39) hb)
            have n1_ := Aside0.mk (Kd.V_elder' (by (with_reducible repeat (first | apply Kd.V_alloc | apply Kd.V_drewN | apply Kd.V_drew)); exact HO_1.out) (Kd.N_base ho39) hb)
            have n2_ := Aside0.mk (Kd.V_elder' (by (with_reducible repeat (first | apply Kd.V_alloc | apply Kd.V_drewN | apply Kd.V_drew)); exact HO426.out) (Kd.N_base ho39) hb)
            have n3_ := Aside0.mk (Kd.V_elder' (by (with_reducible repeat (first | apply Kd.V_alloc | apply Kd.V_drewN | apply Kd.V_drew)); exact HO440.out) (Kd.N_base ho39) hb)
            have n4_ := Aside0.mk (Kd.N_elder' (by (with_reducible repeat (first | apply Kd.N_alloc | apply Kd.N_drewN | apply Kd.N_drew)); exact HO421.out) (Kd.N_base ho39) hb)
            have n5_ := Aside0.mk (Kd.N_lower ho39 (below_size (bb_ HB)))
            have n6_ := Aside0.mk (below_step (bb_ HB) hb)
            clear HO_0
            clear HO_1
            clear HO426
            clear HO440
            clear HO421
            clear HB
            have HO_0 := n0_
            have HO_1 := n1_
            have HO426 := n2_
            have HO440 := n3_
            have HO421 := n4_
            have HO432 := n5_
            have HB := n6_
            clear n0_ n1_ n2_ n3_ n4_ n5_ n6_
            clear hb ho39
            refine hK.out _ _ trivial (fun hHeld => ?_)
            clear hK K
            refine norm_ (a' := ?_) ?_ ?_; rotate_left; (show Act.put _ (some 26) _ = _; simp only [Act.put, List.setIfInBounds_toArray, List.set_cons_zero, List.set_cons_succ, i64_w, i32_w]; rfl)
            refine one_ (i := 4) (N := some 24) (m_ 13 1919) rfl rfl (one_of HT_.out (by kernel_rfl)) (by decide) (fun K hK => ?_)
            refine Kd.N_append_rows_step (Kd.slice 3 (Kd.int .i64)) (w0 := w) w.heap.size (by rfl) (.tmp 20) (.tmp 23) 32 23 (.slice none 0 0) 24 rfl Try.underlying32 info23 rfl (by decide) (by omega) v420 y419 y422 _ _ _ (fun k_ => ((P0_ k_ ∨ P1_ k_) ∨ w.heap.size ≤ k_) ∧ some k_ ≠ (v431 : Value).ownBlock) (fun k_ => ((fun k_ => ((P0_ k_ ∨ P1_ k_) ∨ w.heap.size ≤ k_) ∧ some k_ ≠ (v431 : Value).ownBlock)) k_ ∧ some k_ ≠ (v420 : Value).ownBlock) rfl rfl ?aO ?aR (fun _ hk => hk) ?aF ?aB ?aS ?aL ?_
            (case aR => exact (by skip; exact Kd.V_F (Kd.V_mono (ok' := (fun k_ => ((fun k_ => ((P0_ k_ ∨ P1_ k_) ∨ w.heap.size ≤ k_) ∧ some k_ ≠ (v431 : Value).ownBlock)) k_ ∧ some k_ ≠ (v420 : Value).ownBlock)) (HO426.out) (fun k_ hk => ⟨⟨hk.1.1, hk.2⟩, hk.1.2⟩))))
            (case aB => exact (bb_ HB))
            (case aF => exact (fun k_ hk => ⟨(.inr (Nat.le_trans (below_size (bb_ HB)) hk)), Kd.fresh' (Kd.N_lt (by (with_reducible repeat (first | apply Kd.N_alloc | apply Kd.N_drewN | apply Kd.N_drew)); exact HO432.out)) k_ hk⟩))
            (case aO => exact (by (with_reducible repeat (first | apply Kd.N_alloc | apply Kd.N_drewN | apply Kd.N_drew)); exact HO421.out))
            (case aS => exact (below_size (bb_ HB)))
            (case aL => have := LMc28.out; omega)
            intro v428 w40 ho hb hg hat
            rw [← Ny427.out] at ho
            have n0_ := Aside0.mk (Kd.V_afterv (ok := (fun k_ => ((P0_ k_ ∨ P1_ k_) ∨ w.heap.size ≤ k_) ∧ some k_ ≠ (v431 : Value).ownBlock)) (by (with_reducible repeat (first | apply Kd.V_alloc | apply Kd.V_drewN | apply Kd.V_drew)); exact Kd.V_mono HO_0.out (fun _ hk => ⟨⟨hk.1.1, hk.2⟩, hk.1.2⟩)) hg hat)
            have n1_ := Aside0.mk (Kd.V_afterv (ok := (fun k_ => ((P0_ k_ ∨ P1_ k_) ∨ w.heap.size ≤ k_) ∧ some k_ ≠ (v431 : Value).ownBlock)) (by (with_reducible repeat (first | apply Kd.V_alloc | apply Kd.V_drewN | apply Kd.V_drew)); exact Kd.V_mono HO_1.out (fun _ hk => ⟨⟨hk.1.1, hk.2⟩, hk.1.2⟩)) hg hat)
            have n2_ := Aside0.mk (Kd.V_afterv (ok := (fun k_ => ((P0_ k_ ∨ P1_ k_) ∨ w.heap.size ≤ k_) ∧ some k_ ≠ (v431 : Value).ownBlock)) (by (with_reducible repeat (first | apply Kd.V_alloc | apply Kd.V_drewN | apply Kd.V_drew)); exact Kd.V_mono HO426.out (fun _ hk => ⟨⟨hk.1.1, hk.2⟩, hk.1.2⟩)) hg hat)
            have n3_ := Aside0.mk (Kd.V_afterv (ok := (fun k_ => ((P0_ k_ ∨ P1_ k_) ∨ w.heap.size ≤ k_) ∧ some k_ ≠ (v431 : Value).ownBlock)) (by (with_reducible repeat (first | apply Kd.V_alloc | apply Kd.V_drewN | apply Kd.V_drew)); exact Kd.V_mono HO440.out (fun _ hk => ⟨⟨hk.1.1, hk.2⟩, hk.1.2⟩)) hg hat)
            have n4_ := Aside0.mk (Kd.N_afterv (ok := (fun k_ => ((P0_ k_ ∨ P1_ k_) ∨ w.heap.size ≤ k_))) (by (with_reducible repeat (first | apply Kd.N_alloc | apply Kd.N_drewN | apply Kd.N_drew)); exact HO432.out) hg hat)
            have n5_ := Aside0.mk (hb)
            have n6_ := Aside0.mk (ho)
            clear HO_0
            clear HO_1
            clear HO426
            clear HO440
            clear HO432
            clear HB
            clear HO421
            have HO_0 := n0_
            have HO_1 := n1_
            have HO426 := n2_
            have HO440 := n3_
            have HO432 := n4_
            have HB := n5_
            have HO429 := n6_
            clear n0_ n1_ n2_ n3_ n4_ n5_ n6_
            clear ho hb hg hat
            refine hK.out _ _ trivial (fun hHeld => ?_)
            clear hK K
            refine norm_ (a' := ?_) ?_ ?_; rotate_left; (show Act.put _ (some 24) _ = _; simp only [Act.put, List.setIfInBounds_toArray, List.set_cons_zero, List.set_cons_succ, i64_w, i32_w]; rfl)
            exact norm_ (by simp only [putAll, Act.put, List.setIfInBounds_toArray, List.set_cons_zero, List.set_cons_succ]) (hCont (v420, v428, v431) _ ⟨(by (with_reducible repeat (first | apply Kd.V_alloc | apply Kd.V_drewN | apply Kd.V_drew)); exact Kd.V_mono HO426.out (fun _ hk => ⟨hk.1.1, ⟨hk.2, hk.1.2⟩⟩)), (by (with_reducible repeat (first | apply Kd.N_alloc | apply Kd.N_drewN | apply Kd.N_drew)); exact HO429.out), (by (with_reducible repeat (first | apply Kd.N_alloc | apply Kd.N_drewN | apply Kd.N_drew)); exact HO432.out), (by (with_reducible repeat (first | apply Kd.V_alloc | apply Kd.V_drewN | apply Kd.V_drew)); exact Kd.V_mono HO440.out (fun _ hk => ⟨hk.1.1, ⟨hk.2, hk.1.2⟩⟩)), (by (with_reducible repeat (first | apply Kd.V_alloc | apply Kd.V_drewN | apply Kd.V_drew)); exact Kd.V_mono HO_0.out (fun _ hk => ⟨hk.1.1, ⟨hk.2, hk.1.2⟩⟩)), (by (with_reducible repeat (first | apply Kd.V_alloc | apply Kd.V_drewN | apply Kd.V_drew)); exact Kd.V_mono HO_1.out (fun _ hk => ⟨hk.1.1, ⟨hk.2, hk.1.2⟩⟩)), (bb_ HB)⟩)
          ·skip
           refine Kd.N_lit_step (Kd.slice 3 (Kd.int .i64)) _ 23 ?hg (N' := 26) ?hd (xs := ([l1] : List (List Int))) (inner := [.slice A1 l1.length c1]) (ok := (fun k_ => ((P0_ k_ ∨ P1_ k_) ∨ w.heap.size ≤ k_))) (okp := (fun k_ => ((P0_ k_ ∨ P1_ k_) ∨ w.heap.size ≤ k_))) ?hr ?hp (fun _ hk => hk) ((show ∀ k_, w33.heap.size ≤ k_ → (fun k_ => ((P0_ k_ ∨ P1_ k_) ∨ w.heap.size ≤ k_)) k_ from fun k_ hk => (.inr (Nat.le_trans (below_size (bb_ HB)) hk))) _ (Nat.le_refl _)) (Below.refl _ _) (Nat.le_refl _) (by simp) ?_; (case hd => rfl); (case hg => rfl); (case hr => first | (go_simp; done) | (go_simp; rfl)); (case hp => exact (Reps.one (show Kd.FK (Kd.slice 3 (Kd.int .i64)) _ _ l1 [.slice A1 l1.length c1] from (Kd.FK_slice_mk (Kd.V_reads' (Kd.V_mono (ok' := (fun k_ => ((P0_ k_ ∨ P1_ k_) ∨ w.heap.size ≤ k_))) (HO_1.out) (fun k_ hk => hk))).2.1 (Kd.V_F (Kd.V_mono (ok' := (fun k_ => ((P0_ k_ ∨ P1_ k_) ∨ w.heap.size ≤ k_))) (HO_1.out) (fun k_ hk => hk))))) (Reps.none _ _)))
           intro v431 w36 ho37 hb hg_ hnew_
           clear hg_ hnew_
           (first | rw [← Ny430.out] at ho37 | (simp only [Int.reduceToNat] at ho37; rw [← Ny430.out] at ho37))
           have n0_ := Aside0.mk (Kd.V_elder' (by (with_reducible repeat (first | apply Kd.V_alloc | apply Kd.V_drewN | apply Kd.V_drew)); exact HO_0.out) (Kd.N_base ho37) hb)
           have n1_ := Aside0.mk (Kd.V_elder' (by (with_reducible repeat (first | apply Kd.V_alloc | apply Kd.V_drewN | apply Kd.V_drew)); exact HO_1.out) (Kd.N_base ho37) hb)
           have n2_ := Aside0.mk (Kd.V_elder' (by (with_reducible repeat (first | apply Kd.V_alloc | apply Kd.V_drewN | apply Kd.V_drew)); exact HO426.out) (Kd.N_base ho37) hb)
           have n3_ := Aside0.mk (Kd.V_elder' (by (with_reducible repeat (first | apply Kd.V_alloc | apply Kd.V_drewN | apply Kd.V_drew)); exact HO440.out) (Kd.N_base ho37) hb)
           have n4_ := Aside0.mk (Kd.N_lower ho37 (below_size (bb_ HB)))
           have n5_ := Aside0.mk (below_step (bb_ HB) hb)
           clear HO_0
           clear HO_1
           clear HO426
           clear HO440
           clear HB
           have HO_0 := n0_
           have HO_1 := n1_
           have HO426 := n2_
           have HO440 := n3_
           have HO432 := n4_
           have HB := n5_
           clear n0_ n1_ n2_ n3_ n4_ n5_
           clear hb ho37
           refine hK.out _ _ trivial (fun hHeld => ?_)
           clear hK K
           refine norm_ (a' := ?_) ?_ ?_; rotate_left; (show Act.put _ (some 26) _ = _; simp only [Act.put, List.setIfInBounds_toArray, List.set_cons_zero, List.set_cons_succ, i64_w, i32_w]; rfl)
           refine one_ (i := 0) (N := some 20) (m_ 13 1903) rfl rfl (one_of HT_.out (by kernel_rfl)) (by decide) (fun K hK => ?_)
           refine Kd.N_lit_step (Kd.slice 3 (Kd.int .i64)) _ 23 ?hg (N' := 20) ?hd (xs := ([] : List (List Int))) (inner := []) (ok := (fun k_ => ((P0_ k_ ∨ P1_ k_) ∨ w.heap.size ≤ k_) ∧ some k_ ≠ (v431 : Value).ownBlock)) (okp := (fun k_ => ((P0_ k_ ∨ P1_ k_) ∨ w.heap.size ≤ k_) ∧ some k_ ≠ (v431 : Value).ownBlock)) ?hr ?hp (fun _ hk => hk) ((show ∀ k_, w36.heap.size ≤ k_ → (fun k_ => ((P0_ k_ ∨ P1_ k_) ∨ w.heap.size ≤ k_) ∧ some k_ ≠ (v431 : Value).ownBlock) k_ from fun k_ hk => ⟨(.inr (Nat.le_trans (below_size (bb_ HB)) hk)), Kd.fresh' (Kd.N_lt (by (with_reducible repeat (first | apply Kd.N_alloc | apply Kd.N_drewN | apply Kd.N_drew)); exact HO432.out)) k_ hk⟩) _ (Nat.le_refl _)) (Below.refl _ _) (Nat.le_refl _) (by simp) ?_; (case hd => rfl); (case hg => rfl); (case hr => first | (go_simp; done) | (go_simp; rfl)); (case hp => exact (Reps.none _ _))
           intro v420 w38 ho39 hb hg_ hnew_
           clear hg_ hnew_
           (first | rw [← Ny419.out] at ho39 | (simp only [Int.reduceToNat] at ho39; rw [← Ny419.out] at ho39))
           have n0_ := Aside0.mk (Kd.V_elder' (by (with_reducible repeat (first | apply Kd.V_alloc | apply Kd.V_drewN | apply Kd.V_drew)); exact HO_0.out) (Kd.N_base ho39) hb)
           have n1_ := Aside0.mk (Kd.V_elder' (by (with_reducible repeat (first | apply Kd.V_alloc | apply Kd.V_drewN | apply Kd.V_drew)); exact HO_1.out) (Kd.N_base ho39) hb)
           have n2_ := Aside0.mk (Kd.V_elder' (by (with_reducible repeat (first | apply Kd.V_alloc | apply Kd.V_drewN | apply Kd.V_drew)); exact HO426.out) (Kd.N_base ho39) hb)
           have n3_ := Aside0.mk (Kd.V_elder' (by (with_reducible repeat (first | apply Kd.V_alloc | apply Kd.V_drewN | apply Kd.V_drew)); exact HO440.out) (Kd.N_base ho39) hb)
           have n4_ := Aside0.mk (Kd.N_elder' (by (with_reducible repeat (first | apply Kd.N_alloc | apply Kd.N_drewN | apply Kd.N_drew)); exact HO432.out) (Kd.N_base ho39) hb)
           have n5_ := Aside0.mk (Kd.N_lower ho39 (below_size (bb_ HB)))
           have n6_ := Aside0.mk (below_step (bb_ HB) hb)
           clear HO_0
           clear HO_1
           clear HO426
           clear HO440
           clear HO432
           clear HB
           have HO_0 := n0_
           have HO_1 := n1_
           have HO426 := n2_
           have HO440 := n3_
           have HO432 := n4_
           have HO421 := n5_
           have HB := n6_
           clear n0_ n1_ n2_ n3_ n4_ n5_ n6_
           clear hb ho39
           refine hK.out _ _ trivial (fun hHeld => ?_)
           clear hK K
           refine norm_ (a' := ?_) ?_ ?_; rotate_left; (show Act.put _ (some 20) _ = _; simp only [Act.put, List.setIfInBounds_toArray, List.set_cons_zero, List.set_cons_succ, i64_w, i32_w]; rfl)
           refine one_ (i := 4) (N := some 24) (m_ 13 1919) rfl rfl (one_of HT_.out (by kernel_rfl)) (by decide) (fun K hK => ?_)
           refine Kd.N_append_rows_step (Kd.slice 3 (Kd.int .i64)) (w0 := w) w.heap.size (by rfl) (.tmp 20) (.tmp 23) 32 23 (.slice none 0 0) 24 rfl Try.underlying32 info23 rfl (by decide) (by omega) v420 y419 y422 _ _ _ (fun k_ => ((P0_ k_ ∨ P1_ k_) ∨ w.heap.size ≤ k_) ∧ some k_ ≠ (v431 : Value).ownBlock) (fun k_ => ((fun k_ => ((P0_ k_ ∨ P1_ k_) ∨ w.heap.size ≤ k_) ∧ some k_ ≠ (v431 : Value).ownBlock)) k_ ∧ some k_ ≠ (v420 : Value).ownBlock) rfl rfl ?aO ?aR (fun _ hk => hk) ?aF ?aB ?aS ?aL ?_
           (case aR => exact (by skip; exact Kd.V_F (Kd.V_mono (ok' := (fun k_ => ((fun k_ => ((P0_ k_ ∨ P1_ k_) ∨ w.heap.size ≤ k_) ∧ some k_ ≠ (v431 : Value).ownBlock)) k_ ∧ some k_ ≠ (v420 : Value).ownBlock)) (HO426.out) (fun k_ hk => ⟨⟨hk.1.1, hk.1.2⟩, hk.2⟩))))
           (case aB => exact (bb_ HB))
           (case aF => exact (fun k_ hk => ⟨(.inr (Nat.le_trans (below_size (bb_ HB)) hk)), Kd.fresh' (Kd.N_lt (by (with_reducible repeat (first | apply Kd.N_alloc | apply Kd.N_drewN | apply Kd.N_drew)); exact HO432.out)) k_ hk⟩))
           (case aO => exact (by (with_reducible repeat (first | apply Kd.N_alloc | apply Kd.N_drewN | apply Kd.N_drew)); exact HO421.out))
           (case aS => exact (below_size (bb_ HB)))
           (case aL => have := LMc28.out; omega)
           intro v428 w40 ho hb hg hat
           rw [← Ny427.out] at ho
           have n0_ := Aside0.mk (Kd.V_afterv (ok := (fun k_ => ((P0_ k_ ∨ P1_ k_) ∨ w.heap.size ≤ k_) ∧ some k_ ≠ (v431 : Value).ownBlock)) (by (with_reducible repeat (first | apply Kd.V_alloc | apply Kd.V_drewN | apply Kd.V_drew)); exact HO_0.out) hg hat)
           have n1_ := Aside0.mk (Kd.V_afterv (ok := (fun k_ => ((P0_ k_ ∨ P1_ k_) ∨ w.heap.size ≤ k_) ∧ some k_ ≠ (v431 : Value).ownBlock)) (by (with_reducible repeat (first | apply Kd.V_alloc | apply Kd.V_drewN | apply Kd.V_drew)); exact HO_1.out) hg hat)
           have n2_ := Aside0.mk (Kd.V_afterv (ok := (fun k_ => ((P0_ k_ ∨ P1_ k_) ∨ w.heap.size ≤ k_) ∧ some k_ ≠ (v431 : Value).ownBlock)) (by (with_reducible repeat (first | apply Kd.V_alloc | apply Kd.V_drewN | apply Kd.V_drew)); exact HO426.out) hg hat)
           have n3_ := Aside0.mk (Kd.V_afterv (ok := (fun k_ => ((P0_ k_ ∨ P1_ k_) ∨ w.heap.size ≤ k_) ∧ some k_ ≠ (v431 : Value).ownBlock)) (by (with_reducible repeat (first | apply Kd.V_alloc | apply Kd.V_drewN | apply Kd.V_drew)); exact HO440.out) hg hat)
           have n4_ := Aside0.mk (Kd.N_afterv (ok := (fun k_ => ((P0_ k_ ∨ P1_ k_) ∨ w.heap.size ≤ k_))) (by (with_reducible repeat (first | apply Kd.N_alloc | apply Kd.N_drewN | apply Kd.N_drew)); exact HO432.out) hg hat)
           have n5_ := Aside0.mk (hb)
           have n6_ := Aside0.mk (ho)
           clear HO_0
           clear HO_1
           clear HO426
           clear HO440
           clear HO432
           clear HB
           clear HO421
           have HO_0 := n0_
           have HO_1 := n1_
           have HO426 := n2_
           have HO440 := n3_
           have HO432 := n4_
           have HB := n5_
           have HO429 := n6_
           clear n0_ n1_ n2_ n3_ n4_ n5_ n6_
           clear ho hb hg hat
           refine hK.out _ _ trivial (fun hHeld => ?_)
           clear hK K
           refine norm_ (a' := ?_) ?_ ?_; rotate_left; (show Act.put _ (some 24) _ = _; simp only [Act.put, List.setIfInBounds_toArray, List.set_cons_zero, List.set_cons_succ, i64_w, i32_w]; rfl)
           exact norm_ (by simp only [putAll, Act.put, List.setIfInBounds_toArray, List.set_cons_zero, List.set_cons_succ]) (hCont (v420, v428, v431) _ ⟨(by (with_reducible repeat (first | apply Kd.V_alloc | apply Kd.V_drewN | apply Kd.V_drew)); exact Kd.V_mono HO426.out (fun _ hk => ⟨hk.1.1, ⟨hk.2, hk.1.2⟩⟩)), (by (with_reducible repeat (first | apply Kd.N_alloc | apply Kd.N_drewN | apply Kd.N_drew)); exact HO429.out), (by (with_reducible repeat (first | apply Kd.N_alloc | apply Kd.N_drewN | apply Kd.N_drew)); exact HO432.out), (by (with_reducible repeat (first | apply Kd.V_alloc | apply Kd.V_drewN | apply Kd.V_drew)); exact Kd.V_mono HO440.out (fun _ hk => ⟨hk.1.1, ⟨hk.2, hk.1.2⟩⟩)), (by (with_reducible repeat (first | apply Kd.V_alloc | apply Kd.V_drewN | apply Kd.V_drew)); exact Kd.V_mono HO_0.out (fun _ hk => ⟨hk.1.1, ⟨hk.2, hk.1.2⟩⟩)), (by (with_reducible repeat (first | apply Kd.V_alloc | apply Kd.V_drewN | apply Kd.V_drew)); exact Kd.V_mono HO_1.out (fun _ hk => ⟨hk.1.1, ⟨hk.2, hk.1.2⟩⟩)), (bb_ HB)⟩)
         rintro ⟨v420, v428, v431⟩ w41 ⟨h0_, h1_, h2_, h3_, h4_, h5_, h6_⟩
         have n0_ : Aside0 (Kd.V (Kd.slice 3 (Kd.int .i64)) 23 w41 w.heap.size (fun k_ => ((P0_ k_ ∨ P1_ k_) ∨ w.heap.size ≤ k_) ∧ some k_ ≠ (v428 : Value).ownBlock ∧ some k_ ≠ (v431 : Value).ownBlock) (.slice A0 y422.length c0) y422) := ⟨h0_⟩
         have n1_ : Aside0 (Kd.N (Kd.slice 3 (Kd.int .i64)) 23 w41 w.heap.size (fun k_ => ((P0_ k_ ∨ P1_ k_) ∨ w.heap.size ≤ k_) ∧ some k_ ≠ (v431 : Value).ownBlock) v428 y427) := ⟨h1_⟩
         have n2_ : Aside0 (Kd.N (Kd.slice 3 (Kd.int .i64)) 23 w41 w.heap.size (fun k_ => ((P0_ k_ ∨ P1_ k_) ∨ w.heap.size ≤ k_) ∧ some k_ ≠ (v428 : Value).ownBlock) v431 y430) := ⟨h2_⟩
         have n3_ : Aside0 (Kd.V (Kd.slice 3 (Kd.int .i64)) 23 w41 w.heap.size (fun k_ => ((P0_ k_ ∨ P1_ k_) ∨ w.heap.size ≤ k_) ∧ some k_ ≠ (v428 : Value).ownBlock ∧ some k_ ≠ (v431 : Value).ownBlock) (.slice A35 y436.length c35) y436) := ⟨h3_⟩
         have n4_ : Aside0 (Kd.V (Kd.slice 3 (Kd.int .i64)) 23 w41 w.heap.size (fun k_ => ((P0_ k_ ∨ P1_ k_) ∨ w.heap.size ≤ k_) ∧ some k_ ≠ (v428 : Value).ownBlock ∧ some k_ ≠ (v431 : Value).ownBlock) (.slice A0 l0.length c0) l0) := ⟨h4_⟩
         have n5_ : Aside0 (Kd.V (Kd.int .i64) 3 w41 w.heap.size (fun k_ => ((P0_ k_ ∨ P1_ k_) ∨ w.heap.size ≤ k_) ∧ some k_ ≠ (v428 : Value).ownBlock ∧ some k_ ≠ (v431 : Value).ownBlock) (.slice A1 l1.length c1) l1) := ⟨h5_⟩
         have n6_ : Aside0 (Below w.heap.size w w41) := ⟨h6_⟩
         clear HO_0
         clear HO_1
         clear HB
         clear h0_ h1_ h2_ h3_ h4_ h5_ h6_
         have HO426 := n0_
         have HO429 := n1_
         have HO432 := n2_
         have HO440 := n3_
         have HO_0 := n4_
         have HO_1 := n5_
         have HB := n6_
         clear n0_ n1_ n2_ n3_ n4_ n5_ n6_
         have hHeld := trivial
         obtain ⟨Ao43, co43, eo43⟩ := Kd.N_slice HO432.out
         (first | subst eo43 | (injection eo43 with f1_ f2_ f3_; have f4_ := f1_.symm; have f5_ := f3_.symm; clear f1_ f2_ f3_; subst f4_; subst f5_))
         refine norm_ (a' := ?_) ?_ ?_; rotate_left; (simp only [putAll, Act.put, List.setIfInBounds_toArray, List.set_cons_zero, List.set_cons_succ]; rfl)
         refine one_ (i := 7) (N := some 27) (m_ 13 2047) rfl rfl (one_of HT_.out (by kernel_rfl)) (by decide) (fun K hK => ?_)
         refine Kd.N_append_rows_step (Kd.slice 3 (Kd.int .i64)) (w0 := w) w.heap.size (by rfl) (.tmp 24) (.tmp 26) 32 23 (.slice none 0 0) 24 rfl Try.underlying32 info23 rfl (by decide) (by omega) v428 y427 y430 _ _ _ (fun k_ => ((P0_ k_ ∨ P1_ k_) ∨ w.heap.size ≤ k_)) (fun k_ => ((fun k_ => ((P0_ k_ ∨ P1_ k_) ∨ w.heap.size ≤ k_))) k_ ∧ some k_ ≠ (v428 : Value).ownBlock) rfl rfl ?aO ?aR (fun _ hk => hk) ?aF ?aB ?aS ?aL ?_
         (case aR => exact (by skip; exact Kd.N_F (Kd.N_mono (ok' := (fun k_ => ((fun k_ => ((P0_ k_ ∨ P1_ k_) ∨ w.heap.size ≤ k_))) k_ ∧ some k_ ≠ (v428 : Value).ownBlock)) (HO432.out) (fun k_ hk => ⟨hk.1, hk.2⟩))))
         (case aB => exact (bb_ HB))
         (case aF => exact (fun k_ hk => (.inr (Nat.le_trans (below_size (bb_ HB)) hk))))
         (case aO => exact (by (with_reducible repeat (first | apply Kd.N_alloc | apply Kd.N_drewN | apply Kd.N_drew)); exact Kd.N_mono HO429.out (fun _ hk => hk.1)))
         (case aS => exact (below_size (bb_ HB)))
         (case aL => have := LMc29.out; omega)
         intro v434 w42 ho hb hg hat
         rw [← Ny433.out] at ho
         have n0_ := Aside0.mk (Kd.V_afterv (ok := (fun k_ => ((P0_ k_ ∨ P1_ k_) ∨ w.heap.size ≤ k_) ∧ some k_ ≠ (.slice Ao43 y430.length co43 : Value).ownBlock)) (by (with_reducible repeat (first | apply Kd.V_alloc | apply Kd.V_drewN | apply Kd.V_drew)); exact Kd.V_mono HO_0.out (fun _ hk => ⟨⟨hk.1, hk.2.2⟩, hk.2.1⟩)) hg hat)
         have n1_ := Aside0.mk (Kd.V_afterv (ok := (fun k_ => ((P0_ k_ ∨ P1_ k_) ∨ w.heap.size ≤ k_) ∧ some k_ ≠ (.slice Ao43 y430.length co43 : Value).ownBlock)) (by (with_reducible repeat (first | apply Kd.V_alloc | apply Kd.V_drewN | apply Kd.V_drew)); exact Kd.V_mono HO_1.out (fun _ hk => ⟨⟨hk.1, hk.2.2⟩, hk.2.1⟩)) hg hat)
         have n2_ := Aside0.mk (Kd.V_afterv (ok := (fun k_ => ((P0_ k_ ∨ P1_ k_) ∨ w.heap.size ≤ k_) ∧ some k_ ≠ (.slice Ao43 y430.length co43 : Value).ownBlock)) (by (with_reducible repeat (first | apply Kd.V_alloc | apply Kd.V_drewN | apply Kd.V_drew)); exact Kd.V_mono HO426.out (fun _ hk => ⟨⟨hk.1, hk.2.2⟩, hk.2.1⟩)) hg hat)
         have n3_ := Aside0.mk (Kd.V_afterv (ok := (fun k_ => ((P0_ k_ ∨ P1_ k_) ∨ w.heap.size ≤ k_) ∧ some k_ ≠ (.slice Ao43 y430.length co43 : Value).ownBlock)) (by (with_reducible repeat (first | apply Kd.V_alloc | apply Kd.V_drewN | apply Kd.V_drew)); exact Kd.V_mono HO440.out (fun _ hk => ⟨⟨hk.1, hk.2.2⟩, hk.2.1⟩)) hg hat)
         have n4_ := Aside0.mk (Kd.N_afterv (ok := (fun k_ => ((P0_ k_ ∨ P1_ k_) ∨ w.heap.size ≤ k_))) (by (with_reducible repeat (first | apply Kd.N_alloc | apply Kd.N_drewN | apply Kd.N_drew)); exact HO432.out) hg hat)
         have n5_ := Aside0.mk (hb)
         have n6_ := Aside0.mk (ho)
         clear HO_0
         clear HO_1
         clear HO426
         clear HO440
         clear HO432
         clear HB
         clear HO429
         have HO_0 := n0_
         have HO_1 := n1_
         have HO426 := n2_
         have HO440 := n3_
         have HO432 := n4_
         have HB := n5_
         have HO435 := n6_
         clear n0_ n1_ n2_ n3_ n4_ n5_ n6_
         clear ho hb hg hat
         refine hK.out _ _ trivial (fun hHeld => ?_)
         clear hK K
         refine norm_ (a' := ?_) ?_ ?_; rotate_left; (show Act.put _ (some 27) _ = _; simp only [Act.put, List.setIfInBounds_toArray, List.set_cons_zero, List.set_cons_succ, i64_w, i32_w]; rfl)
         refine one_ (i := 11) (N := some 31) (m_ 13 4095) rfl rfl (one_of HT_.out (by kernel_rfl)) (by decide) (fun K hK => ?_)
         refine Kd.N_append_rows_step (Kd.slice 3 (Kd.int .i64)) (w0 := w) w.heap.size (by rfl) (.tmp 27) (.tmp 30) 32 23 (.slice none 0 0) 24 rfl Try.underlying32 info23 rfl (by decide) (by omega) v434 y433 y436 _ _ _ (fun k_ => ((P0_ k_ ∨ P1_ k_) ∨ w.heap.size ≤ k_)) (fun k_ => ((fun k_ => ((P0_ k_ ∨ P1_ k_) ∨ w.heap.size ≤ k_))) k_ ∧ some k_ ≠ (v434 : Value).ownBlock) rfl rfl ?aO ?aR (fun _ hk => hk) ?aF ?aB ?aS ?aL ?_
         (case aR => exact (by skip; exact Kd.V_F (Kd.V_mono (ok' := (fun k_ => ((fun k_ => ((P0_ k_ ∨ P1_ k_) ∨ w.heap.size ≤ k_))) k_ ∧ some k_ ≠ (v434 : Value).ownBlock)) (HO440.out) (fun k_ hk => ⟨hk.1.1, hk.2⟩))))
         (case aB => exact (bb_ HB))
         (case aF => exact (fun k_ hk => (.inr (Nat.le_trans (below_size (bb_ HB)) hk))))
         (case aO => exact (by (with_reducible repeat (first | apply Kd.N_alloc | apply Kd.N_drewN | apply Kd.N_drew)); exact HO435.out))
         (case aS => exact (below_size (bb_ HB)))
         (case aL => have := LMc32.out; omega)
         intro v442 w44 ho hb hg hat
         rw [← Ny441.out] at ho
         have n0_ := Aside0.mk (Kd.V_afterv (ok := (fun k_ => ((P0_ k_ ∨ P1_ k_) ∨ w.heap.size ≤ k_) ∧ some k_ ≠ (.slice Ao43 y430.length co43 : Value).ownBlock)) (by (with_reducible repeat (first | apply Kd.V_alloc | apply Kd.V_drewN | apply Kd.V_drew)); exact HO_0.out) hg hat)
         have n1_ := Aside0.mk (Kd.V_afterv (ok := (fun k_ => ((P0_ k_ ∨ P1_ k_) ∨ w.heap.size ≤ k_) ∧ some k_ ≠ (.slice Ao43 y430.length co43 : Value).ownBlock)) (by (with_reducible repeat (first | apply Kd.V_alloc | apply Kd.V_drewN | apply Kd.V_drew)); exact HO_1.out) hg hat)
         have n2_ := Aside0.mk (Kd.V_afterv (ok := (fun k_ => ((P0_ k_ ∨ P1_ k_) ∨ w.heap.size ≤ k_) ∧ some k_ ≠ (.slice Ao43 y430.length co43 : Value).ownBlock)) (by (with_reducible repeat (first | apply Kd.V_alloc | apply Kd.V_drewN | apply Kd.V_drew)); exact HO426.out) hg hat)
         have n3_ := Aside0.mk (Kd.V_afterv (ok := (fun k_ => ((P0_ k_ ∨ P1_ k_) ∨ w.heap.size ≤ k_) ∧ some k_ ≠ (.slice Ao43 y430.length co43 : Value).ownBlock)) (by (with_reducible repeat (first | apply Kd.V_alloc | apply Kd.V_drewN | apply Kd.V_drew)); exact HO440.out) hg hat)
         have n4_ := Aside0.mk (Kd.N_afterv (ok := (fun k_ => ((P0_ k_ ∨ P1_ k_) ∨ w.heap.size ≤ k_))) (by (with_reducible repeat (first | apply Kd.N_alloc | apply Kd.N_drewN | apply Kd.N_drew)); exact HO432.out) hg hat)
         have n5_ := Aside0.mk (hb)
         have n6_ := Aside0.mk (ho)
         clear HO_0
         clear HO_1
         clear HO426
         clear HO440
         clear HO432
         clear HB
         clear HO435
         have HO_0 := n0_
         have HO_1 := n1_
         have HO426 := n2_
         have HO440 := n3_
         have HO432 := n4_
         have HB := n5_
         have HO443 := n6_
         clear n0_ n1_ n2_ n3_ n4_ n5_ n6_
         clear ho hb hg hat
         refine hK.out _ _ trivial (fun hHeld => ?_)
         clear hK K
         refine norm_ (a' := ?_) ?_ ?_; rotate_left; (show Act.put _ (some 31) _ = _; simp only [Act.put, List.setIfInBounds_toArray, List.set_cons_zero, List.set_cons_succ, i64_w, i32_w]; rfl)
         refine p_ 12 4 (m_ 13 8191) HT_.out ?_
         refine done_ (done_of HT_.out (by kernel_rfl)) ?_
         try go_wp2
         go_ret
         exact ⟨_, ee_, by (with_reducible repeat (first | apply Kd.N_alloc | apply Kd.N_drewN | apply Kd.N_drew)); exact HO443.out, bb_ HB⟩
        ·rw [if_neg c32] at H
         exact absurd H (by simp)
       ·rw [if_neg c29] at H
        exact absurd H (by simp)
      ·rw [if_neg c28] at H
       exact absurd H (by simp)
     ·rw [if_neg c27] at H
      exact absurd H (by simp)
    ·rw [if_neg c26] at H
     exact absurd H (by simp)
end Go.Proofs.Ytbfafjejmljcpaa.P

set_option linter.unusedVariables false
set_option linter.unusedSimpArgs false
namespace Go.Proofs.Ytbfafjejmljcpaa.X
open Go.RowKit Go.Proofs.YtbfafjejmljcpaaW.PrintWords Go.Proofs.YtbfafjejmljcpaaW.PrintLast Go.Proofs.Ytbfafjejmljcpaa.P

def insL : List (List Int) → List Int → List (List Int)
  | [], x => [x]
  | a :: r, x => if lessB a x = true then a :: insL r x else x :: a :: r
theorem insL_length (l : List (List Int)) (x : List Int) : (insL l x).length = l.length + 1 := by
  induction l with
  | nil => rfl
  | cons a r ih =>
    unfold insL
    by_cases h : lessB a x = true
    · rw [if_pos h, List.length_cons, ih, List.length_cons]
    · rw [if_neg h]; rfl
theorem mem_insL {l : List (List Int)} {x y : List Int} : y ∈ insL l x ↔ y = x ∨ y ∈ l := by
  induction l with
  | nil => unfold insL; simp
  | cons a r ih =>
    unfold insL
    by_cases h : lessB a x = true
    · rw [if_pos h, List.mem_cons, ih, List.mem_cons]
      exact ⟨fun h => h.elim (fun h => .inr (.inl h)) fun h => h.elim .inl fun h => .inr (.inr h), fun h => h.elim (fun h => .inr (.inl h)) fun h => h.elim .inl fun h => .inr (.inr h)⟩
    · rw [if_neg h]; simp
theorem insL_at (x : List Int) : ∀ (n : Nat) (l : List (List Int)), n ≤ l.length → (∀ j : Nat, j < n → lessB (rd_LI l (j : Int)) x = true) → insL l x = l.take n ++ insL (l.drop n) x := by
  intro n
  induction n with
  | zero => intro l _ _; simp
  | succ n ih =>
    intro l hl h
    match l with
    | [] => simp at hl
    | a :: r =>
      have h0 := h 0 (by omega)
      have ea : rd_LI (a :: r) ((0 : Nat) : Int) = a := by rw [rdL_cast _ 0 (by simp)]; rfl
      rw [ea] at h0
      have := ih r (by simp at hl; omega) fun j hj => by
        have := h (j + 1) (by omega)
        rw [rdL_cast _ (j + 1) (by simp at hl ⊢; omega)] at this
        rw [rdL_cast _ j (by simp at hl; omega)]
        exact this
      show (if lessB a x = true then a :: insL r x else x :: a :: r) = _
      rw [if_pos h0, this]
      rfl
theorem insL_stop {l : List (List Int)} {x : List Int} {n : Nat} (hn : n < l.length) (h : ¬ lessB (rd_LI l (n : Int)) x = true) : insL (l.drop n) x = x :: l.drop n := by
  rw [List.drop_eq_getElem_cons hn]
  show (if lessB l[n] x = true then _ else _) = _
  rw [rdL_cast l n hn] at h
  rw [if_neg h]
theorem put_l0 {l : List (List Int)} {x : List Int} (h9 : ∀ a ∈ l, a.length = 9) (hx : x.length = 9) (hl : l.length ≤ 1000) (d : Nat) : ∀ i : Int, 0 ≤ i → i + d = l.length → (∀ j : Nat, (j : Int) < i → lessB (rd_LI l (j : Int)) x = true) → Ev (fun k => spec_l6lPut.l0 k l x i) (insL l x) := by
  induction d with
  | zero =>
    intro i i0 i1 h
    have e := insL_at x i.toNat l (by omega) fun j hj => h j (by omega)
    rw [e, show l.drop i.toNat = [] from List.drop_eq_nil_of_le (by omega)]
    have hlt : (l.take i.toNat).length ≤ 1000 := by rw [List.length_take]; omega
    refine Ev.step (fun k => by rw [spec_l6lPut.l0]) ?_
    refine Ev.neg (by omega) (Ev.fix rfl (Ev.pos i0 (Ev.pos (by omega) (Ev.fix rfl (Ev.pos (by rw [List.length_nil]; omega) ?_)))))
    refine Ev.fix rfl (Ev.fix rfl (Ev.pos (by rw [List.nil_append, List.length_singleton]; omega) (Ev.fix rfl (Ev.fix rfl (Ev.pos ?_ (Ev.done ?_))))))
    · rw [List.nil_append, List.length_append, List.length_singleton, List.length_drop]; omega
    · rw [show l.drop i.toNat = [] from List.drop_eq_nil_of_le (by omega)]; simp [insL]
  | succ d ih =>
    intro i i0 i1 h
    have hm : rd_LI l i ∈ l := rdL_mem i0 (by omega)
    have hlt : (l.take i.toNat).length ≤ 1000 := by rw [List.length_take]; omega
    refine Ev.step (fun k => by rw [spec_l6lPut.l0]) ?_
    rw [w64 (x := i + 1) (by omega) (by omega)]
    refine Ev.pos (by omega) (Ev.pos i0 (Ev.bind (l6lLess_ev _ _ (h9 _ hm) hx) ?_))
    by_cases hc : lessB (rd_LI l i) x = true
    · refine Ev.pos hc (ih (i + 1) (by omega) (by omega) fun j hj => ?_)
      by_cases ej : (j : Int) = i
      · rw [ej]; exact hc
      · exact h j (by omega)
    · have e := insL_at x i.toNat l (by omega) fun j hj => h j (by omega)
      rw [e, insL_stop (by omega) (by rw [Int.toNat_of_nonneg i0]; exact hc)]
      refine Ev.neg hc (Ev.fix rfl (Ev.pos (by omega) (Ev.fix rfl (Ev.pos (by rw [List.length_nil]; omega) ?_))))
      refine Ev.fix rfl (Ev.fix rfl (Ev.pos (by rw [List.nil_append, List.length_singleton]; omega) (Ev.fix rfl (Ev.fix rfl (Ev.pos ?_ (Ev.done ?_))))))
      · rw [List.nil_append, List.length_append, List.length_singleton, List.length_drop]; omega
      · simp
theorem put_ev {l : List (List Int)} {x : List Int} (h9 : ∀ a ∈ l, a.length = 9) (hx : x.length = 9) (hl : l.length ≤ 1000) : Ev (fun k => spec_l6lPut.f k l x) (insL l x) := put_l0 h9 hx hl l.length 0 (by omega) (by omega) fun j hj => by omega
theorem insL_nines {l : List (List Int)} {x : List Int} (h9 : ∀ a ∈ l, a.length = 9) (hx : x.length = 9) : ∀ a ∈ insL l x, a.length = 9 := fun a ha => (mem_insL.1 ha).elim (fun e => by rw [e]; exact hx) (h9 a)
end Go.Proofs.Ytbfafjejmljcpaa.X

namespace Go.Proofs.Ytbfafjejmljcpaa.P
open Go.RowKit Go.Proofs.YtbfafjejmljcpaaW.PrintWords Go.Proofs.YtbfafjejmljcpaaW.PrintLast Go.Proofs.YtbfafjejmljcpaaW.PrintMore
set_option linter.unusedVariables false
set_option linter.unusedSimpArgs false

mutual
def spec_SpreadOf.l0 : Nat → List Int → List (List Int) → Int → Option ((List (List Int)) × Bool)
 | 0, _, _, _ => none
 | k + 1, x0, x4, x5 => if x5 < 9 then (spec_SpreadOf.l1 k x0 x4 x5 (([] : List Int)) 0) else (some (x4, true))
def spec_SpreadOf.l1 : Nat → List Int → List (List Int) → Int → List Int → Int → Option ((List (List Int)) × Bool)
 | 0, _, _, _, _, _ => none
 | k + 1, x0, x4, x5, x6, x7 => if x7 < 9 then (if 0 ≤ (wrap64 ((wrap64 (9 * x7)) + x5)) then (if (wrap64 ((wrap64 (9 * x7)) + x5)) < (x0.length : Int) then (if x6.length < 17592186044416 then (spec_SpreadOf.l1 k x0 x4 x5 (x6 ++ [wrap64 ((wrap64 (9 * x7)) + (rd x0 (wrap64 ((wrap64 (9 * x7)) + x5))))]) (wrap64 (x7 + 1))) else (none)) else (none)) else (none)) else ((spec_l6lPut.f k x4 x6).bind fun t461 => (spec_SpreadOf.l0 k x0 t461 (wrap64 (x5 + 1))))
end
def spec_SpreadOf.f (k : Nat) (l0 : List Int) : Option ((List (List Int)) × Bool) := (spec_SystemIn.f k l0).bind fun t444 => (if t444 = true then (spec_SpreadOf.l0 k l0 (([(([0, 1, 2, 3, 4, 5, 6, 7, 8] : List Int))] : List (List Int))) 0) else (some ((([] : List (List Int))), false)))
set_option maxHeartbeats 8000000 in
set_option maxRecDepth 100000 in
theorem spec_SpreadOf.calls (k : Nat) (A0 : Option Addr) (c0 : Nat) (l0 : List Int) (r1 : List (List Int)) (r2 : Bool) (w : World) (hr0 : Kd.C (Kd.int .i64) w A0 l0.length l0) (hc0 : l0.length ≤ c0) (h : spec_SpreadOf.f k l0 = some (r1, r2)) :
  Calls Try.prog 26 #[.slice A0 l0.length c0] w fun e w' => ∃ v0_ : Value, e = .returned (.tuple #[v0_, .bool r2]) ∧ Kd.N (Kd.slice 3 (Kd.int .i64)) 23 w' w.heap.size (fun k_ => (w.heap.size ≤ k_)) v0_ r1 ∧ Below w.heap.size w w' := by
 have HR0 := Aside0.mk hr0
 have HC0 := Aside0.mk hc0
 clear hr0 hc0
 have HB := Aside0.mk (Below.refl w.heap.size w)
 have H : ((spec_SystemIn.f k l0).bind fun t444 => (if t444 = true then (spec_SpreadOf.l0 k l0 (([(([0, 1, 2, 3, 4, 5, 6, 7, 8] : List Int))] : List (List Int))) 0) else (some ((([] : List (List Int))), false)))) = some (r1, r2) := h
 clear h
 replace H := Option.bind_eq_some_iff.mp H
 obtain ⟨t444, A20, H⟩ := H
 replace H : (if t444 = true then (spec_SpreadOf.l0 k l0 (([(([0, 1, 2, 3, 4, 5, 6, 7, 8] : List Int))] : List (List Int))) 0) else (some ((([] : List (List Int))), false))) = some (r1, r2) := H
 have A2 := Aside0.mk A20
 clear A20
 by_cases c3 : t444 = true
 ·subst c3
  have H1 : (spec_SpreadOf.l0 k l0 (([(([0, 1, 2, 3, 4, 5, 6, 7, 8] : List Int))] : List (List Int))) 0) = some (r1, r2) := by rw [if_pos rfl] at H; exact H
  clear H
  have H := H1
  clear H1
  obtain ⟨y448, hy448⟩ : ∃ y_ : List Int, y_ = (([0, 1, 2, 3, 4, 5, 6, 7, 8] : List Int)) := ⟨_, rfl⟩
  replace H : (spec_SpreadOf.l0 k l0 (([y448] : List (List Int))) 0) = some (r1, r2) := by first | (rw [hy448]; with_reducible exact H) | (have H2_ := (Option.bind_some _ _).symm.trans H; rw [hy448]; with_reducible exact H2_) | (have H2_ := (Option.bind_some _ _).symm.trans H; with_reducible exact H2_) | with_reducible exact H | (rw [hy448]; exact H) | exact H
  have Ny448 := Aside0.mk hy448
  clear hy448
  obtain ⟨y451, hy451⟩ : ∃ y_ : List (List Int), y_ = (([y448] : List (List Int))) := ⟨_, rfl⟩
  replace H : (spec_SpreadOf.l0 k l0 y451 0) = some (r1, r2) := by first | (rw [hy451]; with_reducible exact H) | (have H2_ := (Option.bind_some _ _).symm.trans H; rw [hy451]; with_reducible exact H2_) | (have H2_ := (Option.bind_some _ _).symm.trans H; with_reducible exact H2_) | with_reducible exact H | (rw [hy451]; exact H) | exact H
  have Ny451 := Aside0.mk hy451
  clear hy451
  have H' := Aside0.mk H
  clear H
  go_enter Try.func26, Try.ntmps26
  go_wp2_with (first | (refine goesL_ (some 9) rfl rfl Try.func64 (by kernel_rfl) rfl #[.slice A0 l0.length c0] rfl ll_ ?_; (with_reducible refine (spec_SystemIn.calls k _ _ l0 true _ ?side1 ?side2 A2.out).mono ?_); (case side1 => exact ss_ HR0); (case side2 => exact HC0.out); rintro e w4 ⟨rfl, hb⟩; refine ⟨_, rfl, ?_⟩; have n0_ := Aside0.mk (below_step (bb_ HB) hb); clear HB; have HB := n0_; clear n0_; (try clear hb); (try clear hb2); (try clear hk); (try clear hi)) | ((with_reducible refine gate_dst (N := 12) rfl ?_); refine Kd.R_lit (Kd.int .i64) _ 3 ?hg (N := 12) ?hd (xs := ([0, 1, 2, 3, 4, 5, 6, 7, 8] : List Int)) (inner := [.int .i64 0, .int .i64 1, .int .i64 2, .int .i64 3, .int .i64 4, .int .i64 5, .int .i64 6, .int .i64 7, .int .i64 8]) (ok := fun _ => True) (okp := fun _ => True) ?hr ?hp (fun _ hk => hk) trivial (Below.refl _ _) (Nat.le_refl _) (by simp) ?_; (case hd => rfl); (case hg => rfl); (case hr => first | (go_simp; done) | (go_simp; rfl)); (case hp => exact (Reps.one (show Kd.M (Kd.int .i64) _ _ _ 0 [.int .i64 0] from rfl) (Reps.one (show Kd.M (Kd.int .i64) _ _ _ 1 [.int .i64 1] from rfl) (Reps.one (show Kd.M (Kd.int .i64) _ _ _ 2 [.int .i64 2] from rfl) (Reps.one (show Kd.M (Kd.int .i64) _ _ _ 3 [.int .i64 3] from rfl) (Reps.one (show Kd.M (Kd.int .i64) _ _ _ 4 [.int .i64 4] from rfl) (Reps.one (show Kd.M (Kd.int .i64) _ _ _ 5 [.int .i64 5] from rfl) (Reps.one (show Kd.M (Kd.int .i64) _ _ _ 6 [.int .i64 6] from rfl) (Reps.one (show Kd.M (Kd.int .i64) _ _ _ 7 [.int .i64 7] from rfl) (Reps.one (show Kd.M (Kd.int .i64) _ _ _ 8 [.int .i64 8] from rfl) (Reps.none _ _))))))))))); intro v449 w5 ho6 hb hg_ hnew_; clear hg_ hnew_; (first | rw [← Ny448.out] at ho6 | (simp only [Int.reduceToNat] at ho6; rw [← Ny448.out] at ho6)); have n0_ := Aside0.mk (Kd.R_lower (Kd.R_newM (M := fun k_ => (w.heap.size ≤ k_)) ho6 (below_size (bb_ HB)) (fun k_ h_ => h_)) (below_size (bb_ HB))); have n1_ := Aside0.mk (below_step (bb_ HB) hb); clear HB; have HO450 := n0_; have HB := n1_; clear n0_ n1_; clear hb ho6; obtain ⟨Ao7, co7, eo7⟩ := Kd.R_slice HO450.out; subst eo7) | ((with_reducible refine gate_dst (N := 13) rfl ?_); refine Kd.N_lit (Kd.slice 3 (Kd.int .i64)) _ 23 ?hg (N' := 13) ?hd (xs := ([y448] : List (List Int))) (inner := [.slice Ao7 y448.length co7]) (ok := (fun k_ => (w.heap.size ≤ k_))) (okp := (fun k_ => (w.heap.size ≤ k_))) ?hr ?hp (fun _ hk => hk) ((show ∀ k_, w5.heap.size ≤ k_ → (fun k_ => (w.heap.size ≤ k_)) k_ from fun k_ hk => (Nat.le_trans (below_size (bb_ HB)) hk)) _ (Nat.le_refl _)) (Below.refl _ _) (Nat.le_refl _) (by simp) ?_; (case hd => rfl); (case hg => rfl); (case hr => first | (go_simp; done) | (go_simp; rfl)); (case hp => exact (Reps.one (show Kd.FK (Kd.slice 3 (Kd.int .i64)) _ _ y448 [.slice Ao7 y448.length co7] from (Kd.FK_slice_mk (Kd.R_reads' (Kd.R_mono (ok' := (fun k_ => (w.heap.size ≤ k_))) (HO450.out) (fun k_ hk => hk.1))).2.1 (Kd.R_F (Kd.R_mono (ok' := (fun k_ => (w.heap.size ≤ k_))) (HO450.out) (fun k_ hk => hk.1))))) (Reps.none _ _))); intro v452 w8 ho9 hb hg_ hnew_; clear hg_ hnew_; (first | rw [← Ny451.out] at ho9 | (simp only [Int.reduceToNat] at ho9; rw [← Ny451.out] at ho9)); have n0_ := Aside0.mk (Kd.N_lower ho9 (below_size (bb_ HB))); have n1_ := Aside0.mk (below_step (bb_ HB) hb); clear HB; clear HO450; have HO453 := n0_; have HB := n1_; clear n0_ n1_; clear hb ho9))
  go_loopg [4, 5] k (fun kq v4 v5 w' => ∃ (x4_1 : List (List Int)) (x5_1 : Int), v5 = .int .i64 x5_1 ∧ Aside0 (spec_SpreadOf.l0 kq l0 x4_1 x5_1 = some (r1, r2)) ∧ Aside0 (kq ≤ k) ∧ Aside0 (Kd.N (Kd.slice 3 (Kd.int .i64)) 23 w' w.heap.size (fun k_ => (w.heap.size ≤ k_)) v4 x4_1) ∧ Aside0 (Below w.heap.size w w'))
  case atStart => exact ⟨(y451), (0), (by first | rfl | (simp; done) | (simp [*]; done)), H', ⟨Nat.le_refl _⟩, ⟨by (with_reducible repeat (first | apply Kd.N_alloc | apply Kd.N_drewN | apply Kd.N_drew)); exact HO453.out⟩, ⟨by repeat (first | (with_reducible first | exact HB.out | apply below_alloc | apply pw_below_drewN | apply below_drew1) | exact HB.out)⟩⟩
  case round =>
   clear H'
   try clear c2
   try clear p2
   try clear c3
   try clear c6
   obtain ⟨x4_1, x5_1, rfl, HA, HK1, HO_4, HB⟩ := hrel
   cases gk with
   | zero => exact absurd HA.out (by simp [spec_SpreadOf.l0])
   | succ k1 =>
    have H := HA.out
    clear HA
    simp only [spec_SpreadOf.l0] at H
    by_cases c10 : x5_1 < 9
    ·rw [if_pos c10] at H
     have c10b0 : decide (x5_1 < 9) = true := decide_eq_true c10
     clear c10
     obtain ⟨y454, hy454⟩ : ∃ y_ : List Int, y_ = (([] : List Int)) := ⟨_, rfl⟩
     replace H : (spec_SpreadOf.l1 k1 l0 x4_1 x5_1 y454 0) = some (r1, r2) := by first | (rw [hy454]; with_reducible exact H) | (have H2_ := (Option.bind_some _ _).symm.trans H; rw [hy454]; with_reducible exact H2_) | (have H2_ := (Option.bind_some _ _).symm.trans H; with_reducible exact H2_) | with_reducible exact H | (rw [hy454]; exact H) | exact H
     have Ny454 := Aside0.mk hy454
     clear hy454
     have H' := Aside0.mk H
     clear H
     go_wp2_with (first | ((with_reducible refine gate_dst (N := 18) rfl ?_); refine Kd.R_lit (Kd.int .i64) _ 3 ?hg (N := 18) ?hd (xs := ([] : List Int)) (inner := []) (ok := fun _ => True) (okp := fun _ => True) ?hr ?hp (fun _ hk => hk) trivial (Below.refl _ _) (Nat.le_refl _) (by simp) ?_; (case hd => rfl); (case hg => rfl); (case hr => first | (go_simp; done) | (go_simp; rfl)); (case hp => exact (Reps.none _ _)); intro v455 w11 ho12 hb hg_ hnew_; clear hg_ hnew_; (first | rw [← Ny454.out] at ho12 | (simp only [Int.reduceToNat] at ho12; rw [← Ny454.out] at ho12)); have n0_ := Aside0.mk (Kd.N_elder' (by (with_reducible repeat (first | apply Kd.N_alloc | apply Kd.N_drewN | apply Kd.N_drew)); exact HO_4.out) (Kd.R_base ho12) hb); have n1_ := Aside0.mk (Kd.R_lower (Kd.R_newM (M := fun k_ => (w.heap.size ≤ k_)) ho12 (below_size (bb_ HB)) (fun k_ h_ => h_)) (below_size (bb_ HB))); have n2_ := Aside0.mk (below_step (bb_ HB) hb); clear HO_4; clear HB; have HO_4 := n0_; have HO456 := n1_; have HB := n2_; clear n0_ n1_ n2_; clear hb ho12))
     go_loopg [6, 7] k1 (fun kq v6 v7 w' => ∃ (x6_2 : List Int) (x7_2 : Int), v7 = .int .i64 x7_2 ∧ Aside0 (spec_SpreadOf.l1 kq l0 x4_1 x5_1 x6_2 x7_2 = some (r1, r2)) ∧ Aside0 (kq ≤ k1) ∧ Aside0 (Kd.N (Kd.slice 3 (Kd.int .i64)) 23 w' w.heap.size (fun k_ => (w.heap.size ≤ k_) ∧ some k_ ≠ (v6 : Value).ownBlock) u4 x4_1) ∧ Aside0 (Kd.R (Kd.int .i64) 3 w' w.heap.size (fun k_ => (w.heap.size ≤ k_)) v6 x6_2) ∧ Aside0 (Below w.heap.size w w'))
     case atStart => exact ⟨(y454), (0), (by first | rfl | (simp; done) | (simp [*]; done)), H', ⟨Nat.le_refl _⟩, ⟨by (with_reducible repeat (first | apply Kd.N_alloc | apply Kd.N_drewN | apply Kd.N_drew)); exact HO_4.out⟩, ⟨by (with_reducible repeat (first | apply Kd.R_alloc | apply Kd.R_drewN | apply Kd.R_drew)); exact Kd.R_mono HO456.out (fun _ hk => hk.1)⟩, ⟨by repeat (first | (with_reducible first | exact HB.out | apply below_alloc | apply pw_below_drewN | apply below_drew1) | exact HB.out)⟩⟩
     case round =>
      clear H'
      try clear c1
      try clear c2
      try clear p2
      try clear c3
      try clear c6
      try clear c10
      try clear c10b0
      try clear p2
      obtain ⟨x6_2, x7_2, rfl, HA, HK2, HO_4, HO_6, HB⟩ := hrel
      cases gk with
      | zero => exact absurd HA.out (by simp [spec_SpreadOf.l1])
      | succ k2 =>
       have H := HA.out
       clear HA
       simp only [spec_SpreadOf.l1] at H
       by_cases c13 : x7_2 < 9
       ·rw [if_pos c13] at H
        have c13b0 : decide (x7_2 < 9) = true := decide_eq_true c13
        clear c13
        obtain ⟨ji14, hji14⟩ : ∃ j_ : Int, (wrap64 ((wrap64 (9 * x7_2)) + x5_1)) = j_ := ⟨_, rfl⟩
        replace H : (if 0 ≤ (ji14) then (if (ji14) < (l0.length : Int) then (if x6_2.length < 17592186044416 then (spec_SpreadOf.l1 k2 l0 x4_1 x5_1 (x6_2 ++ [wrap64 ((wrap64 (9 * x7_2)) + (rd l0 (ji14)))]) (wrap64 (x7_2 + 1))) else (none)) else (none)) else (none)) = some (r1, r2) := by first | (rw [hji14] at H; exact H) | (simp only [hji14] at H ⊢; exact H)
        have hji14w : (IntKind.i64.wrap ((wrap64 (9 * x7_2)) + x5_1)) = ji14 := (i64_w _).trans hji14
        by_cases c15 : 0 ≤ (ji14)
        ·rw [if_pos c15] at H
         have c15b0 : decide (0 ≤ (ji14)) = true := decide_eq_true c15
         clear c15
         by_cases c16 : (ji14) < (l0.length : Int)
         ·rw [if_pos c16] at H
          have c16b0 : decide ((ji14) < (l0.length : Int)) = true := decide_eq_true c16
          clear c16
          by_cases c17 : x6_2.length < 17592186044416
          ·rw [if_pos c17] at H
           have LMc17 := Aside0.mk c17
           clear c17
           obtain ⟨y458, hy458⟩ : ∃ y_ : List Int, y_ = (x6_2 ++ [wrap64 ((wrap64 (9 * x7_2)) + (rd l0 (ji14)))]) := ⟨_, rfl⟩
           replace H : (spec_SpreadOf.l1 k2 l0 x4_1 x5_1 y458 (wrap64 (x7_2 + 1))) = some (r1, r2) := by first | (rw [hy458]; with_reducible exact H) | (have H2_ := (Option.bind_some _ _).symm.trans H; rw [hy458]; with_reducible exact H2_) | (have H2_ := (Option.bind_some _ _).symm.trans H; with_reducible exact H2_) | with_reducible exact H | (rw [hy458]; exact H) | exact H
           have Ny458 := Aside0.mk hy458
           clear hy458
           have H' := Aside0.mk H
           clear H
           have p457 : 0 ≤ ((ji14) : Int) := dd_
           have q457 : (ji14) < (l0.length : Int) := dd_
           obtain ⟨ad457, e457, hx457_0⟩ := Kd.at_int HR0.out (ji14) p457 q457
           cases e457
           replace hx457_0 := hc_ HB hx457_0
           replace p457 := eq_true p457
           replace q457 := eq_true q457
           go_wp2_with (first | (at_builtin; refine Kd.R_append (Kd.int .i64) (w0 := w) w.heap.size rfl (.tmp 23) (.tmp 34) 23 3 (.int .i64 0) 8 rfl Try.underlying23 info3 rfl (by decide) (by omega) u6 x6_2 (wrap64 ((wrap64 (9 * x7_2)) + (rd l0 (ji14)))) [.int .i64 (wrap64 ((wrap64 (9 * x7_2)) + (rd l0 (ji14))))] (fun k_ => (w.heap.size ≤ k_)) (fun _ => False) rfl rfl ?aP (fun _ hk => hk.elim) ?aF ?aO ?aB ?aS ?aL ?_; (case aP => exact rfl); (case aB => exact (bb_ HB)); (case aF => exact (fun k_ hk => (Nat.le_trans (below_size (bb_ HB)) hk))); (case aO => exact (rr_ HO_6)); (case aS => exact (below_size (bb_ HB))); (case aL => have := LMc17.out; omega); intro v459 w18 ho hb hg hat; rw [← Ny458.out] at ho; have n0_ := Aside0.mk (Kd.N_afterv (ok := (fun k_ => (w.heap.size ≤ k_))) (by (with_reducible repeat (first | apply Kd.N_alloc | apply Kd.N_drewN | apply Kd.N_drew)); exact HO_4.out) hg hat); have n1_ := Aside0.mk (hb); have n2_ := Aside0.mk (ho); clear HO_4; clear HB; clear HO_6; have HO_4 := n0_; have HB := n1_; have HO460 := n2_; clear n0_ n1_ n2_; clear ho hb hg hat))
           go_roundg k2
           case measure => have := HK1.out; have := HK2.out; omega
           case rel => exact ⟨(y458), (wrap64 (x7_2 + 1)), (by first | rfl | (simp; done) | (simp [*]; done)), H', ⟨by have := HK1.out; have := HK2.out; omega⟩, ⟨by (with_reducible repeat (first | apply Kd.N_alloc | apply Kd.N_drewN | apply Kd.N_drew)); exact HO_4.out⟩, ⟨rr_ HO460⟩, ⟨by repeat (first | (with_reducible first | exact HB.out | apply below_alloc | apply pw_below_drewN | apply below_drew1) | exact HB.out)⟩⟩
          ·rw [if_neg c17] at H
           exact absurd H (by simp)
         ·rw [if_neg c16] at H
          exact absurd H (by simp)
        ·rw [if_neg c15] at H
         exact absurd H (by simp)
       ·rw [if_neg c13] at H
        have c13b0 : decide (x7_2 < 9) = false := decide_eq_false c13
        clear c13
        replace H := Option.bind_eq_some_iff.mp H
        obtain ⟨t461, A190, H⟩ := H
        replace H : (spec_SpreadOf.l0 k2 l0 t461 (wrap64 (x5_1 + 1))) = some (r1, r2) := H
        have A19 := Aside0.mk A190
        clear A190
        have H' := Aside0.mk H
        clear H
        obtain ⟨Ao20, co20, eo20⟩ := Kd.N_slice HO_4.out
        subst eo20
        obtain ⟨Ao21, co21, eo21⟩ := Kd.R_slice HO_6.out
        subst eo21
        go_wp2_with (first | (refine goesL_ (some 38) rfl rfl Try.func65 (by kernel_rfl) rfl #[.slice Ao20 x4_1.length co20, .slice Ao21 x6_2.length co21] rfl ll_ ?_; (with_reducible refine (spec_l6lPut.calls k2 (fun k_ => ((w.heap.size ≤ k_) ∧ some k_ ≠ (.slice Ao21 x6_2.length co21 : Value).ownBlock)) _ _ x4_1 (fun k_ => some k_ = (.slice Ao21 x6_2.length co21 : Value).ownBlock) _ _ x6_2 t461 _ ?side1 ?side2 A19.out).mono ?_); (case side1 => exact Kd.N_V (HO_4.out)); (case side2 => exact Kd.R_V (Kd.R_tight rfl (Kd.R_apart' (HO_6.out) (Kd.N_typed HO_4.out) (by decide)))); rintro e w22 ⟨v462, rfl, ho0, hb⟩; refine ⟨_, rfl, ?_⟩; have n0_ := Aside0.mk (Kd.N_elder' (by (with_reducible repeat (first | apply Kd.N_alloc | apply Kd.N_drewN | apply Kd.N_drew)); exact HO_4.out) (Kd.N_base ho0) hb); have n1_ := Aside0.mk (Kd.R_below (rr_ HO_6) hb); have n2_ := Aside0.mk (Kd.N_lower (Kd.N_mono (ok' := fun k_ => (w.heap.size ≤ k_)) ho0 (fun k_ hk_ => Or.elim hk_ (fun hs_ => Or.elim hs_ (fun hs_ => hs_.1) (fun hs_ => ((Kd.R_apart' (HO_6.out) (Kd.N_typed HO_4.out) (by decide)).1 k_ hs_.symm).1)) (fun hn_ => (Nat.le_trans (below_size (bb_ HB)) hn_)))) (below_size (bb_ HB))); have n3_ := Aside0.mk (below_step (bb_ HB) hb); clear HO_4; clear HO_6; clear HB; have HO_4 := n0_; have HO_6 := n1_; have HO463 := n2_; have HB := n3_; clear n0_ n1_ n2_ n3_; (try clear hb); (try clear hb2); (try clear hk); (try clear hi); (try clear ho0)))
        go_roundg k2
        case measure => have := HK1.out; have := HK2.out; omega
        case rel => exact ⟨(t461), (wrap64 (x5_1 + 1)), (by first | rfl | (simp; done) | (simp [*]; done)), H', ⟨by have := HK1.out; have := HK2.out; omega⟩, ⟨by (with_reducible repeat (first | apply Kd.N_alloc | apply Kd.N_drewN | apply Kd.N_drew)); exact HO463.out⟩, ⟨by repeat (first | (with_reducible first | exact HB.out | apply below_alloc | apply pw_below_drewN | apply below_drew1) | exact HB.out)⟩⟩
    ·rw [if_neg c10] at H
     have c10b0 : decide (x5_1 < 9) = false := decide_eq_false c10
     clear c10
     simp only [Option.some.injEq, Prod.mk.injEq] at H
     obtain ⟨rfl, rfl⟩ := H
     go_wp2
     go_ret2
     exact ⟨_, ee_, by (with_reducible repeat (first | apply Kd.N_alloc | apply Kd.N_drewN | apply Kd.N_drew)); exact HO_4.out, bb_ HB⟩
 ·replace c3 := Bool.eq_false_iff.mpr c3
  subst c3
  have H1 : (some ((([] : List (List Int))), false)) = some (r1, r2) := by rw [if_neg (show ¬ (false = true) by decide)] at H; exact H
  clear H
  have H := H1
  clear H1
  obtain ⟨y445, hy445⟩ : ∃ y_ : List (List Int), y_ = (([] : List (List Int))) := ⟨_, rfl⟩
  replace H : (some (y445, false)) = some (r1, r2) := by first | (rw [hy445]; with_reducible exact H) | (have H2_ := (Option.bind_some _ _).symm.trans H; rw [hy445]; with_reducible exact H2_) | (have H2_ := (Option.bind_some _ _).symm.trans H; with_reducible exact H2_) | with_reducible exact H | (rw [hy445]; exact H) | exact H
  have Ny445 := Aside0.mk hy445
  clear hy445
  simp only [Option.some.injEq, Prod.mk.injEq] at H
  obtain ⟨rfl, rfl⟩ := H
  go_enter Try.func26, Try.ntmps26
  go_wp2_with (first | (refine goesL_ (some 9) rfl rfl Try.func64 (by kernel_rfl) rfl #[.slice A0 l0.length c0] rfl ll_ ?_; (with_reducible refine (spec_SystemIn.calls k _ _ l0 false _ ?side1 ?side2 A2.out).mono ?_); (case side1 => exact ss_ HR0); (case side2 => exact HC0.out); rintro e w23 ⟨rfl, hb⟩; refine ⟨_, rfl, ?_⟩; have n0_ := Aside0.mk (below_step (bb_ HB) hb); clear HB; have HB := n0_; clear n0_; (try clear hb); (try clear hb2); (try clear hk); (try clear hi)) | ((with_reducible refine gate_dst (N := 11) rfl ?_); refine Kd.N_lit (Kd.slice 3 (Kd.int .i64)) _ 23 ?hg (N' := 11) ?hd (xs := ([] : List (List Int))) (inner := []) (ok := (fun k_ => (w.heap.size ≤ k_))) (okp := (fun k_ => (w.heap.size ≤ k_))) ?hr ?hp (fun _ hk => hk) ((show ∀ k_, w23.heap.size ≤ k_ → (fun k_ => (w.heap.size ≤ k_)) k_ from fun k_ hk => (Nat.le_trans (below_size (bb_ HB)) hk)) _ (Nat.le_refl _)) (Below.refl _ _) (Nat.le_refl _) (by simp) ?_; (case hd => rfl); (case hg => rfl); (case hr => first | (go_simp; done) | (go_simp; rfl)); (case hp => exact (Reps.none _ _)); intro v446 w24 ho25 hb hg_ hnew_; clear hg_ hnew_; (first | rw [← Ny445.out] at ho25 | (simp only [Int.reduceToNat] at ho25; rw [← Ny445.out] at ho25)); have n0_ := Aside0.mk (Kd.N_lower ho25 (below_size (bb_ HB))); have n1_ := Aside0.mk (below_step (bb_ HB) hb); clear HB; have HO447 := n0_; have HB := n1_; clear n0_ n1_; clear hb ho25))
  go_ret2
  exact ⟨_, ee_, by (with_reducible repeat (first | apply Kd.N_alloc | apply Kd.N_drewN | apply Kd.N_drew)); exact HO447.out, bb_ HB⟩
end Go.Proofs.Ytbfafjejmljcpaa.P

set_option linter.unusedVariables false
set_option linter.unusedSimpArgs false
namespace Go.Proofs.Ytbfafjejmljcpaa.X
open Go.RowKit Go.Proofs.YtbfafjejmljcpaaW.PrintWords Go.Proofs.YtbfafjejmljcpaaW.PrintLast Go.Proofs.Ytbfafjejmljcpaa.P

def leaf0 : List Int := [0, 1, 2, 3, 4, 5, 6, 7, 8]
def leafF (t : List Int) (m x : Int) : Int := 9 * x + rd t (9 * x + m)
def leafM (t : List Int) (m : Int) : List Int := mapI 9 (leafF t m)
def spreadN (t : List Int) : Nat → List (List Int)
  | 0 => [leaf0]
  | n + 1 => insL (spreadN t n) (leafM t (n : Int))
theorem leafM_length (t : List Int) (m : Int) : (leafM t m).length = 9 := mapI_length _ _
theorem spreadN_nines (t : List Int) (n : Nat) : ∀ a ∈ spreadN t n, a.length = 9 := by
  induction n with
  | zero => intro a ha; rw [List.mem_singleton.1 ha]; rfl
  | succ n ih => exact insL_nines ih (leafM_length t n)
end Go.Proofs.Ytbfafjejmljcpaa.X

set_option linter.unusedVariables false
set_option linter.unusedSimpArgs false
namespace Go.Proofs.Ytbfafjejmljcpaa.P
open Go.RowKit Go.Proofs.YtbfafjejmljcpaaW.PrintWords Go.Proofs.YtbfafjejmljcpaaW.PrintLast

def bits_Len64.f (a0 : Int) : Option Int := if a0 = 9 then some 4 else none
set_option maxHeartbeats 4000000 in
set_option maxRecDepth 100000 in
theorem bits_Len64.calls (a0 : Int) (r : Int) (w : World) (h : bits_Len64.f a0 = some r) :
    Calls Try.prog 138 #[.int .u64 a0] w fun e w' => e = .returned (.int .i64 r) ∧ Drawn0 w w' := by
  unfold bits_Len64.f at h
  by_cases hc : a0 = 9
  case neg => rw [if_neg hc] at h; exact absurd h (by simp)
  rw [if_pos hc] at h
  obtain rfl := Option.some.inj h
  subst hc
  clear h
  go_enter Try.func138, Try.ntmps138
  go_wp2
  go_ret
  exact ⟨by kernel_rfl, Drawn0.refl _⟩
end Go.Proofs.Ytbfafjejmljcpaa.P

namespace Go.Proofs.Ytbfafjejmljcpaa.P
open Go.RowKit Go.Proofs.YtbfafjejmljcpaaW.PrintWords Go.Proofs.YtbfafjejmljcpaaW.PrintLast
set_option linter.unusedVariables false
set_option linter.unusedSimpArgs false

def bits_Len.f (a0 : Int) : Option (Int) := (bits_Len64.f a0).bind fun t719 => (some t719)
set_option maxHeartbeats 8000000 in
set_option maxRecDepth 100000 in
theorem bits_Len.calls (a0 : Int) (r : Int) (w : World) (h : bits_Len.f a0 = some r) :
  Calls Try.prog 99 #[.int .u64 a0] w fun e w' => e = .returned (.int .i64 r) ∧ Drawn0 w w' := by
 have H : ((bits_Len64.f a0).bind fun t719 => (some t719)) = some r := h
 clear h
 replace H := Option.bind_eq_some_iff.mp H
 obtain ⟨t719, A20, H⟩ := H
 replace H : (some t719) = some r := H
 have A2 := Aside0.mk A20
 clear A20
 obtain rfl := Option.some.inj H
 go_enter Try.func99, Try.ntmps99
 go_wp2_with (first | (refine goesL_ (some 7) rfl rfl Try.func138 (by kernel_rfl) rfl #[.int .u64 a0] rfl ll_ ?_; (with_reducible refine (bits_Len64.calls a0 t719 _ A2.out).mono ?_); rintro e w' ⟨rfl, ⟨nd, rfl⟩⟩; refine ⟨_, rfl, ?_⟩))
 go_ret
 exact ⟨by first | rfl | (simp; done) | (simp [*]; done), by repeat (first | exact Drawn0.refl _ | apply Drawn0.step)⟩
end Go.Proofs.Ytbfafjejmljcpaa.P

set_option linter.unusedVariables false
set_option linter.unusedSimpArgs false
namespace Go.Proofs.Ytbfafjejmljcpaa.P
open Go.RowKit Go.Proofs.YtbfafjejmljcpaaW.PrintWords Go.Proofs.YtbfafjejmljcpaaW.PrintLast

abbrev HCmp (lt : HH → HH → Bool) (P0_ : Nat → Prop) (l0 : List HH) (w0 w : World) : Prop :=
  ∀ W : World, Kept w W (fun k_ => P0_ k_) → Below w0.heap.size w0 W → ∀ a b : HH, a ∈ l0 → b ∈ l0 → Calls Try.prog 84 #[hEnc a, hEnc b] W fun e w' => (∃ c : Int, e = .returned (.int .i64 c) ∧ decide (c < 0) = lt a b) ∧ Drawn0 W w'
set_option maxHeartbeats 4000000 in
set_option maxRecDepth 100000 in
theorem pdqCmp_calls (lt : HH → HH → Bool) (k : Nat) (P0_ : Nat → Prop) (u9000_ : Value) (l0 : List HH) (a1 a2 a3 : Int) (r : List HH) (w0 w : World) (hB : Below w0.heap.size w0 w) (ho0 : Kd.R hdK 23 w w0.heap.size P0_ u9000_ l0) (HC_ : HCmp lt P0_ l0 w0 w)
    (h0 : 0 ≤ a1) (h1 : a1 ≤ a2) (h2 : a2 ≤ 4611686018427387904) (h3 : a2 - a1 ≤ 12) (h : hsL0 lt k l0 a1 a2 (wrap64 (a1 + 1)) = some r) :
    Calls Try.prog 118 #[u9000_, .int .i64 a1, .int .i64 a2, .int .i64 a3, .func (.func 84) #[] #[]] w fun e w' => e = .returned (.tuple #[]) ∧ Kd.R hdK 23 w' w0.heap.size (fun k_ => (P0_ k_ ∨ w.heap.size ≤ k_)) u9000_ r ∧ Below w0.heap.size w0 w' ∧ Kept w w' (fun k_ => P0_ k_) := by
  have HS := Aside0.mk (insCmp_calls lt k P0_ u9000_ l0 a1 a2 r w0 w hB ho0 HC_ h)
  clear hB ho0 h HC_
  go_enter Try.func118, Try.ntmps118
  go_wp2
  go_loopg [1, 2, 3] 1 (fun kq v1 v2 v3 w' => v1 = .int .i64 a1 ∧ v2 = .int .i64 a2 ∧ v3 = .int .i64 a3 ∧ Aside0 (w' = w))
  case atStart => exact ⟨rfl, rfl, rfl, ⟨rfl⟩⟩
  case round =>
    obtain ⟨rfl, rfl, rfl, HW⟩ := hrel
    have hw := HW.out
    subst hw
    have e12 : wrap64 (a2 - a1) = a2 - a1 := by unfold wrap64; omega
    have c12 : decide (a2 - a1 ≤ 12) = true := decide_eq_true h3
    go_wp2_with (go_at_call 145; refine HS.out.mono ?_; rintro e w' ⟨rfl, hr', hb', hk'⟩)
    first | go_end0 | ((try simp only [Exit.inBlock, Exit.then]); refine bodyPost_ret (results_none rfl _ _ _) rfl ?_)
    exact ⟨rfl, hr', hb', hk'⟩
end Go.Proofs.Ytbfafjejmljcpaa.P

set_option linter.unusedVariables false
set_option linter.unusedSimpArgs false
namespace Go.Proofs.Ytbfafjejmljcpaa.X
open Go.RowKit Go.Proofs.YtbfafjejmljcpaaW.PrintWords Go.Proofs.YtbfafjejmljcpaaW.PrintLast Go.Proofs.Ytbfafjejmljcpaa.P

theorem gap_cm (a b : List Int) : gapI b a = gapI a b := by
  unfold gapI
  exact congrArg (firstI 9) (funext fun i => by rw [bne_comm])
theorem lessB_asym {a b : List Int} (h : lessB a b = true) (h2 : lessB b a = true) : False := by
  unfold lessB at h h2
  rw [gap_cm a b] at h2
  simp only [Bool.and_eq_true, decide_eq_true_eq] at h h2
  omega
theorem lessB_iff {a b : List Int} : lessB a b = true ↔ ∃ i : Int, 0 ≤ i ∧ i < 9 ∧ rd a i < rd b i ∧ ∀ j : Int, 0 ≤ j → j < i → rd a j = rd b j := by
  constructor
  · intro h
    unfold lessB at h
    simp only [Bool.and_eq_true, decide_eq_true_eq] at h
    obtain ⟨h0, h1⟩ := h
    by_cases hx : ∃ i : Int, 0 ≤ i ∧ i < 9 ∧ (rd a i != rd b i) = true
    · obtain ⟨i, i0, i1, i2⟩ := hx
      have s := firstI_spec (n := 9) (p := fun i => rd a i != rd b i) i i0 i1 i2
      refine ⟨gapI a b, h0, s.2.1, h1, fun j j0 j1 => ?_⟩
      apply Classical.byContradiction
      intro hne
      have s2 := firstI_spec (n := 9) (p := fun i => rd a i != rd b i) j j0 (by have := s.2.1; unfold gapI at j1; omega) (by simpa using hne)
      have : gapI a b ≤ j := s2.2.2.2
      omega
    · have : gapI a b = -1 := firstI_none fun i i0 i1 => Bool.eq_false_iff.2 fun h => hx ⟨i, i0, i1, h⟩
      omega
  · rintro ⟨i, i0, i1, hlt, heq⟩
    have : gapI a b = i := firstI_some i i0 i1 (by simp; omega) fun j j0 j1 => by rw [heq j j0 j1]; simp
    unfold lessB
    rw [this, decide_eq_true i0, decide_eq_true hlt]; rfl
theorem lessB_trans {a b c : List Int} (h : lessB a b = true) (h2 : lessB b c = true) : lessB a c = true := by
  obtain ⟨i, i0, i1, hi, ei⟩ := lessB_iff.1 h
  obtain ⟨j, j0, j1, hj, ej⟩ := lessB_iff.1 h2
  refine lessB_iff.2 ?_
  rcases Int.lt_trichotomy i j with hlt | rfl | hgt
  · exact ⟨i, i0, i1, by rw [← ej i i0 hlt]; exact hi, fun k k0 k1 => (ei k k0 k1).trans (ej k k0 (by omega))⟩
  · exact ⟨i, i0, i1, by omega, fun k k0 k1 => (ei k k0 k1).trans (ej k k0 k1)⟩
  · exact ⟨j, j0, j1, by rw [ei j j0 hgt]; exact hj, fun k k0 k1 => (ei k k0 (by omega)).trans (ej k k0 k1)⟩
theorem lessB_total {a b : List Int} (ha : a.length = 9) (hb : b.length = 9) (hne : a ≠ b) : lessB a b = true ∨ lessB b a = true := by
  by_cases hx : ∃ i : Int, 0 ≤ i ∧ i < 9 ∧ (rd a i != rd b i) = true
  · obtain ⟨i, i0, i1, i2⟩ := hx
    have s := firstI_spec (n := 9) (p := fun i => rd a i != rd b i) i i0 i1 i2
    have hg : 0 ≤ gapI a b := s.1
    have hd : rd a (gapI a b) ≠ rd b (gapI a b) := by have := s.2.2.1; simpa [gapI] using this
    unfold lessB
    rw [gap_cm a b, decide_eq_true hg]
    rcases Int.lt_or_gt_of_ne hd with h | h
    · left; rw [decide_eq_true h]; rfl
    · right; rw [decide_eq_true h]; rfl
  · exfalso
    apply hne
    refine ext_rd (by omega) fun i hi => ?_
    apply Classical.byContradiction
    intro h
    exact hx ⟨(i : Int), by omega, by omega, by simpa using h⟩
def Asc (l : List (List Int)) : Prop := l.Pairwise fun a b => lessB a b = true
theorem asc_ext : ∀ a b : List (List Int), Asc a → Asc b → (∀ x, x ∈ a ↔ x ∈ b) → a = b := by
  intro a
  induction a with
  | nil =>
    intro b _ _ h
    cases b with
    | nil => rfl
    | cons y b => exact absurd ((h y).2 List.mem_cons_self) (by simp)
  | cons x a ih =>
    intro b ha hb h
    cases b with
    | nil => exact absurd ((h x).1 List.mem_cons_self) (by simp)
    | cons y b =>
      have ha := List.pairwise_cons.1 ha
      have hb := List.pairwise_cons.1 hb
      have e : x = y := by
        rcases List.mem_cons.1 ((h x).1 List.mem_cons_self) with e | e
        · exact e
        · rcases List.mem_cons.1 ((h y).2 List.mem_cons_self) with e2 | e2
          · exact e2.symm
          · exact absurd (lessB_asym (hb.1 x e) (ha.1 y e2)) id
      subst e
      rw [ih b ha.2 hb.2 fun z => ⟨fun hz => ?_, fun hz => ?_⟩]
      · rcases List.mem_cons.1 ((h z).1 (List.mem_cons_of_mem _ hz)) with e | e
        · exact absurd (lessB_asym (ha.1 z hz) (by rw [e] at hz ⊢; exact ha.1 _ hz)) id
        · exact e
      · rcases List.mem_cons.1 ((h z).2 (List.mem_cons_of_mem _ hz)) with e | e
        · exact absurd (lessB_asym (hb.1 z hz) (by rw [e] at hz ⊢; exact hb.1 _ hz)) id
        · exact e
theorem spread_lt {l : List (List Int)} (h : spreadB l = true) (d : Nat) : ∀ i : Int, 0 ≤ i → i + 1 + d < 10 → lessB (rd_LI l i) (rd_LI l (i + 1 + d)) = true := by
  have step : ∀ i : Int, 0 < i → i < 10 → lessB (rd_LI l (i - 1)) (rd_LI l i) = true := fun i i0 i1 => by
    have := (leafOk_parts ((spreadB_parts h).2 i (by omega) i1)).2.1
    unfold ordB at this
    rw [decide_eq_false (by omega : ¬ i ≤ 0)] at this
    simpa using this
  induction d with
  | zero =>
    intro i i0 i1
    have := step (i + 1) (by omega) (by omega)
    rw [show i + 1 - 1 = i by omega] at this
    simpa using this
  | succ d ih =>
    intro i i0 i1
    have h1 := ih i i0 (by omega)
    have h2 := step (i + 1 + ((d + 1 : Nat) : Int)) (by omega) (by omega)
    rw [show i + 1 + ((d + 1 : Nat) : Int) - 1 = i + 1 + (d : Int) by omega] at h2
    exact lessB_trans h1 h2
end Go.Proofs.Ytbfafjejmljcpaa.X

set_option linter.unusedVariables false
set_option linter.unusedSimpArgs false
namespace Go.Proofs.Ytbfafjejmljcpaa.X
open Go.RowKit Go.Proofs.YtbfafjejmljcpaaW.PrintWords Go.Proofs.YtbfafjejmljcpaaW.PrintLast Go.Proofs.Ytbfafjejmljcpaa.P

def swH (j a : Int) : Int := if a = j then j - 1 else if a = j - 1 then j else a
def swapH (l : List HH) (j : Int) : List HH := (l.set j.toNat (rdH l (j - 1))).set (j - 1).toNat (rdH l j)
theorem rdH_set {l : List HH} {i j : Int} {v : HH} (i0 : 0 ≤ i) (i1 : i < l.length) (j0 : 0 ≤ j) : rdH (l.set i.toNat v) j = if j = i then v else rdH l j := by
  unfold rdH rdOf
  rw [List.getD_eq_getElem?_getD, List.getD_eq_getElem?_getD, List.getElem?_set]
  by_cases e : j = i
  · rw [if_pos e, if_pos (by omega), if_pos (by omega)]; rfl
  · rw [if_neg e, if_neg (by omega)]
theorem swapH_rd {l : List HH} {j : Int} (j0 : 0 < j) (j1 : j < l.length) {a : Int} (a0 : 0 ≤ a) : rdH (swapH l j) a = rdH l (swH j a) := by
  unfold swapH swH
  rw [rdH_set (by omega) (by rw [List.length_set]; omega) a0, rdH_set (by omega) j1 a0]
  by_cases e1 : a = j - 1
  · rw [if_pos e1, if_neg (by omega), if_pos e1]
  · by_cases e2 : a = j
    · rw [if_neg e1, if_pos e2, if_pos e2]
    · rw [if_neg e1, if_neg e2, if_neg e2, if_neg e1]
theorem swapH_length (l : List HH) (j : Int) : (swapH l j).length = l.length := by unfold swapH; rw [List.length_set, List.length_set]
theorem mem_rdH {l : List HH} {v : HH} : v ∈ l ↔ ∃ i : Int, 0 ≤ i ∧ i < l.length ∧ rdH l i = v := by
  constructor
  · intro h
    obtain ⟨i, hi, e⟩ := List.mem_iff_getElem.1 h
    exact ⟨i, by omega, by omega, by unfold rdH rdOf; rw [List.getD_eq_getElem?_getD, List.getElem?_eq_getElem (by omega)]; exact e⟩
  · rintro ⟨i, i0, i1, e⟩
    rw [← e]; exact rdH_mem i0 i1
theorem swapH_mem {l : List HH} {j : Int} (j0 : 0 < j) (j1 : j < l.length) {v : HH} : v ∈ swapH l j ↔ v ∈ l := by
  rw [mem_rdH, mem_rdH]
  have rng : ∀ a : Int, 0 ≤ a → a < l.length → 0 ≤ swH j a ∧ swH j a < l.length := fun a a0 a1 => by unfold swH; split <;> (try split) <;> omega
  have inv : ∀ a : Int, swH j (swH j a) = a := fun a => by unfold swH; split <;> (try split) <;> (try split) <;> omega
  constructor
  · rintro ⟨a, a0, a1, e⟩
    rw [swapH_length] at a1
    rw [swapH_rd j0 j1 a0] at e
    exact ⟨swH j a, (rng a a0 a1).1, (rng a a0 a1).2, e⟩
  · rintro ⟨a, a0, a1, e⟩
    refine ⟨swH j a, (rng a a0 a1).1, by rw [swapH_length]; exact (rng a a0 a1).2, ?_⟩
    rw [swapH_rd j0 j1 (rng a a0 a1).1, inv]; exact e
def DifH (val : HH → List Int) (l : List HH) : Prop := ∀ a b : Int, 0 ≤ a → a < l.length → 0 ≤ b → b < l.length → a ≠ b → val (rdH l a) ≠ val (rdH l b)
theorem swapH_dif {val : HH → List Int} {l : List HH} (h : DifH val l) {j : Int} (j0 : 0 < j) (j1 : j < l.length) : DifH val (swapH l j) := by
  intro a b a0 a1 b0 b1 hne
  rw [swapH_length] at a1 b1
  rw [swapH_rd j0 j1 a0, swapH_rd j0 j1 b0]
  refine h _ _ ?_ ?_ ?_ ?_ ?_ <;> (unfold swH; split <;> (try split) <;> (try split) <;> (try split) <;> omega)
def ltV (val : HH → List Int) (a b : HH) : Bool := lessB (val a) (val b)
def NearH (val : HH → List Int) (l : List HH) (i j : Int) : Prop := (∀ a b : Int, 0 ≤ a → a < b → b ≤ i → a ≠ j → b ≠ j → ltV val (rdH l a) (rdH l b) = true) ∧ ∀ b : Int, j < b → b ≤ i → ltV val (rdH l j) (rdH l b) = true
def SortH (val : HH → List Int) (l r : List HH) : Prop := r.length = l.length ∧ (∀ v, v ∈ r ↔ v ∈ l) ∧ r.Pairwise (fun a b => ltV val a b = true)
theorem hd_l1 {val : HH → List Int} {l0 : List HH} (h9 : ∀ a ∈ l0, (val a).length = 9) {n : Int} (hn : n ≤ 1000) {i : Int} (i0 : 0 ≤ i) (i1 : i < n) (hr : ∀ l : List HH, (l.length : Int) = n → (∀ v, v ∈ l ↔ v ∈ l0) → DifH val l → (∀ a b : Int, 0 ≤ a → a < b → b ≤ i → ltV val (rdH l a) (rdH l b) = true) → ∃ r, SortH val l0 r ∧ Ev (fun k => hsL0 (ltV val) k l 0 n (i + 1)) r) (d : Nat) :
    ∀ (j : Int) (l : List HH), j = d → j ≤ i → (l.length : Int) = n → (∀ v, v ∈ l ↔ v ∈ l0) → DifH val l → NearH val l i j → ∃ r, SortH val l0 r ∧ Ev (fun k => hsL1 (ltV val) k l 0 n i j) r := by
  induction d with
  | zero =>
    intro j l hj ji hl hm hd hN
    have hj : j = 0 := hj
    subst hj
    obtain ⟨r, h1, h2⟩ := hr l hl hm hd fun a b a0 ab b1 => by
      by_cases e : a = 0
      · subst e; exact hN.2 b (by omega) b1
      · exact hN.1 a b a0 ab b1 e (by omega)
    refine ⟨r, h1, ?_⟩
    refine Ev.step (fun k => by rw [hsL1]) ?_
    rw [w64 (x := i + 1) (by omega) (by omega)]
    exact Ev.neg (by omega) h2
  | succ d ih =>
    intro j l hj ji hl hm hd hN
    have e1 : wrap64 (j - 1) = j - 1 := w64 (by omega) (by omega)
    have e2 : wrap64 (i + 1) = i + 1 := w64 (by omega) (by omega)
    by_cases hc : ltV val (rdH l j) (rdH l (j - 1)) = true
    · have hlen := swapH_length l j
      have R := fun (a : Int) (a0 : 0 ≤ a) => swapH_rd (l := l) (j := j) (by omega) (by omega) a0
      obtain ⟨r, h1, h2⟩ := ih (j - 1) (swapH l j) (by omega) (by omega) (by rw [hlen]; exact hl) (fun v => (swapH_mem (by omega) (by omega)).trans (hm v)) (swapH_dif hd (by omega) (by omega)) ⟨fun a b a0 ab b1 na nb => by
          rw [R a a0, R b (by omega)]
          unfold swH
          by_cases ea : a = j
          · rw [if_pos ea, if_neg (by omega), if_neg nb]
            exact hN.1 (j - 1) b (by omega) (by omega) b1 (by omega) (by omega)
          · rw [if_neg ea, if_neg na]
            by_cases eb : b = j
            · rw [if_pos eb]
              exact hN.1 a (j - 1) a0 (by omega) (by omega) ea (by omega)
            · rw [if_neg eb, if_neg nb]
              exact hN.1 a b a0 ab b1 ea eb, fun b jb b1 => by
          rw [R (j - 1) (by omega), R b (by omega)]
          unfold swH
          rw [if_neg (by omega), if_pos rfl]
          by_cases eb : b = j
          · rw [if_pos eb]; exact hc
          · rw [if_neg eb, if_neg (by omega)]
            exact hN.2 b (by omega) b1⟩
      refine ⟨r, h1, ?_⟩
      refine Ev.step (fun k => by rw [hsL1]) ?_
      rw [e1, e2]
      exact Ev.pos (by omega) (Ev.pos (by omega) (Ev.pos (by omega) (Ev.pos (by omega) (Ev.pos (by omega) (Ev.fix (congrArg some hc) (Ev.pos rfl h2))))))
    · have hlt : ltV val (rdH l (j - 1)) (rdH l j) = true := by
        have hne := hd (j - 1) j (by omega) (by omega) (by omega) (by omega) (by omega)
        have m1 : rdH l (j - 1) ∈ l0 := (hm _).1 (rdH_mem (by omega) (by omega))
        have m2 : rdH l j ∈ l0 := (hm _).1 (rdH_mem (by omega) (by omega))
        rcases lessB_total (h9 _ m1) (h9 _ m2) hne with h | h
        · exact h
        · exact absurd h hc
      obtain ⟨r, h1, h2⟩ := hr l hl hm hd fun a b a0 ab b1 => by
        by_cases ea : a = j
        · subst ea; exact hN.2 b ab b1
        · by_cases eb : b = j
          · subst eb
            by_cases e : a = b - 1
            · rw [e]; exact hlt
            · exact lessB_trans (hN.1 a (b - 1) a0 (by omega) (by omega) ea (by omega)) hlt
          · exact hN.1 a b a0 ab b1 ea eb
      refine ⟨r, h1, ?_⟩
      refine Ev.step (fun k => by rw [hsL1]) ?_
      rw [e1, e2]
      exact Ev.pos (by omega) (Ev.pos (by omega) (Ev.pos (by omega) (Ev.pos (by omega) (Ev.pos (by omega) (Ev.fix (congrArg some (Bool.eq_false_iff.2 hc)) (Ev.neg (by decide) h2))))))
theorem hd_l0 {val : HH → List Int} {l0 : List HH} (h9 : ∀ a ∈ l0, (val a).length = 9) {n : Int} (hn : n ≤ 1000) (d : Nat) : ∀ (i : Int) (l : List HH), 1 ≤ i → i + d = n → (l.length : Int) = n → (∀ v, v ∈ l ↔ v ∈ l0) → DifH val l → (∀ a b : Int, 0 ≤ a → a < b → b < i → ltV val (rdH l a) (rdH l b) = true) → (l0.length : Int) = n → ∃ r, SortH val l0 r ∧ Ev (fun k => hsL0 (ltV val) k l 0 n i) r := by
  induction d with
  | zero =>
    intro i l i0 hi hl hm hd ha h0
    refine ⟨l, ⟨by omega, hm, List.pairwise_iff_getElem.2 fun a b h1 h2 hab => ?_⟩, ?_⟩
    · have := ha (a : Int) (b : Int) (by omega) (by omega) (by omega)
      have e : ∀ c : Nat, (hc : c < l.length) → rdH l (c : Int) = l[c] := fun c hc => by
        unfold rdH rdOf
        rw [Int.toNat_natCast, List.getD_eq_getElem?_getD, List.getElem?_eq_getElem hc]; rfl
      rwa [e a h1, e b h2] at this
    · refine Ev.step (fun k => by rw [hsL0]) ?_
      exact Ev.neg (by omega) (Ev.done rfl)
  | succ d ih =>
    intro i l i0 hi hl hm hd ha h0
    obtain ⟨r, h1, h2⟩ := hd_l1 (val := val) (l0 := l0) h9 hn (i := i) (by omega) (by omega) (fun l hl hm hd ha => ih (i + 1) l (by omega) (by omega) hl hm hd (fun a b a0 ab b1 => ha a b a0 ab (by omega)) h0) i.toNat i l (by omega) (by omega) hl hm hd
      ⟨fun a b a0 ab b1 na nb => ha a b a0 ab (by omega), fun b ib b1 => by omega⟩
    refine ⟨r, h1, ?_⟩
    refine Ev.step (fun k => by rw [hsL0]) ?_
    exact Ev.pos (by omega) h2
theorem heads_ev {val : HH → List Int} {l : List HH} (h9 : ∀ a ∈ l, (val a).length = 9) (hn : (l.map val).Nodup) (h0 : 0 < l.length) (h1 : l.length ≤ 12) : ∃ r, SortH val l r ∧ Ev (fun k => hsL0 (ltV val) k l 0 (l.length : Int) (wrap64 (0 + 1))) r := by
  have hD : DifH val l := fun a b a0 a1 b0 b1 hne e => by
    have g : ∀ c : Int, (c0 : 0 ≤ c) → (hc : c < l.length) → val (rdH l c) = (l.map val)[c.toNat]'(by rw [List.length_map]; omega) := fun c c0 hc => by
      unfold rdH rdOf
      rw [List.getD_eq_getElem?_getD, List.getElem?_eq_getElem (by omega), List.getElem_map]; rfl
    rw [g a a0 a1, g b b0 b1] at e
    have := (List.getElem_inj hn).1 e
    omega
  rw [show wrap64 (0 + 1) = 1 from w64 (by omega) (by omega)]
  exact hd_l0 h9 (by omega) (l.length - 1) 1 l (by omega) (by omega) rfl (fun v => Iff.rfl) hD (fun a b a0 ab b1 => by omega) rfl
end Go.Proofs.Ytbfafjejmljcpaa.X
