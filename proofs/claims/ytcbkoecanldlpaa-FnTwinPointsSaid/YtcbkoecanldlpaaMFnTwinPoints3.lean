/- The law FnTwinPoints of the given program: for every input the call returns true, and each argument reads afterwards as it read before. No conditions. (Part 4 of 6; the last part holds the theorem.) -/
import Derived.Test.YtcbkoecanldlpaaMFnTwinPoints0
import Derived.Test.YtcbkoecanldlpaaMFnTwinPoints1
import Derived.Test.YtcbkoecanldlpaaMFnTwinPoints2
namespace Go.Proofs.Ytcbkoecanldlpaa.P
open Go.RowKit Go.Proofs.YtcbkoecanldlpaaW.PrintWords Go.Proofs.YtcbkoecanldlpaaW.PrintLast
set_option linter.unusedVariables false
set_option linter.unusedSimpArgs false

mutual
def spec_TwinIn.j0 : Nat → List Int → List Int → Bool → Option (Bool)
 | 0, _, _, _ => none
 | k + 1, x0, x1, x21 => if x21 = true then (some false) else (spec_TwinIn.l0 k x0 x1 1)
def spec_TwinIn.l0 : Nat → List Int → List Int → Int → Option (Bool)
 | 0, _, _, _ => none
 | k + 1, x0, x1, x5 => if x5 ≤ 3 then (if 0 < (x1.length : Int) then (if 0 ≤ x5 then (if x5 < (x1.length : Int) then (if 0 ≤ (wrap64 (x5 + 3)) then (if (wrap64 (x5 + 3)) < (x1.length : Int) then ((spec_l3Three.f k x0 (rd x1 0) (rd x1 x5) (rd x1 (wrap64 (x5 + 3)))).bind fun t282 => (if t282 = true then (spec_TwinIn.l0 k x0 x1 (wrap64 (x5 + 1))) else (some false))) else (none)) else (none)) else (none)) else (none)) else (none)) else (if 0 < (x1.length : Int) then (if 1 < (x1.length : Int) then ((spec_l3Join.f k x0 (rd x1 0) (rd x1 1)).bind fun t285 => (if 2 < (x1.length : Int) then ((spec_l3Join.f k x0 (rd x1 0) (rd x1 2)).bind fun t288 => (if 3 < (x1.length : Int) then ((spec_l3Join.f k x0 (rd x1 0) (rd x1 3)).bind fun t291 => (if t285 = t288 then (some false) else (if t285 = t291 then (some false) else (if t288 = t291 then (some false) else ((spec_l3Three.f k x0 (rd x1 1) (rd x1 2) (rd x1 3)).bind fun t295 => (if t295 = true then (some false) else (if 4 < (x1.length : Int) then (if 5 < (x1.length : Int) then (if 6 < (x1.length : Int) then ((spec_l3Three.f k x0 (rd x1 4) (rd x1 5) (rd x1 6)).bind fun t299 => (some (!t299))) else (none)) else (none)) else (none)))))))) else (none))) else (none))) else (none)) else (none))
end
def spec_TwinIn.f (k : Nat) (l0 : List Int) (l1 : List Int) : Option (Bool) := (spec_SystemIn.f k l0).bind fun t277 => (if t277 = true then (if (l1.length : Int) = 7 then ((spec_l4Different.f k l1).bind fun t278 => (spec_TwinIn.j0 k l0 l1 (!t278))) else (spec_TwinIn.j0 k l0 l1 true)) else (spec_TwinIn.j0 k l0 l1 true))
def spec_TwinIn.T6 : Bool × List (List Nat × List Nat) := (true, [([], []), ([], []), ([1], [1]), ([2], [2]), ([], []), ([], []), ([4, 5], [4, 5]), ([6], [6]), ([], []), ([], []), ([9], [9]), ([8, 10], [8, 10]), ([11], [11]), ([0, 3, 7, 12], [0, 3, 7, 12]), ([13], [13])])
def spec_TwinIn.B6 : List Nat := [0, 0, 2, 6, 0, 0, 48, 112, 0, 0, 512, 1792, 3840, 8191, 16383]
theorem spec_TwinIn.tab6 : rtab .any (opsOf Try.f17 6) = spec_TwinIn.T6 := by kernel_rfl
theorem spec_TwinIn.bits6 : waitsOk spec_TwinIn.T6.2 spec_TwinIn.B6 = true := by kernel_rfl
def spec_TwinIn.T8 : Bool × List (List Nat × List Nat) := (true, [([], []), ([], []), ([1], [1]), ([2], [2]), ([], []), ([4], [4]), ([5], [5]), ([0, 3, 6], [0, 3, 6]), ([7, 7, 0, 1, 2, 3, 4, 5, 6, 7], [7])])
def spec_TwinIn.B8 : List Nat := [0, 0, 2, 6, 0, 16, 48, 127, 255]
theorem spec_TwinIn.tab8 : rtab .any (opsOf Try.f17 8) = spec_TwinIn.T8 := by kernel_rfl
theorem spec_TwinIn.bits8 : waitsOk spec_TwinIn.T8.2 spec_TwinIn.B8 = true := by kernel_rfl
def spec_TwinIn.T9 : Bool × List (List Nat × List Nat) := (true, [([], []), ([], []), ([1], [1]), ([2], [2]), ([], []), ([4], [4]), ([5], [5]), ([0, 3, 6], [0, 3, 6]), ([7, 7, 0, 1, 2, 3, 4, 5, 6, 7], [7])])
def spec_TwinIn.B9 : List Nat := [0, 0, 2, 6, 0, 16, 48, 127, 255]
theorem spec_TwinIn.tab9 : rtab .any (opsOf Try.f17 9) = spec_TwinIn.T9 := by kernel_rfl
theorem spec_TwinIn.bits9 : waitsOk spec_TwinIn.T9.2 spec_TwinIn.B9 = true := by kernel_rfl
def spec_TwinIn.T10 : Bool × List (List Nat × List Nat) := (true, [([], []), ([], []), ([1], [1]), ([2], [2]), ([], []), ([4], [4]), ([5], [5]), ([0, 3, 6], [0, 3, 6]), ([7, 7, 0, 1, 2, 3, 4, 5, 6, 7], [7])])
def spec_TwinIn.B10 : List Nat := [0, 0, 2, 6, 0, 16, 48, 127, 255]
theorem spec_TwinIn.tab10 : rtab .any (opsOf Try.f17 10) = spec_TwinIn.T10 := by kernel_rfl
theorem spec_TwinIn.bits10 : waitsOk spec_TwinIn.T10.2 spec_TwinIn.B10 = true := by kernel_rfl
def spec_TwinIn.T11 : Bool × List (List Nat × List Nat) := (true, [([], []), ([], []), ([0, 1], [0, 1]), ([2], [2]), ([3], [3]), ([3], [3]), ([4, 5, 3], [3, 4, 5]), ([3, 6], [3, 6]), ([7, 3], [7]), ([8], [8]), ([8], [8]), ([9, 10, 8], [8, 9, 10]), ([8, 11], [8, 11]), ([12, 8], [12]), ([13], [13]), ([13], [13]), ([15, 13], [13, 15]), ([16, 13], [13, 16]), ([13], [13]), ([18, 13], [13, 18]), ([19, 13], [13, 19]), ([13], [13]), ([21, 13], [13, 21]), ([22, 13], [13, 22]), ([14, 17, 20, 23, 13, 13], [13, 14, 17, 20, 23]), ([24, 13], [13, 24]), ([13, 25], [13, 25]), ([26, 24], [26]), ([27], [27]), ([27], [27]), ([29, 27], [27, 29]), ([30, 27], [27, 30]), ([27], [27]), ([32, 27], [27, 32]), ([33, 27], [27, 33]), ([27], [27]), ([35, 27], [27, 35]), ([36, 27], [27, 36]), ([28, 31, 34, 37, 27, 27], [27, 28, 31, 34, 37]), ([38, 27], [27, 38]), ([27, 39], [27, 39]), ([40, 38, 0, 1, 2, 3, 4, 5, 6, 7, 8, 9, 10, 11, 12, 13, 14, 15, 16, 17, 18, 19, 20, 21, 22, 23, 24, 25, 26, 27, 28, 29, 30, 31, 32, 33, 34, 35, 36, 37, 38, 39, 40], [40])])
def spec_TwinIn.B11 : List Nat := [0, 0, 3, 7, 15, 15, 63, 127, 255, 511, 511, 2047, 4095, 8191, 16383, 16383, 49151, 114687, 16383, 278527, 802815, 16383, 2113535, 6307839, 16777215, 33554431, 67108863, 134217727, 268435455, 268435455, 805306367, 1879048191, 268435455, 4563402751, 13153337343, 268435455, 34628173823, 103347650559, 274877906943, 549755813887, 1099511627775, 2199023255551]
theorem spec_TwinIn.tab11 : rtab .any (opsOf Try.f17 11) = spec_TwinIn.T11 := by kernel_rfl
theorem spec_TwinIn.bits11 : waitsOk spec_TwinIn.T11.2 spec_TwinIn.B11 = true := by kernel_rfl
set_option maxHeartbeats 8000000 in
set_option maxRecDepth 100000 in
theorem spec_TwinIn.calls (k : Nat) (A0 : Option Addr) (c0 : Nat) (l0 : List Int) (A1 : Option Addr) (c1 : Nat) (l1 : List Int) (r : Bool) (w : World) (hr0 : Kd.C (Kd.int .i64) w A0 l0.length l0) (hc0 : l0.length ≤ c0) (hr1 : Kd.C (Kd.int .i64) w A1 l1.length l1) (hc1 : l1.length ≤ c1) (h : spec_TwinIn.f k l0 l1 = some r) :
  Calls Try.prog 17 #[.slice A0 l0.length c0, .slice A1 l1.length c1] w fun e w' => e = .returned (.bool r) ∧ Below w.heap.size w w' := by
 have HR0 := Aside0.mk hr0
 have HC0 := Aside0.mk hc0
 clear hr0 hc0
 have HR1 := Aside0.mk hr1
 have HC1 := Aside0.mk hc1
 clear hr1 hc1
 have HB := Aside0.mk (Below.refl w.heap.size w)
 have H : ((spec_SystemIn.f k l0).bind fun t277 => (if t277 = true then (if (l1.length : Int) = 7 then ((spec_l4Different.f k l1).bind fun t278 => (spec_TwinIn.j0 k l0 l1 (!t278))) else (spec_TwinIn.j0 k l0 l1 true)) else (spec_TwinIn.j0 k l0 l1 true))) = some r := h
 clear h
 have HC3 := Aside0.mk H
 clear H
 go_enter Try.func17, Try.ntmps17
 go_upto_region 1 with (fail)
 go_cut [21] (fun v21 wc => ∃ (kq : Nat) (x21_2 : Bool), v21 = .bool x21_2 ∧ Aside0 (spec_TwinIn.j0 kq l0 l1 x21_2 = some r) ∧ Aside0 (kq ≤ k) ∧ Aside0 (Below w.heap.size w wc))
 case first =>
  have H := HC3.out
  clear HC3
  replace H := Option.bind_eq_some_iff.mp H
  obtain ⟨t277, A40, H⟩ := H
  replace H : (if t277 = true then (if (l1.length : Int) = 7 then ((spec_l4Different.f k l1).bind fun t278 => (spec_TwinIn.j0 k l0 l1 (!t278))) else (spec_TwinIn.j0 k l0 l1 true)) else (spec_TwinIn.j0 k l0 l1 true)) = some r := H
  have A4 := Aside0.mk A40
  clear A40
  by_cases c5 : t277 = true
  ·subst c5
   have H1 : (if (l1.length : Int) = 7 then ((spec_l4Different.f k l1).bind fun t278 => (spec_TwinIn.j0 k l0 l1 (!t278))) else (spec_TwinIn.j0 k l0 l1 true)) = some r := by rw [if_pos rfl] at H; exact H
   clear H
   have H := H1
   clear H1
   by_cases c6 : (l1.length : Int) = 7
   ·rw [if_pos c6] at H
    have c6b0 : ((l1.length : Int) == 7) = true := beq_iff_eq.mpr c6
    have c6b1 : ((l1.length : Int) != 7) = false := bne_eq_false_iff_eq.mpr c6
    clear c6
    (first | rw [c6b0] | (simp only [i64_w, i32_w]; rw [c6b0]) | skip)
    replace H := Option.bind_eq_some_iff.mp H
    obtain ⟨t278, A70, H⟩ := H
    replace H : (spec_TwinIn.j0 k l0 l1 (!t278)) = some r := H
    have A7 := Aside0.mk A70
    clear A70
    have H' := Aside0.mk H
    clear H
    go_wp2_with (first | (refine goesL_ (some 10) rfl rfl Try.func63 (by kernel_rfl) rfl #[.slice A0 l0.length c0] rfl ll_ ?_; (with_reducible refine (spec_SystemIn.calls k _ _ l0 true _ ?side1 ?side2 A4.out).mono ?_); (case side1 => exact sb_ HR0 HB); (case side2 => exact HC0.out); rintro e w8 ⟨rfl, hb⟩; refine ⟨_, rfl, ?_⟩; have n0_ := Aside0.mk (below_step (bb_ HB) hb); clear HB; have HB := n0_; clear n0_; (try clear hb); (try clear hb2); (try clear hk); (try clear hi)) | (go_at_call 64; (with_reducible refine (spec_l4Different.calls k _ _ l1 t278 _ ?side1 ?side2 A7.out).mono ?_); (case side1 => exact sb_ HR1 HB); (case side2 => exact HC1.out); rintro e w' ⟨rfl, ⟨nd, rfl⟩⟩))
    go_meet
    case rel => exact ⟨_, (!t278), (by first | rfl | (simp; done) | (simp [*]; done)), H', ⟨by first | omega | exact Nat.le_refl _⟩, ⟨by repeat (first | (with_reducible first | exact HB.out | apply below_alloc | apply pw_below_drewN | apply below_drew1) | exact HB.out)⟩⟩
   ·rw [if_neg c6] at H
    have c6b0 : ((l1.length : Int) == 7) = false := beq_eq_false_iff_ne.mpr c6
    have c6b1 : ((l1.length : Int) != 7) = true := bne_iff_ne.mpr c6
    (first | rw [c6b0] | (simp only [i64_w, i32_w]; rw [c6b0]) | skip)
    have H' := Aside0.mk H
    clear H
    go_wp2_with (first | (refine goesL_ (some 10) rfl rfl Try.func63 (by kernel_rfl) rfl #[.slice A0 l0.length c0] rfl ll_ ?_; (with_reducible refine (spec_SystemIn.calls k _ _ l0 true _ ?side1 ?side2 A4.out).mono ?_); (case side1 => exact sb_ HR0 HB); (case side2 => exact HC0.out); rintro e w9 ⟨rfl, hb⟩; refine ⟨_, rfl, ?_⟩; have n0_ := Aside0.mk (below_step (bb_ HB) hb); clear HB; have HB := n0_; clear n0_; (try clear hb); (try clear hb2); (try clear hk); (try clear hi)))
    go_meet
    case rel => exact ⟨_, (true), (by first | rfl | (simp; done) | (simp [*]; done)), H', ⟨by first | omega | exact Nat.le_refl _⟩, ⟨by repeat (first | (with_reducible first | exact HB.out | apply below_alloc | apply pw_below_drewN | apply below_drew1) | exact HB.out)⟩⟩
  ·replace c5 := Bool.eq_false_iff.mpr c5
   subst c5
   have H1 : (spec_TwinIn.j0 k l0 l1 true) = some r := by rw [if_neg (show ¬ (false = true) by decide)] at H; exact H
   clear H
   have H := H1
   clear H1
   have H' := Aside0.mk H
   clear H
   go_wp2_with (first | (refine goesL_ (some 10) rfl rfl Try.func63 (by kernel_rfl) rfl #[.slice A0 l0.length c0] rfl ll_ ?_; (with_reducible refine (spec_SystemIn.calls k _ _ l0 false _ ?side1 ?side2 A4.out).mono ?_); (case side1 => exact sb_ HR0 HB); (case side2 => exact HC0.out); rintro e w10 ⟨rfl, hb⟩; refine ⟨_, rfl, ?_⟩; have n0_ := Aside0.mk (below_step (bb_ HB) hb); clear HB; have HB := n0_; clear n0_; (try clear hb); (try clear hb2); (try clear hk); (try clear hi)))
   go_meet
   case rel => exact ⟨_, (true), (by first | rfl | (simp; done) | (simp [*]; done)), H', ⟨by first | omega | exact Nat.le_refl _⟩, ⟨by repeat (first | (with_reducible first | exact HB.out | apply below_alloc | apply pw_below_drewN | apply below_drew1) | exact HB.out)⟩⟩
 case rest =>
  clear HC3
  try clear c1
  try clear p2
  try clear c5
  try clear c6
  try clear c6b0
  try clear c6b1
  obtain ⟨kq, x21_2, rfl, HA, HJ2, HB⟩ := hcut
  cases kq with
  | zero => exact absurd HA.out (by simp [spec_TwinIn.j0])
  | succ kj2 =>
   have H := HA.out
   clear HA
   simp only [spec_TwinIn.j0] at H
   by_cases c11 : x21_2 = true
   ·subst c11
    have H1 : (some false) = some r := by rw [if_pos rfl] at H; exact H
    clear H
    have H := H1
    clear H1
    obtain rfl := Option.some.inj H
    go_wp2
    go_ret
    exact ⟨ee_, bb_ HB⟩
   ·replace c11 := Bool.eq_false_iff.mpr c11
    subst c11
    have H1 : (spec_TwinIn.l0 kj2 l0 l1 1) = some r := by rw [if_neg (show ¬ (false = true) by decide)] at H; exact H
    clear H
    have H := H1
    clear H1
    have H' := Aside0.mk H
    clear H
    go_wp2
    go_loopg [5] kj2 (fun kq v5 w' => ∃ (x5_2 : Int), v5 = .int .i64 x5_2 ∧ Aside0 (spec_TwinIn.l0 kq l0 l1 x5_2 = some r) ∧ Aside0 (kq ≤ kj2) ∧ Aside0 (Below w.heap.size w w'))
    case atStart => exact ⟨(1), (by first | rfl | (simp; done) | (simp [*]; done)), H', ⟨Nat.le_refl _⟩, ⟨by repeat (first | (with_reducible first | exact HB.out | apply below_alloc | apply pw_below_drewN | apply below_drew1) | exact HB.out)⟩⟩
    case round =>
     clear H'
     try clear c1
     try clear p2
     try clear c5
     try clear c6
     try clear c6b0
     try clear c6b1
     try clear c11
     try clear p2
     obtain ⟨x5_2, rfl, HA, HK2, HB⟩ := hrel
     cases gk with
     | zero => exact absurd HA.out (by simp [spec_TwinIn.l0])
     | succ k2 =>
      have H := HA.out
      clear HA
      simp only [spec_TwinIn.l0] at H
      by_cases c12 : x5_2 ≤ 3
      ·rw [if_pos c12] at H
       have c12b0 : decide (x5_2 ≤ 3) = true := decide_eq_true c12
       clear c12
       by_cases c13 : 0 < (l1.length : Int)
       ·rw [if_pos c13] at H
        have c13b0 : decide (0 < (l1.length : Int)) = true := decide_eq_true c13
        have c13b1 : decide (0 < l1.length) = true := decide_eq_true (by omega)
        clear c13
        by_cases c14 : 0 ≤ x5_2
        ·rw [if_pos c14] at H
         have c14b0 : decide (0 ≤ x5_2) = true := decide_eq_true c14
         clear c14
         by_cases c15 : x5_2 < (l1.length : Int)
         ·rw [if_pos c15] at H
          have c15b0 : decide (x5_2 < (l1.length : Int)) = true := decide_eq_true c15
          clear c15
          obtain ⟨ji16, hji16⟩ : ∃ j_ : Int, (wrap64 (x5_2 + 3)) = j_ := ⟨_, rfl⟩
          replace H : (if 0 ≤ (ji16) then (if (ji16) < (l1.length : Int) then ((spec_l3Three.f k2 l0 (rd l1 0) (rd l1 x5_2) (rd l1 (ji16))).bind fun t282 => (if t282 = true then (spec_TwinIn.l0 k2 l0 l1 (wrap64 (x5_2 + 1))) else (some false))) else (none)) else (none)) = some r := by first | (rw [hji16] at H; exact H) | (simp only [hji16] at H ⊢; exact H)
          have hji16w : (IntKind.i64.wrap (x5_2 + 3)) = ji16 := (i64_w _).trans hji16
          by_cases c17 : 0 ≤ (ji16)
          ·rw [if_pos c17] at H
           have c17b0 : decide (0 ≤ (ji16)) = true := decide_eq_true c17
           clear c17
           by_cases c18 : (ji16) < (l1.length : Int)
           ·rw [if_pos c18] at H
            have c18b0 : decide ((ji16) < (l1.length : Int)) = true := decide_eq_true c18
            clear c18
            replace H := Option.bind_eq_some_iff.mp H
            obtain ⟨t282, A190, H⟩ := H
            replace H : (if t282 = true then (spec_TwinIn.l0 k2 l0 l1 (wrap64 (x5_2 + 1))) else (some false)) = some r := H
            have A19 := Aside0.mk A190
            clear A190
            by_cases c20 : t282 = true
            ·subst c20
             have H1 : (spec_TwinIn.l0 k2 l0 l1 (wrap64 (x5_2 + 1))) = some r := by rw [if_pos rfl] at H; exact H
             clear H
             have H := H1
             clear H1
             have H' := Aside0.mk H
             clear H
             try go_wp2
             have n0_ := Aside0.mk (below_drew1 HB.out)
             clear HB
             have HB := n0_
             clear n0_
             have p279 : 0 ≤ (0 : Int) := (by omega)
             have q279 : 0 < (l1.length : Int) := dd_
             obtain ⟨ad279, e279, hx279_0⟩ := Kd.at_int HR1.out 0 p279 q279
             have hw279_0 := hx279_0
             (try rw [show ((0 : Int)).toNat = 0 from rfl] at hw279_0)
             (try rw [show 0 * 1 = 0 from rfl] at hw279_0)
             (try rw [Addr.add_zero'] at hw279_0)
             cases e279
             have qi279 : (0 < l1.length) = True := eq_true (by omega)
             (try rw [show ((0 : Int)).toNat = 0 from rfl] at hx279_0)
             (try rw [Addr.add_zero'] at hx279_0)
             replace hx279_0 := hc_ HB hx279_0
             replace p279 := eq_true p279
             replace q279 := eq_true q279
             have p280 : 0 ≤ (x5_2 : Int) := dd_
             have q280 : x5_2 < (l1.length : Int) := dd_
             obtain ⟨ad280, e280, hx280_0⟩ := Kd.at_int HR1.out x5_2 p280 q280
             have hw280_0 := hx280_0
             obtain rfl : ad279 = ad280 := (by injection e280)
             replace hx280_0 := hc_ HB hx280_0
             replace p280 := eq_true p280
             replace q280 := eq_true q280
             have p281 : 0 ≤ ((ji16) : Int) := dd_
             have q281 : (ji16) < (l1.length : Int) := dd_
             obtain ⟨ad281, e281, hx281_0⟩ := Kd.at_int HR1.out (ji16) p281 q281
             have hw281_0 := hx281_0
             obtain rfl : ad279 = ad281 := (by injection e281)
             replace hx281_0 := hc_ HB hx281_0
             replace p281 := eq_true p281
             replace q281 := eq_true q281
             refine start_ (n := 15) (S := fun w' => w'.cell? ad279 = some (.int .i64 (rd l1 0)) ∧ w'.cell? (ad279.add (x5_2).toNat) = some (.int .i64 (rd l1 x5_2)) ∧ w'.cell? (ad279.add ((ji16)).toNat) = some (.int .i64 (rd l1 (ji16)))) (ds := []) #[F_,F_,F_,F_,F_,F_,F_,F_,F_,F_,F_,F_,F_,F_,F_] (by kernel_rfl) rfl rfl ⟨(hc_ HB hw279_0), (hc_ HB hw280_0), (hc_ HB hw281_0)⟩ (fun hHeld => ?_); refine with_tabW spec_TwinIn.tab6 spec_TwinIn.bits6 (fun HT_ HW_ => ?_)
             generalize wr.drew = w21 at HB hx279_0 hx280_0 hx281_0 hHeld ⊢
             refine p_ 0 26 (m_ 15 1) HT_.out ?_
             refine p_ 1 27 (m_ 15 3) HT_.out ?_
             refine p_ 2 28 (m_ 15 7) HT_.out ?_
             refine p_ 4 30 (m_ 15 23) HT_.out ?_
             refine p_ 5 31 (m_ 15 55) HT_.out ?_
             refine p_ 6 32 (m_ 15 119) HT_.out ?_
             refine p_ 8 34 (m_ 15 375) HT_.out ?_
             refine p_ 9 35 (m_ 15 887) HT_.out ?_
             refine p_ 10 36 (m_ 15 1911) HT_.out ?_
             refine p_ 11 37 (m_ 15 3959) HT_.out ?_
             refine t3_ 3 29 (m_ 15 3967) HT_.out HW_.out hHeld ?_
             refine t3_ 7 33 (m_ 15 4095) HT_.out HW_.out hHeld ?_
             refine t3_ 12 38 (m_ 15 8191) HT_.out HW_.out hHeld ?_
             refine one_ (i := 13) (N := some 39) (m_ 15 16383) rfl rfl (one_of HT_.out (by kernel_rfl)) (by decide) (fun K hK => ?_)
             refine goes_ Try.func65 (by kernel_rfl) rfl #[.slice A0 l0.length c0, .int .i64 (rd l1 0), .int .i64 (rd l1 x5_2), .int .i64 (rd l1 (ji16))] (by rfl) rfl rfl (by (try simp only [List.map_toArray, List.map_cons, List.map_nil]); first | done | (simp only [hji16]; rfl) | rfl | (simp only [List.length_drop, List.length_take]; rfl)) ?_
             with_reducible refine (spec_l3Three.calls k2 _ _ l0 (rd l1 0) (rd l1 x5_2) (rd l1 (ji16)) true _ ?side1 ?side2 A19.out).mono ?_
             (case side1 => exact sb_ HR0 HB)
             (case side2 => exact HC0.out)
             rintro e w' ⟨rfl, ⟨nd, rfl⟩⟩
             refine ⟨_, rfl, ?_⟩
             refine hK.out _ _ ⟨(hc_ HB hw279_0), (hc_ HB hw280_0), (hc_ HB hw281_0)⟩ (fun hHeld => ?_)
             clear hK K
             refine norm_ (a' := ?_) ?_ ?_; rotate_left; (show Act.put _ (some 39) _ = _; simp only [Act.put, List.setIfInBounds_toArray, List.set_cons_zero, List.set_cons_succ, i64_w, i32_w]; rfl)
             refine p_ 14 40 (m_ 15 32767) HT_.out ?_
             refine done_ (done_of HT_.out (by kernel_rfl)) ?_
             try go_wp2
             go_roundg k2
             case measure => have := HJ2.out; have := HK2.out; omega
             case rel => exact ⟨(wrap64 (x5_2 + 1)), (by first | rfl | (simp; done) | (simp [*]; done)), H', ⟨by have := HJ2.out; have := HK2.out; omega⟩, ⟨by repeat (first | (with_reducible first | exact HB.out | apply below_alloc | apply pw_below_drewN | apply below_drew1) | exact HB.out)⟩⟩
            ·replace c20 := Bool.eq_false_iff.mpr c20
             subst c20
             have H1 : (some false) = some r := by rw [if_neg (show ¬ (false = true) by decide)] at H; exact H
             clear H
             have H := H1
             clear H1
             obtain rfl := Option.some.inj H
             try go_wp2
             have n0_ := Aside0.mk (below_drew1 HB.out)
             clear HB
             have HB := n0_
             clear n0_
             have p279 : 0 ≤ (0 : Int) := (by omega)
             have q279 : 0 < (l1.length : Int) := dd_
             obtain ⟨ad279, e279, hx279_0⟩ := Kd.at_int HR1.out 0 p279 q279
             have hw279_0 := hx279_0
             (try rw [show ((0 : Int)).toNat = 0 from rfl] at hw279_0)
             (try rw [show 0 * 1 = 0 from rfl] at hw279_0)
             (try rw [Addr.add_zero'] at hw279_0)
             cases e279
             have qi279 : (0 < l1.length) = True := eq_true (by omega)
             (try rw [show ((0 : Int)).toNat = 0 from rfl] at hx279_0)
             (try rw [Addr.add_zero'] at hx279_0)
             replace hx279_0 := hc_ HB hx279_0
             replace p279 := eq_true p279
             replace q279 := eq_true q279
             have p280 : 0 ≤ (x5_2 : Int) := dd_
             have q280 : x5_2 < (l1.length : Int) := dd_
             obtain ⟨ad280, e280, hx280_0⟩ := Kd.at_int HR1.out x5_2 p280 q280
             have hw280_0 := hx280_0
             obtain rfl : ad279 = ad280 := (by injection e280)
             replace hx280_0 := hc_ HB hx280_0
             replace p280 := eq_true p280
             replace q280 := eq_true q280
             have p281 : 0 ≤ ((ji16) : Int) := dd_
             have q281 : (ji16) < (l1.length : Int) := dd_
             obtain ⟨ad281, e281, hx281_0⟩ := Kd.at_int HR1.out (ji16) p281 q281
             have hw281_0 := hx281_0
             obtain rfl : ad279 = ad281 := (by injection e281)
             replace hx281_0 := hc_ HB hx281_0
             replace p281 := eq_true p281
             replace q281 := eq_true q281
             refine start_ (n := 15) (S := fun w' => w'.cell? ad279 = some (.int .i64 (rd l1 0)) ∧ w'.cell? (ad279.add (x5_2).toNat) = some (.int .i64 (rd l1 x5_2)) ∧ w'.cell? (ad279.add ((ji16)).toNat) = some (.int .i64 (rd l1 (ji16)))) (ds := []) #[F_,F_,F_,F_,F_,F_,F_,F_,F_,F_,F_,F_,F_,F_,F_] (by kernel_rfl) rfl rfl ⟨(hc_ HB hw279_0), (hc_ HB hw280_0), (hc_ HB hw281_0)⟩ (fun hHeld => ?_); refine with_tabW spec_TwinIn.tab6 spec_TwinIn.bits6 (fun HT_ HW_ => ?_)
             generalize wr.drew = w22 at HB hx279_0 hx280_0 hx281_0 hHeld ⊢
             refine p_ 0 26 (m_ 15 1) HT_.out ?_
             refine p_ 1 27 (m_ 15 3) HT_.out ?_
             refine p_ 2 28 (m_ 15 7) HT_.out ?_
             refine p_ 4 30 (m_ 15 23) HT_.out ?_
             refine p_ 5 31 (m_ 15 55) HT_.out ?_
             refine p_ 6 32 (m_ 15 119) HT_.out ?_
             refine p_ 8 34 (m_ 15 375) HT_.out ?_
             refine p_ 9 35 (m_ 15 887) HT_.out ?_
             refine p_ 10 36 (m_ 15 1911) HT_.out ?_
             refine p_ 11 37 (m_ 15 3959) HT_.out ?_
             refine t3_ 3 29 (m_ 15 3967) HT_.out HW_.out hHeld ?_
             refine t3_ 7 33 (m_ 15 4095) HT_.out HW_.out hHeld ?_
             refine t3_ 12 38 (m_ 15 8191) HT_.out HW_.out hHeld ?_
             refine one_ (i := 13) (N := some 39) (m_ 15 16383) rfl rfl (one_of HT_.out (by kernel_rfl)) (by decide) (fun K hK => ?_)
             refine goes_ Try.func65 (by kernel_rfl) rfl #[.slice A0 l0.length c0, .int .i64 (rd l1 0), .int .i64 (rd l1 x5_2), .int .i64 (rd l1 (ji16))] (by rfl) rfl rfl (by (try simp only [List.map_toArray, List.map_cons, List.map_nil]); first | done | (simp only [hji16]; rfl) | rfl | (simp only [List.length_drop, List.length_take]; rfl)) ?_
             with_reducible refine (spec_l3Three.calls k2 _ _ l0 (rd l1 0) (rd l1 x5_2) (rd l1 (ji16)) false _ ?side1 ?side2 A19.out).mono ?_
             (case side1 => exact sb_ HR0 HB)
             (case side2 => exact HC0.out)
             rintro e w' ⟨rfl, ⟨nd, rfl⟩⟩
             refine ⟨_, rfl, ?_⟩
             refine hK.out _ _ ⟨(hc_ HB hw279_0), (hc_ HB hw280_0), (hc_ HB hw281_0)⟩ (fun hHeld => ?_)
             clear hK K
             refine norm_ (a' := ?_) ?_ ?_; rotate_left; (show Act.put _ (some 39) _ = _; simp only [Act.put, List.setIfInBounds_toArray, List.set_cons_zero, List.set_cons_succ, i64_w, i32_w]; rfl)
             refine p_ 14 40 (m_ 15 32767) HT_.out ?_
             refine done_ (done_of HT_.out (by kernel_rfl)) ?_
             try go_wp2
             go_ret
             exact ⟨by first | rfl | (simp [errW_none, errW_some] <;> rfl) | (simp only [← hji16]; first | rfl | (simp [errW_none, errW_some] <;> rfl)) | (simp [*, errW_none, errW_some] <;> rfl), bb_ HB⟩
           ·rw [if_neg c18] at H
            exact absurd H (by simp)
          ·rw [if_neg c17] at H
           exact absurd H (by simp)
         ·rw [if_neg c15] at H
          exact absurd H (by simp)
        ·rw [if_neg c14] at H
         exact absurd H (by simp)
       ·rw [if_neg c13] at H
        exact absurd H (by simp)
      ·rw [if_neg c12] at H
       have c12b0 : decide (x5_2 ≤ 3) = false := decide_eq_false c12
       clear c12
       by_cases c23 : 0 < (l1.length : Int)
       ·rw [if_pos c23] at H
        have c23b0 : decide (0 < (l1.length : Int)) = true := decide_eq_true c23
        have c23b1 : decide (0 < l1.length) = true := decide_eq_true (by omega)
        clear c23
        by_cases c24 : 1 < (l1.length : Int)
        ·rw [if_pos c24] at H
         have c24b0 : decide (1 < (l1.length : Int)) = true := decide_eq_true c24
         have c24b1 : decide (1 < l1.length) = true := decide_eq_true (by omega)
         clear c24
         replace H := Option.bind_eq_some_iff.mp H
         obtain ⟨t285, A250, H⟩ := H
         replace H : (if 2 < (l1.length : Int) then ((spec_l3Join.f k2 l0 (rd l1 0) (rd l1 2)).bind fun t288 => (if 3 < (l1.length : Int) then ((spec_l3Join.f k2 l0 (rd l1 0) (rd l1 3)).bind fun t291 => (if t285 = t288 then (some false) else (if t285 = t291 then (some false) else (if t288 = t291 then (some false) else ((spec_l3Three.f k2 l0 (rd l1 1) (rd l1 2) (rd l1 3)).bind fun t295 => (if t295 = true then (some false) else (if 4 < (l1.length : Int) then (if 5 < (l1.length : Int) then (if 6 < (l1.length : Int) then ((spec_l3Three.f k2 l0 (rd l1 4) (rd l1 5) (rd l1 6)).bind fun t299 => (some (!t299))) else (none)) else (none)) else (none)))))))) else (none))) else (none)) = some r := H
         have A25 := Aside0.mk A250
         clear A250
         by_cases c26 : 2 < (l1.length : Int)
         ·rw [if_pos c26] at H
          have c26b0 : decide (2 < (l1.length : Int)) = true := decide_eq_true c26
          have c26b1 : decide (2 < l1.length) = true := decide_eq_true (by omega)
          clear c26
          replace H := Option.bind_eq_some_iff.mp H
          obtain ⟨t288, A270, H⟩ := H
          replace H : (if 3 < (l1.length : Int) then ((spec_l3Join.f k2 l0 (rd l1 0) (rd l1 3)).bind fun t291 => (if t285 = t288 then (some false) else (if t285 = t291 then (some false) else (if t288 = t291 then (some false) else ((spec_l3Three.f k2 l0 (rd l1 1) (rd l1 2) (rd l1 3)).bind fun t295 => (if t295 = true then (some false) else (if 4 < (l1.length : Int) then (if 5 < (l1.length : Int) then (if 6 < (l1.length : Int) then ((spec_l3Three.f k2 l0 (rd l1 4) (rd l1 5) (rd l1 6)).bind fun t299 => (some (!t299))) else (none)) else (none)) else (none)))))))) else (none)) = some r := H
          have A27 := Aside0.mk A270
          clear A270
          by_cases c28 : 3 < (l1.length : Int)
          ·rw [if_pos c28] at H
           have c28b0 : decide (3 < (l1.length : Int)) = true := decide_eq_true c28
           have c28b1 : decide (3 < l1.length) = true := decide_eq_true (by omega)
           clear c28
           replace H := Option.bind_eq_some_iff.mp H
           obtain ⟨t291, A290, H⟩ := H
           replace H : (if t285 = t288 then (some false) else (if t285 = t291 then (some false) else (if t288 = t291 then (some false) else ((spec_l3Three.f k2 l0 (rd l1 1) (rd l1 2) (rd l1 3)).bind fun t295 => (if t295 = true then (some false) else (if 4 < (l1.length : Int) then (if 5 < (l1.length : Int) then (if 6 < (l1.length : Int) then ((spec_l3Three.f k2 l0 (rd l1 4) (rd l1 5) (rd l1 6)).bind fun t299 => (some (!t299))) else (none)) else (none)) else (none))))))) = some r := H
           have A29 := Aside0.mk A290
           clear A290
           by_cases c30 : t285 = t288
           ·rw [if_pos c30] at H
            have c30b0 : (t285 == t288) = true := beq_iff_eq.mpr c30
            have c30b1 : (t285 != t288) = false := bne_eq_false_iff_eq.mpr c30
            clear c30
            obtain rfl := Option.some.inj H
            try go_wp2
            have n0_ := Aside0.mk (below_drew1 HB.out)
            clear HB
            have HB := n0_
            clear n0_
            have p283 : 0 ≤ (0 : Int) := (by omega)
            have q283 : 0 < (l1.length : Int) := dd_
            obtain ⟨ad283, e283, hx283_0⟩ := Kd.at_int HR1.out 0 p283 q283
            have hw283_0 := hx283_0
            (try rw [show ((0 : Int)).toNat = 0 from rfl] at hw283_0)
            (try rw [show 0 * 1 = 0 from rfl] at hw283_0)
            (try rw [Addr.add_zero'] at hw283_0)
            cases e283
            have qi283 : (0 < l1.length) = True := eq_true (by omega)
            (try rw [show ((0 : Int)).toNat = 0 from rfl] at hx283_0)
            (try rw [Addr.add_zero'] at hx283_0)
            replace hx283_0 := hc_ HB hx283_0
            replace p283 := eq_true p283
            replace q283 := eq_true q283
            have p284 : 0 ≤ (1 : Int) := (by omega)
            have q284 : 1 < (l1.length : Int) := dd_
            obtain ⟨ad284, e284, hx284_0⟩ := Kd.at_int HR1.out 1 p284 q284
            have hw284_0 := hx284_0
            (try rw [show ((1 : Int)).toNat = 1 from rfl] at hw284_0)
            (try rw [show 1 * 1 = 1 from rfl] at hw284_0)
            (try simp only [Nat.reduceMul, Nat.reduceEqDiff, Go.Addr.add, ↓reduceIte] at hw284_0)
            obtain rfl : ad283 = ad284 := (by injection e284)
            (try simp only [show (1 : Int).toNat = 1 from rfl, Nat.reduceMul, Nat.reduceEqDiff, Go.Addr.add, ↓reduceIte] at hx284_0)
            have qi284 : (1 < l1.length) = True := eq_true (by omega)
            (try rw [show ((1 : Int)).toNat = 1 from rfl] at hx284_0)
            replace hx284_0 := hc_ HB hx284_0
            replace p284 := eq_true p284
            replace q284 := eq_true q284
            refine start_ (n := 9) (S := fun w' => w'.cell? ad283 = some (.int .i64 (rd l1 0)) ∧ w'.cell? ⟨ad283.block, ad283.off + 1, none⟩ = some (.int .i64 (rd l1 1))) (ds := []) #[F_,F_,F_,F_,F_,F_,F_,F_,F_] (by kernel_rfl) rfl rfl ⟨(hc_ HB hw283_0), (hc_ HB hw284_0)⟩ (fun hHeld => ?_); refine with_tabW spec_TwinIn.tab8 spec_TwinIn.bits8 (fun HT_ HW_ => ?_)
            generalize wr.drew = w31 at HB hx283_0 hx284_0 hHeld ⊢
            refine p_ 0 41 (m_ 9 1) HT_.out ?_
            refine p_ 1 42 (m_ 9 3) HT_.out ?_
            refine p_ 2 43 (m_ 9 7) HT_.out ?_
            refine p_ 4 45 (m_ 9 23) HT_.out ?_
            refine p_ 5 46 (m_ 9 55) HT_.out ?_
            refine t2_ 3 44 (m_ 9 63) HT_.out HW_.out hHeld ?_
            refine t2_ 6 47 (m_ 9 127) HT_.out HW_.out hHeld ?_
            refine one_ (i := 7) (N := some 48) (m_ 9 255) rfl rfl (one_of HT_.out (by kernel_rfl)) (by decide) (fun K hK => ?_)
            refine goes_ Try.func66 (by kernel_rfl) rfl #[.slice A0 l0.length c0, .int .i64 (rd l1 0), .int .i64 (rd l1 1)] (by rfl) rfl rfl ll_ ?_
            with_reducible refine (spec_l3Join.calls k2 _ _ l0 (rd l1 0) (rd l1 1) t285 _ ?side1 ?side2 A25.out).mono ?_
            (case side1 => exact sb_ HR0 HB)
            (case side2 => exact HC0.out)
            rintro e w' ⟨rfl, ⟨nd, rfl⟩⟩
            refine ⟨_, rfl, ?_⟩
            refine hK.out _ _ ⟨(hc_ HB hw283_0), (hc_ HB hw284_0)⟩ (fun hHeld => ?_)
            clear hK K
            refine norm_ (a' := ?_) ?_ ?_; rotate_left; (show Act.put _ (some 48) _ = _; simp only [Act.put, List.setIfInBounds_toArray, List.set_cons_zero, List.set_cons_succ, i64_w, i32_w]; rfl)
            refine p_ 8 6 (m_ 9 511) HT_.out ?_
            refine done_ (done_of HT_.out (by kernel_rfl)) ?_
            try go_wp2
            (try (rw [dself_ w31]; generalize hq_ : World.drewN w31 _ = w31; have n0_ : Aside0 (Below w.heap.size w w31) := ⟨by rw [← hq_]; exact (bb_ HB)⟩; clear HB hq_; have HB := n0_; clear n0_))
            have n0_ := Aside0.mk (below_drew1 HB.out)
            clear HB
            have HB := n0_
            clear n0_
            have p286 : 0 ≤ (0 : Int) := (by omega)
            have q286 : 0 < (l1.length : Int) := dd_
            obtain ⟨ad286, e286, hx286_0⟩ := Kd.at_int HR1.out 0 p286 q286
            have hw286_0 := hx286_0
            (try rw [show ((0 : Int)).toNat = 0 from rfl] at hw286_0)
            (try rw [show 0 * 1 = 0 from rfl] at hw286_0)
            (try rw [Addr.add_zero'] at hw286_0)
            obtain rfl : ad283 = ad286 := (by injection e286)
            have qi286 : (0 < l1.length) = True := eq_true (by omega)
            (try rw [show ((0 : Int)).toNat = 0 from rfl] at hx286_0)
            (try rw [Addr.add_zero'] at hx286_0)
            replace hx286_0 := hc_ HB hx286_0
            replace p286 := eq_true p286
            replace q286 := eq_true q286
            have p287 : 0 ≤ (2 : Int) := (by omega)
            have q287 : 2 < (l1.length : Int) := dd_
            obtain ⟨ad287, e287, hx287_0⟩ := Kd.at_int HR1.out 2 p287 q287
            have hw287_0 := hx287_0
            (try rw [show ((2 : Int)).toNat = 2 from rfl] at hw287_0)
            (try rw [show 2 * 1 = 2 from rfl] at hw287_0)
            (try simp only [Nat.reduceMul, Nat.reduceEqDiff, Go.Addr.add, ↓reduceIte] at hw287_0)
            obtain rfl : ad283 = ad287 := (by injection e287)
            (try simp only [show (2 : Int).toNat = 2 from rfl, Nat.reduceMul, Nat.reduceEqDiff, Go.Addr.add, ↓reduceIte] at hx287_0)
            have qi287 : (2 < l1.length) = True := eq_true (by omega)
            (try rw [show ((2 : Int)).toNat = 2 from rfl] at hx287_0)
            replace hx287_0 := hc_ HB hx287_0
            replace p287 := eq_true p287
            replace q287 := eq_true q287
            refine start_ (n := 9) (S := fun w' => w'.cell? ad283 = some (.int .i64 (rd l1 0)) ∧ w'.cell? ⟨ad283.block, ad283.off + 2, none⟩ = some (.int .i64 (rd l1 2))) (ds := []) #[F_,F_,F_,F_,F_,F_,F_,F_,F_] (by kernel_rfl) rfl rfl ⟨(hc_ HB hw286_0), (hc_ HB hw287_0)⟩ (fun hHeld => ?_); refine with_tabW spec_TwinIn.tab9 spec_TwinIn.bits9 (fun HT_ HW_ => ?_)
            generalize w31.drew = w32 at HB hx286_0 hx287_0 hHeld ⊢
            refine p_ 0 49 (m_ 9 1) HT_.out ?_
            refine p_ 1 50 (m_ 9 3) HT_.out ?_
            refine p_ 2 51 (m_ 9 7) HT_.out ?_
            refine p_ 4 53 (m_ 9 23) HT_.out ?_
            refine p_ 5 54 (m_ 9 55) HT_.out ?_
            refine t2_ 3 52 (m_ 9 63) HT_.out HW_.out hHeld ?_
            refine t2_ 6 55 (m_ 9 127) HT_.out HW_.out hHeld ?_
            refine one_ (i := 7) (N := some 56) (m_ 9 255) rfl rfl (one_of HT_.out (by kernel_rfl)) (by decide) (fun K hK => ?_)
            refine goes_ Try.func66 (by kernel_rfl) rfl #[.slice A0 l0.length c0, .int .i64 (rd l1 0), .int .i64 (rd l1 2)] (by rfl) rfl rfl ll_ ?_
            with_reducible refine (spec_l3Join.calls k2 _ _ l0 (rd l1 0) (rd l1 2) t288 _ ?side1 ?side2 A27.out).mono ?_
            (case side1 => exact sb_ HR0 HB)
            (case side2 => exact HC0.out)
            rintro e w' ⟨rfl, ⟨nd, rfl⟩⟩
            refine ⟨_, rfl, ?_⟩
            refine hK.out _ _ ⟨(hc_ HB hw286_0), (hc_ HB hw287_0)⟩ (fun hHeld => ?_)
            clear hK K
            refine norm_ (a' := ?_) ?_ ?_; rotate_left; (show Act.put _ (some 56) _ = _; simp only [Act.put, List.setIfInBounds_toArray, List.set_cons_zero, List.set_cons_succ, i64_w, i32_w]; rfl)
            refine p_ 8 7 (m_ 9 511) HT_.out ?_
            refine done_ (done_of HT_.out (by kernel_rfl)) ?_
            try go_wp2
            (try (rw [dself_ w32]; generalize hq_ : World.drewN w32 _ = w32; have n0_ : Aside0 (Below w.heap.size w w32) := ⟨by rw [← hq_]; exact (bb_ HB)⟩; clear HB hq_; have HB := n0_; clear n0_))
            have n0_ := Aside0.mk (below_drew1 HB.out)
            clear HB
            have HB := n0_
            clear n0_
            have p289 : 0 ≤ (0 : Int) := (by omega)
            have q289 : 0 < (l1.length : Int) := dd_
            obtain ⟨ad289, e289, hx289_0⟩ := Kd.at_int HR1.out 0 p289 q289
            have hw289_0 := hx289_0
            (try rw [show ((0 : Int)).toNat = 0 from rfl] at hw289_0)
            (try rw [show 0 * 1 = 0 from rfl] at hw289_0)
            (try rw [Addr.add_zero'] at hw289_0)
            obtain rfl : ad283 = ad289 := (by injection e289)
            have qi289 : (0 < l1.length) = True := eq_true (by omega)
            (try rw [show ((0 : Int)).toNat = 0 from rfl] at hx289_0)
            (try rw [Addr.add_zero'] at hx289_0)
            replace hx289_0 := hc_ HB hx289_0
            replace p289 := eq_true p289
            replace q289 := eq_true q289
            have p290 : 0 ≤ (3 : Int) := (by omega)
            have q290 : 3 < (l1.length : Int) := dd_
            obtain ⟨ad290, e290, hx290_0⟩ := Kd.at_int HR1.out 3 p290 q290
            have hw290_0 := hx290_0
            (try rw [show ((3 : Int)).toNat = 3 from rfl] at hw290_0)
            (try rw [show 3 * 1 = 3 from rfl] at hw290_0)
            (try simp only [Nat.reduceMul, Nat.reduceEqDiff, Go.Addr.add, ↓reduceIte] at hw290_0)
            obtain rfl : ad283 = ad290 := (by injection e290)
            (try simp only [show (3 : Int).toNat = 3 from rfl, Nat.reduceMul, Nat.reduceEqDiff, Go.Addr.add, ↓reduceIte] at hx290_0)
            have qi290 : (3 < l1.length) = True := eq_true (by omega)
            (try rw [show ((3 : Int)).toNat = 3 from rfl] at hx290_0)
            replace hx290_0 := hc_ HB hx290_0
            replace p290 := eq_true p290
            replace q290 := eq_true q290
            refine start_ (n := 9) (S := fun w' => w'.cell? ad283 = some (.int .i64 (rd l1 0)) ∧ w'.cell? ⟨ad283.block, ad283.off + 3, none⟩ = some (.int .i64 (rd l1 3))) (ds := []) #[F_,F_,F_,F_,F_,F_,F_,F_,F_] (by kernel_rfl) rfl rfl ⟨(hc_ HB hw289_0), (hc_ HB hw290_0)⟩ (fun hHeld => ?_); refine with_tabW spec_TwinIn.tab10 spec_TwinIn.bits10 (fun HT_ HW_ => ?_)
            generalize w32.drew = w33 at HB hx289_0 hx290_0 hHeld ⊢
            refine p_ 0 57 (m_ 9 1) HT_.out ?_
            refine p_ 1 58 (m_ 9 3) HT_.out ?_
            refine p_ 2 59 (m_ 9 7) HT_.out ?_
            refine p_ 4 61 (m_ 9 23) HT_.out ?_
            refine p_ 5 62 (m_ 9 55) HT_.out ?_
            refine t2_ 3 60 (m_ 9 63) HT_.out HW_.out hHeld ?_
            refine t2_ 6 63 (m_ 9 127) HT_.out HW_.out hHeld ?_
            refine one_ (i := 7) (N := some 64) (m_ 9 255) rfl rfl (one_of HT_.out (by kernel_rfl)) (by decide) (fun K hK => ?_)
            refine goes_ Try.func66 (by kernel_rfl) rfl #[.slice A0 l0.length c0, .int .i64 (rd l1 0), .int .i64 (rd l1 3)] (by rfl) rfl rfl ll_ ?_
            with_reducible refine (spec_l3Join.calls k2 _ _ l0 (rd l1 0) (rd l1 3) t291 _ ?side1 ?side2 A29.out).mono ?_
            (case side1 => exact sb_ HR0 HB)
            (case side2 => exact HC0.out)
            rintro e w' ⟨rfl, ⟨nd, rfl⟩⟩
            refine ⟨_, rfl, ?_⟩
            refine hK.out _ _ ⟨(hc_ HB hw289_0), (hc_ HB hw290_0)⟩ (fun hHeld => ?_)
            clear hK K
            refine norm_ (a' := ?_) ?_ ?_; rotate_left; (show Act.put _ (some 64) _ = _; simp only [Act.put, List.setIfInBounds_toArray, List.set_cons_zero, List.set_cons_succ, i64_w, i32_w]; rfl)
            refine p_ 8 8 (m_ 9 511) HT_.out ?_
            refine done_ (done_of HT_.out (by kernel_rfl)) ?_
            try go_wp2
            (try (rw [dself_ w33]; generalize hq_ : World.drewN w33 _ = w33; have n0_ : Aside0 (Below w.heap.size w w33) := ⟨by rw [← hq_]; exact (bb_ HB)⟩; clear HB hq_; have HB := n0_; clear n0_))
            have n0_ := Aside0.mk (below_drew1 HB.out)
            clear HB
            have HB := n0_
            clear n0_
            refine start_ (n := 42) (S := fun w' => True) (ds := []) #[F_,F_,F_,F_,F_,F_,F_,F_,F_,F_,F_,F_,F_,F_,F_,F_,F_,F_,F_,F_,F_,F_,F_,F_,F_,F_,F_,F_,F_,F_,F_,F_,F_,F_,F_,F_,F_,F_,F_,F_,F_,F_] (by kernel_rfl) rfl rfl trivial (fun hHeld => ?_); refine with_tabW spec_TwinIn.tab11 spec_TwinIn.bits11 (fun HT_ HW_ => ?_)
            generalize w33.drew = w34 at HB hHeld ⊢
            refine p_ 0 65 (m_ 42 1) HT_.out ?_
            refine p_ 1 66 (m_ 42 3) HT_.out ?_
            refine p_ 2 67 (m_ 42 7) HT_.out ?_
            refine p_ 3 68 (m_ 42 15) HT_.out ?_
            refine u_ 4 69 (m_ 42 31) HT_.out ?_
            refine u_ 5 70 (m_ 42 63) HT_.out ?_
            refine u_ 6 71 (m_ 42 127) HT_.out ?_
            refine p_ 7 72 (m_ 42 255) HT_.out ?_
            refine p_ 8 73 (m_ 42 511) HT_.out ?_
            refine u_ 9 74 (m_ 42 1023) HT_.out ?_
            refine u_ 10 75 (m_ 42 2047) HT_.out ?_
            refine u_ 11 76 (m_ 42 4095) HT_.out ?_
            refine p_ 12 77 (m_ 42 8191) HT_.out ?_
            refine p_ 13 78 (m_ 42 16383) HT_.out ?_
            refine u_ 14 79 (m_ 42 32767) HT_.out ?_
            refine u_ 15 80 (m_ 42 65535) HT_.out ?_
            refine u_ 16 81 (m_ 42 131071) HT_.out ?_
            refine u_ 17 82 (m_ 42 262143) HT_.out ?_
            refine u_ 18 83 (m_ 42 524287) HT_.out ?_
            refine u_ 19 84 (m_ 42 1048575) HT_.out ?_
            refine u_ 20 85 (m_ 42 2097151) HT_.out ?_
            refine u_ 21 86 (m_ 42 4194303) HT_.out ?_
            refine u_ 22 87 (m_ 42 8388607) HT_.out ?_
            refine u_ 23 88 (m_ 42 16777215) HT_.out ?_
            refine u_ 24 89 (m_ 42 33554431) HT_.out ?_
            refine u_ 25 90 (m_ 42 67108863) HT_.out ?_
            refine p_ 26 91 (m_ 42 134217727) HT_.out ?_
            refine p_ 27 92 (m_ 42 268435455) HT_.out ?_
            refine u_ 28 93 (m_ 42 536870911) HT_.out ?_
            refine u_ 29 94 (m_ 42 1073741823) HT_.out ?_
            refine u_ 30 95 (m_ 42 2147483647) HT_.out ?_
            refine u_ 31 96 (m_ 42 4294967295) HT_.out ?_
            refine u_ 32 97 (m_ 42 8589934591) HT_.out ?_
            refine u_ 33 98 (m_ 42 17179869183) HT_.out ?_
            refine u_ 34 99 (m_ 42 34359738367) HT_.out ?_
            refine u_ 35 100 (m_ 42 68719476735) HT_.out ?_
            refine u_ 36 101 (m_ 42 137438953471) HT_.out ?_
            refine u_ 37 102 (m_ 42 274877906943) HT_.out ?_
            refine u_ 38 103 (m_ 42 549755813887) HT_.out ?_
            refine u_ 39 104 (m_ 42 1099511627775) HT_.out ?_
            refine p_ 40 105 (m_ 42 2199023255551) HT_.out ?_
            refine p_ 41 4 (m_ 42 4398046511103) HT_.out ?_
            refine done_ (done_of HT_.out (by kernel_rfl)) ?_
            try go_wp2
            go_ret
            exact ⟨ee_, bb_ HB⟩
           ·rw [if_neg c30] at H
            have c30b0 : (t285 == t288) = false := beq_eq_false_iff_ne.mpr c30
            have c30b1 : (t285 != t288) = true := bne_iff_ne.mpr c30
            by_cases c35 : t285 = t291
            ·rw [if_pos c35] at H
             have c35b0 : (t285 == t291) = true := beq_iff_eq.mpr c35
             have c35b1 : (t285 != t291) = false := bne_eq_false_iff_eq.mpr c35
             clear c35
             obtain rfl := Option.some.inj H
             try go_wp2
             have n0_ := Aside0.mk (below_drew1 HB.out)
             clear HB
             have HB := n0_
             clear n0_
             have p283 : 0 ≤ (0 : Int) := (by omega)
             have q283 : 0 < (l1.length : Int) := dd_
             obtain ⟨ad283, e283, hx283_0⟩ := Kd.at_int HR1.out 0 p283 q283
             have hw283_0 := hx283_0
             (try rw [show ((0 : Int)).toNat = 0 from rfl] at hw283_0)
             (try rw [show 0 * 1 = 0 from rfl] at hw283_0)
             (try rw [Addr.add_zero'] at hw283_0)
             cases e283
             have qi283 : (0 < l1.length) = True := eq_true (by omega)
             (try rw [show ((0 : Int)).toNat = 0 from rfl] at hx283_0)
             (try rw [Addr.add_zero'] at hx283_0)
             replace hx283_0 := hc_ HB hx283_0
             replace p283 := eq_true p283
             replace q283 := eq_true q283
             have p284 : 0 ≤ (1 : Int) := (by omega)
             have q284 : 1 < (l1.length : Int) := dd_
             obtain ⟨ad284, e284, hx284_0⟩ := Kd.at_int HR1.out 1 p284 q284
             have hw284_0 := hx284_0
             (try rw [show ((1 : Int)).toNat = 1 from rfl] at hw284_0)
             (try rw [show 1 * 1 = 1 from rfl] at hw284_0)
             (try simp only [Nat.reduceMul, Nat.reduceEqDiff, Go.Addr.add, ↓reduceIte] at hw284_0)
             obtain rfl : ad283 = ad284 := (by injection e284)
             (try simp only [show (1 : Int).toNat = 1 from rfl, Nat.reduceMul, Nat.reduceEqDiff, Go.Addr.add, ↓reduceIte] at hx284_0)
             have qi284 : (1 < l1.length) = True := eq_true (by omega)
             (try rw [show ((1 : Int)).toNat = 1 from rfl] at hx284_0)
             replace hx284_0 := hc_ HB hx284_0
             replace p284 := eq_true p284
             replace q284 := eq_true q284
             refine start_ (n := 9) (S := fun w' => w'.cell? ad283 = some (.int .i64 (rd l1 0)) ∧ w'.cell? ⟨ad283.block, ad283.off + 1, none⟩ = some (.int .i64 (rd l1 1))) (ds := []) #[F_,F_,F_,F_,F_,F_,F_,F_,F_] (by kernel_rfl) rfl rfl ⟨(hc_ HB hw283_0), (hc_ HB hw284_0)⟩ (fun hHeld => ?_); refine with_tabW spec_TwinIn.tab8 spec_TwinIn.bits8 (fun HT_ HW_ => ?_)
             generalize wr.drew = w36 at HB hx283_0 hx284_0 hHeld ⊢
             refine p_ 0 41 (m_ 9 1) HT_.out ?_
             refine p_ 1 42 (m_ 9 3) HT_.out ?_
             refine p_ 2 43 (m_ 9 7) HT_.out ?_
             refine p_ 4 45 (m_ 9 23) HT_.out ?_
             refine p_ 5 46 (m_ 9 55) HT_.out ?_
             refine t2_ 3 44 (m_ 9 63) HT_.out HW_.out hHeld ?_
             refine t2_ 6 47 (m_ 9 127) HT_.out HW_.out hHeld ?_
             refine one_ (i := 7) (N := some 48) (m_ 9 255) rfl rfl (one_of HT_.out (by kernel_rfl)) (by decide) (fun K hK => ?_)
             refine goes_ Try.func66 (by kernel_rfl) rfl #[.slice A0 l0.length c0, .int .i64 (rd l1 0), .int .i64 (rd l1 1)] (by rfl) rfl rfl ll_ ?_
             with_reducible refine (spec_l3Join.calls k2 _ _ l0 (rd l1 0) (rd l1 1) t285 _ ?side1 ?side2 A25.out).mono ?_
             (case side1 => exact sb_ HR0 HB)
             (case side2 => exact HC0.out)
             rintro e w' ⟨rfl, ⟨nd, rfl⟩⟩
             refine ⟨_, rfl, ?_⟩
             refine hK.out _ _ ⟨(hc_ HB hw283_0), (hc_ HB hw284_0)⟩ (fun hHeld => ?_)
             clear hK K
             refine norm_ (a' := ?_) ?_ ?_; rotate_left; (show Act.put _ (some 48) _ = _; simp only [Act.put, List.setIfInBounds_toArray, List.set_cons_zero, List.set_cons_succ, i64_w, i32_w]; rfl)
             refine p_ 8 6 (m_ 9 511) HT_.out ?_
             refine done_ (done_of HT_.out (by kernel_rfl)) ?_
             try go_wp2
             (try (rw [dself_ w36]; generalize hq_ : World.drewN w36 _ = w36; have n0_ : Aside0 (Below w.heap.size w w36) := ⟨by rw [← hq_]; exact (bb_ HB)⟩; clear HB hq_; have HB := n0_; clear n0_))
             have n0_ := Aside0.mk (below_drew1 HB.out)
             clear HB
             have HB := n0_
             clear n0_
             have p286 : 0 ≤ (0 : Int) := (by omega)
             have q286 : 0 < (l1.length : Int) := dd_
             obtain ⟨ad286, e286, hx286_0⟩ := Kd.at_int HR1.out 0 p286 q286
             have hw286_0 := hx286_0
             (try rw [show ((0 : Int)).toNat = 0 from rfl] at hw286_0)
             (try rw [show 0 * 1 = 0 from rfl] at hw286_0)
             (try rw [Addr.add_zero'] at hw286_0)
             obtain rfl : ad283 = ad286 := (by injection e286)
             have qi286 : (0 < l1.length) = True := eq_true (by omega)
             (try rw [show ((0 : Int)).toNat = 0 from rfl] at hx286_0)
             (try rw [Addr.add_zero'] at hx286_0)
             replace hx286_0 := hc_ HB hx286_0
             replace p286 := eq_true p286
             replace q286 := eq_true q286
             have p287 : 0 ≤ (2 : Int) := (by omega)
             have q287 : 2 < (l1.length : Int) := dd_
             obtain ⟨ad287, e287, hx287_0⟩ := Kd.at_int HR1.out 2 p287 q287
             have hw287_0 := hx287_0
             (try rw [show ((2 : Int)).toNat = 2 from rfl] at hw287_0)
             (try rw [show 2 * 1 = 2 from rfl] at hw287_0)
             (try simp only [Nat.reduceMul, Nat.reduceEqDiff, Go.Addr.add, ↓reduceIte] at hw287_0)
             obtain rfl : ad283 = ad287 := (by injection e287)
             (try simp only [show (2 : Int).toNat = 2 from rfl, Nat.reduceMul, Nat.reduceEqDiff, Go.Addr.add, ↓reduceIte] at hx287_0)
             have qi287 : (2 < l1.length) = True := eq_true (by omega)
             (try rw [show ((2 : Int)).toNat = 2 from rfl] at hx287_0)
             replace hx287_0 := hc_ HB hx287_0
             replace p287 := eq_true p287
             replace q287 := eq_true q287
             refine start_ (n := 9) (S := fun w' => w'.cell? ad283 = some (.int .i64 (rd l1 0)) ∧ w'.cell? ⟨ad283.block, ad283.off + 2, none⟩ = some (.int .i64 (rd l1 2))) (ds := []) #[F_,F_,F_,F_,F_,F_,F_,F_,F_] (by kernel_rfl) rfl rfl ⟨(hc_ HB hw286_0), (hc_ HB hw287_0)⟩ (fun hHeld => ?_); refine with_tabW spec_TwinIn.tab9 spec_TwinIn.bits9 (fun HT_ HW_ => ?_)
             generalize w36.drew = w37 at HB hx286_0 hx287_0 hHeld ⊢
             refine p_ 0 49 (m_ 9 1) HT_.out ?_
             refine p_ 1 50 (m_ 9 3) HT_.out ?_
             refine p_ 2 51 (m_ 9 7) HT_.out ?_
             refine p_ 4 53 (m_ 9 23) HT_.out ?_
             refine p_ 5 54 (m_ 9 55) HT_.out ?_
             refine t2_ 3 52 (m_ 9 63) HT_.out HW_.out hHeld ?_
             refine t2_ 6 55 (m_ 9 127) HT_.out HW_.out hHeld ?_
             refine one_ (i := 7) (N := some 56) (m_ 9 255) rfl rfl (one_of HT_.out (by kernel_rfl)) (by decide) (fun K hK => ?_)
             refine goes_ Try.func66 (by kernel_rfl) rfl #[.slice A0 l0.length c0, .int .i64 (rd l1 0), .int .i64 (rd l1 2)] (by rfl) rfl rfl ll_ ?_
             with_reducible refine (spec_l3Join.calls k2 _ _ l0 (rd l1 0) (rd l1 2) t288 _ ?side1 ?side2 A27.out).mono ?_
             (case side1 => exact sb_ HR0 HB)
             (case side2 => exact HC0.out)
             rintro e w' ⟨rfl, ⟨nd, rfl⟩⟩
             refine ⟨_, rfl, ?_⟩
             refine hK.out _ _ ⟨(hc_ HB hw286_0), (hc_ HB hw287_0)⟩ (fun hHeld => ?_)
             clear hK K
             refine norm_ (a' := ?_) ?_ ?_; rotate_left; (show Act.put _ (some 56) _ = _; simp only [Act.put, List.setIfInBounds_toArray, List.set_cons_zero, List.set_cons_succ, i64_w, i32_w]; rfl)
             refine p_ 8 7 (m_ 9 511) HT_.out ?_
             refine done_ (done_of HT_.out (by kernel_rfl)) ?_
             try go_wp2
             (try (rw [dself_ w37]; generalize hq_ : World.drewN w37 _ = w37; have n0_ : Aside0 (Below w.heap.size w w37) := ⟨by rw [← hq_]; exact (bb_ HB)⟩; clear HB hq_; have HB := n0_; clear n0_))
             have n0_ := Aside0.mk (below_drew1 HB.out)
             clear HB
             have HB := n0_
             clear n0_
             have p289 : 0 ≤ (0 : Int) := (by omega)
             have q289 : 0 < (l1.length : Int) := dd_
             obtain ⟨ad289, e289, hx289_0⟩ := Kd.at_int HR1.out 0 p289 q289
             have hw289_0 := hx289_0
             (try rw [show ((0 : Int)).toNat = 0 from rfl] at hw289_0)
             (try rw [show 0 * 1 = 0 from rfl] at hw289_0)
             (try rw [Addr.add_zero'] at hw289_0)
             obtain rfl : ad283 = ad289 := (by injection e289)
             have qi289 : (0 < l1.length) = True := eq_true (by omega)
             (try rw [show ((0 : Int)).toNat = 0 from rfl] at hx289_0)
             (try rw [Addr.add_zero'] at hx289_0)
             replace hx289_0 := hc_ HB hx289_0
             replace p289 := eq_true p289
             replace q289 := eq_true q289
             have p290 : 0 ≤ (3 : Int) := (by omega)
             have q290 : 3 < (l1.length : Int) := dd_
             obtain ⟨ad290, e290, hx290_0⟩ := Kd.at_int HR1.out 3 p290 q290
             have hw290_0 := hx290_0
             (try rw [show ((3 : Int)).toNat = 3 from rfl] at hw290_0)
             (try rw [show 3 * 1 = 3 from rfl] at hw290_0)
             (try simp only [Nat.reduceMul, Nat.reduceEqDiff, Go.Addr.add, ↓reduceIte] at hw290_0)
             obtain rfl : ad283 = ad290 := (by injection e290)
             (try simp only [show (3 : Int).toNat = 3 from rfl, Nat.reduceMul, Nat.reduceEqDiff, Go.Addr.add, ↓reduceIte] at hx290_0)
             have qi290 : (3 < l1.length) = True := eq_true (by omega)
             (try rw [show ((3 : Int)).toNat = 3 from rfl] at hx290_0)
             replace hx290_0 := hc_ HB hx290_0
             replace p290 := eq_true p290
             replace q290 := eq_true q290
             refine start_ (n := 9) (S := fun w' => w'.cell? ad283 = some (.int .i64 (rd l1 0)) ∧ w'.cell? ⟨ad283.block, ad283.off + 3, none⟩ = some (.int .i64 (rd l1 3))) (ds := []) #[F_,F_,F_,F_,F_,F_,F_,F_,F_] (by kernel_rfl) rfl rfl ⟨(hc_ HB hw289_0), (hc_ HB hw290_0)⟩ (fun hHeld => ?_); refine with_tabW spec_TwinIn.tab10 spec_TwinIn.bits10 (fun HT_ HW_ => ?_)
             generalize w37.drew = w38 at HB hx289_0 hx290_0 hHeld ⊢
             refine p_ 0 57 (m_ 9 1) HT_.out ?_
             refine p_ 1 58 (m_ 9 3) HT_.out ?_
             refine p_ 2 59 (m_ 9 7) HT_.out ?_
             refine p_ 4 61 (m_ 9 23) HT_.out ?_
             refine p_ 5 62 (m_ 9 55) HT_.out ?_
             refine t2_ 3 60 (m_ 9 63) HT_.out HW_.out hHeld ?_
             refine t2_ 6 63 (m_ 9 127) HT_.out HW_.out hHeld ?_
             refine one_ (i := 7) (N := some 64) (m_ 9 255) rfl rfl (one_of HT_.out (by kernel_rfl)) (by decide) (fun K hK => ?_)
             refine goes_ Try.func66 (by kernel_rfl) rfl #[.slice A0 l0.length c0, .int .i64 (rd l1 0), .int .i64 (rd l1 3)] (by rfl) rfl rfl ll_ ?_
             with_reducible refine (spec_l3Join.calls k2 _ _ l0 (rd l1 0) (rd l1 3) t291 _ ?side1 ?side2 A29.out).mono ?_
             (case side1 => exact sb_ HR0 HB)
             (case side2 => exact HC0.out)
             rintro e w' ⟨rfl, ⟨nd, rfl⟩⟩
             refine ⟨_, rfl, ?_⟩
             refine hK.out _ _ ⟨(hc_ HB hw289_0), (hc_ HB hw290_0)⟩ (fun hHeld => ?_)
             clear hK K
             refine norm_ (a' := ?_) ?_ ?_; rotate_left; (show Act.put _ (some 64) _ = _; simp only [Act.put, List.setIfInBounds_toArray, List.set_cons_zero, List.set_cons_succ, i64_w, i32_w]; rfl)
             refine p_ 8 8 (m_ 9 511) HT_.out ?_
             refine done_ (done_of HT_.out (by kernel_rfl)) ?_
             try go_wp2
             (try (rw [dself_ w38]; generalize hq_ : World.drewN w38 _ = w38; have n0_ : Aside0 (Below w.heap.size w w38) := ⟨by rw [← hq_]; exact (bb_ HB)⟩; clear HB hq_; have HB := n0_; clear n0_))
             have n0_ := Aside0.mk (below_drew1 HB.out)
             clear HB
             have HB := n0_
             clear n0_
             refine start_ (n := 42) (S := fun w' => True) (ds := []) #[F_,F_,F_,F_,F_,F_,F_,F_,F_,F_,F_,F_,F_,F_,F_,F_,F_,F_,F_,F_,F_,F_,F_,F_,F_,F_,F_,F_,F_,F_,F_,F_,F_,F_,F_,F_,F_,F_,F_,F_,F_,F_] (by kernel_rfl) rfl rfl trivial (fun hHeld => ?_); refine with_tabW spec_TwinIn.tab11 spec_TwinIn.bits11 (fun HT_ HW_ => ?_)
             generalize w38.drew = w39 at HB hHeld ⊢
             refine p_ 0 65 (m_ 42 1) HT_.out ?_
             refine p_ 1 66 (m_ 42 3) HT_.out ?_
             refine p_ 2 67 (m_ 42 7) HT_.out ?_
             refine p_ 3 68 (m_ 42 15) HT_.out ?_
             refine p_ 4 69 (m_ 42 31) HT_.out ?_
             refine p_ 5 70 (m_ 42 63) HT_.out ?_
             refine p_ 6 71 (m_ 42 127) HT_.out ?_
             refine p_ 7 72 (m_ 42 255) HT_.out ?_
             refine p_ 8 73 (m_ 42 511) HT_.out ?_
             refine u_ 9 74 (m_ 42 1023) HT_.out ?_
             refine u_ 10 75 (m_ 42 2047) HT_.out ?_
             refine u_ 11 76 (m_ 42 4095) HT_.out ?_
             refine p_ 12 77 (m_ 42 8191) HT_.out ?_
             refine p_ 13 78 (m_ 42 16383) HT_.out ?_
             refine u_ 14 79 (m_ 42 32767) HT_.out ?_
             refine u_ 15 80 (m_ 42 65535) HT_.out ?_
             refine u_ 16 81 (m_ 42 131071) HT_.out ?_
             refine u_ 17 82 (m_ 42 262143) HT_.out ?_
             refine u_ 18 83 (m_ 42 524287) HT_.out ?_
             refine u_ 19 84 (m_ 42 1048575) HT_.out ?_
             refine u_ 20 85 (m_ 42 2097151) HT_.out ?_
             refine u_ 21 86 (m_ 42 4194303) HT_.out ?_
             refine u_ 22 87 (m_ 42 8388607) HT_.out ?_
             refine u_ 23 88 (m_ 42 16777215) HT_.out ?_
             refine u_ 24 89 (m_ 42 33554431) HT_.out ?_
             refine u_ 25 90 (m_ 42 67108863) HT_.out ?_
             refine p_ 26 91 (m_ 42 134217727) HT_.out ?_
             refine p_ 27 92 (m_ 42 268435455) HT_.out ?_
             refine u_ 28 93 (m_ 42 536870911) HT_.out ?_
             refine u_ 29 94 (m_ 42 1073741823) HT_.out ?_
             refine u_ 30 95 (m_ 42 2147483647) HT_.out ?_
             refine u_ 31 96 (m_ 42 4294967295) HT_.out ?_
             refine u_ 32 97 (m_ 42 8589934591) HT_.out ?_
             refine u_ 33 98 (m_ 42 17179869183) HT_.out ?_
             refine u_ 34 99 (m_ 42 34359738367) HT_.out ?_
             refine u_ 35 100 (m_ 42 68719476735) HT_.out ?_
             refine u_ 36 101 (m_ 42 137438953471) HT_.out ?_
             refine u_ 37 102 (m_ 42 274877906943) HT_.out ?_
             refine u_ 38 103 (m_ 42 549755813887) HT_.out ?_
             refine u_ 39 104 (m_ 42 1099511627775) HT_.out ?_
             refine p_ 40 105 (m_ 42 2199023255551) HT_.out ?_
             refine p_ 41 4 (m_ 42 4398046511103) HT_.out ?_
             refine done_ (done_of HT_.out (by kernel_rfl)) ?_
             try go_wp2
             go_ret
             exact ⟨ee_, bb_ HB⟩
            ·rw [if_neg c35] at H
             have c35b0 : (t285 == t291) = false := beq_eq_false_iff_ne.mpr c35
             have c35b1 : (t285 != t291) = true := bne_iff_ne.mpr c35
             by_cases c40 : t288 = t291
             ·rw [if_pos c40] at H
              have c40b0 : (t288 == t291) = true := beq_iff_eq.mpr c40
              have c40b1 : (t288 != t291) = false := bne_eq_false_iff_eq.mpr c40
              clear c40
              obtain rfl := Option.some.inj H
              try go_wp2
              have n0_ := Aside0.mk (below_drew1 HB.out)
              clear HB
              have HB := n0_
              clear n0_
              have p283 : 0 ≤ (0 : Int) := (by omega)
              have q283 : 0 < (l1.length : Int) := dd_
              obtain ⟨ad283, e283, hx283_0⟩ := Kd.at_int HR1.out 0 p283 q283
              have hw283_0 := hx283_0
              (try rw [show ((0 : Int)).toNat = 0 from rfl] at hw283_0)
              (try rw [show 0 * 1 = 0 from rfl] at hw283_0)
              (try rw [Addr.add_zero'] at hw283_0)
              cases e283
              have qi283 : (0 < l1.length) = True := eq_true (by omega)
              (try rw [show ((0 : Int)).toNat = 0 from rfl] at hx283_0)
              (try rw [Addr.add_zero'] at hx283_0)
              replace hx283_0 := hc_ HB hx283_0
              replace p283 := eq_true p283
              replace q283 := eq_true q283
              have p284 : 0 ≤ (1 : Int) := (by omega)
              have q284 : 1 < (l1.length : Int) := dd_
              obtain ⟨ad284, e284, hx284_0⟩ := Kd.at_int HR1.out 1 p284 q284
              have hw284_0 := hx284_0
              (try rw [show ((1 : Int)).toNat = 1 from rfl] at hw284_0)
              (try rw [show 1 * 1 = 1 from rfl] at hw284_0)
              (try simp only [Nat.reduceMul, Nat.reduceEqDiff, Go.Addr.add, ↓reduceIte] at hw284_0)
              obtain rfl : ad283 = ad284 := (by injection e284)
              (try simp only [show (1 : Int).toNat = 1 from rfl, Nat.reduceMul, Nat.reduceEqDiff, Go.Addr.add, ↓reduceIte] at hx284_0)
              have qi284 : (1 < l1.length) = True := eq_true (by omega)
              (try rw [show ((1 : Int)).toNat = 1 from rfl] at hx284_0)
              replace hx284_0 := hc_ HB hx284_0
              replace p284 := eq_true p284
              replace q284 := eq_true q284
              refine start_ (n := 9) (S := fun w' => w'.cell? ad283 = some (.int .i64 (rd l1 0)) ∧ w'.cell? ⟨ad283.block, ad283.off + 1, none⟩ = some (.int .i64 (rd l1 1))) (ds := []) #[F_,F_,F_,F_,F_,F_,F_,F_,F_] (by kernel_rfl) rfl rfl ⟨(hc_ HB hw283_0), (hc_ HB hw284_0)⟩ (fun hHeld => ?_); refine with_tabW spec_TwinIn.tab8 spec_TwinIn.bits8 (fun HT_ HW_ => ?_)
              generalize wr.drew = w41 at HB hx283_0 hx284_0 hHeld ⊢
              refine p_ 0 41 (m_ 9 1) HT_.out ?_
              refine p_ 1 42 (m_ 9 3) HT_.out ?_
              refine p_ 2 43 (m_ 9 7) HT_.out ?_
              refine p_ 4 45 (m_ 9 23) HT_.out ?_
              refine p_ 5 46 (m_ 9 55) HT_.out ?_
              refine t2_ 3 44 (m_ 9 63) HT_.out HW_.out hHeld ?_
              refine t2_ 6 47 (m_ 9 127) HT_.out HW_.out hHeld ?_
              refine one_ (i := 7) (N := some 48) (m_ 9 255) rfl rfl (one_of HT_.out (by kernel_rfl)) (by decide) (fun K hK => ?_)
              refine goes_ Try.func66 (by kernel_rfl) rfl #[.slice A0 l0.length c0, .int .i64 (rd l1 0), .int .i64 (rd l1 1)] (by rfl) rfl rfl ll_ ?_
              with_reducible refine (spec_l3Join.calls k2 _ _ l0 (rd l1 0) (rd l1 1) t285 _ ?side1 ?side2 A25.out).mono ?_
              (case side1 => exact sb_ HR0 HB)
              (case side2 => exact HC0.out)
              rintro e w' ⟨rfl, ⟨nd, rfl⟩⟩
              refine ⟨_, rfl, ?_⟩
              refine hK.out _ _ ⟨(hc_ HB hw283_0), (hc_ HB hw284_0)⟩ (fun hHeld => ?_)
              clear hK K
              refine norm_ (a' := ?_) ?_ ?_; rotate_left; (show Act.put _ (some 48) _ = _; simp only [Act.put, List.setIfInBounds_toArray, List.set_cons_zero, List.set_cons_succ, i64_w, i32_w]; rfl)
              refine p_ 8 6 (m_ 9 511) HT_.out ?_
              refine done_ (done_of HT_.out (by kernel_rfl)) ?_
              try go_wp2
              (try (rw [dself_ w41]; generalize hq_ : World.drewN w41 _ = w41; have n0_ : Aside0 (Below w.heap.size w w41) := ⟨by rw [← hq_]; exact (bb_ HB)⟩; clear HB hq_; have HB := n0_; clear n0_))
              have n0_ := Aside0.mk (below_drew1 HB.out)
              clear HB
              have HB := n0_
              clear n0_
              have p286 : 0 ≤ (0 : Int) := (by omega)
              have q286 : 0 < (l1.length : Int) := dd_
              obtain ⟨ad286, e286, hx286_0⟩ := Kd.at_int HR1.out 0 p286 q286
              have hw286_0 := hx286_0
              (try rw [show ((0 : Int)).toNat = 0 from rfl] at hw286_0)
              (try rw [show 0 * 1 = 0 from rfl] at hw286_0)
              (try rw [Addr.add_zero'] at hw286_0)
              obtain rfl : ad283 = ad286 := (by injection e286)
              have qi286 : (0 < l1.length) = True := eq_true (by omega)
              (try rw [show ((0 : Int)).toNat = 0 from rfl] at hx286_0)
              (try rw [Addr.add_zero'] at hx286_0)
              replace hx286_0 := hc_ HB hx286_0
              replace p286 := eq_true p286
              replace q286 := eq_true q286
              have p287 : 0 ≤ (2 : Int) := (by omega)
              have q287 : 2 < (l1.length : Int) := dd_
              obtain ⟨ad287, e287, hx287_0⟩ := Kd.at_int HR1.out 2 p287 q287
              have hw287_0 := hx287_0
              (try rw [show ((2 : Int)).toNat = 2 from rfl] at hw287_0)
              (try rw [show 2 * 1 = 2 from rfl] at hw287_0)
              (try simp only [Nat.reduceMul, Nat.reduceEqDiff, Go.Addr.add, ↓reduceIte] at hw287_0)
              obtain rfl : ad283 = ad287 := (by injection e287)
              (try simp only [show (2 : Int).toNat = 2 from rfl, Nat.reduceMul, Nat.reduceEqDiff, Go.Addr.add, ↓reduceIte] at hx287_0)
              have qi287 : (2 < l1.length) = True := eq_true (by omega)
              (try rw [show ((2 : Int)).toNat = 2 from rfl] at hx287_0)
              replace hx287_0 := hc_ HB hx287_0
              replace p287 := eq_true p287
              replace q287 := eq_true q287
              refine start_ (n := 9) (S := fun w' => w'.cell? ad283 = some (.int .i64 (rd l1 0)) ∧ w'.cell? ⟨ad283.block, ad283.off + 2, none⟩ = some (.int .i64 (rd l1 2))) (ds := []) #[F_,F_,F_,F_,F_,F_,F_,F_,F_] (by kernel_rfl) rfl rfl ⟨(hc_ HB hw286_0), (hc_ HB hw287_0)⟩ (fun hHeld => ?_); refine with_tabW spec_TwinIn.tab9 spec_TwinIn.bits9 (fun HT_ HW_ => ?_)
              generalize w41.drew = w42 at HB hx286_0 hx287_0 hHeld ⊢
              refine p_ 0 49 (m_ 9 1) HT_.out ?_
              refine p_ 1 50 (m_ 9 3) HT_.out ?_
              refine p_ 2 51 (m_ 9 7) HT_.out ?_
              refine p_ 4 53 (m_ 9 23) HT_.out ?_
              refine p_ 5 54 (m_ 9 55) HT_.out ?_
              refine t2_ 3 52 (m_ 9 63) HT_.out HW_.out hHeld ?_
              refine t2_ 6 55 (m_ 9 127) HT_.out HW_.out hHeld ?_
              refine one_ (i := 7) (N := some 56) (m_ 9 255) rfl rfl (one_of HT_.out (by kernel_rfl)) (by decide) (fun K hK => ?_)
              refine goes_ Try.func66 (by kernel_rfl) rfl #[.slice A0 l0.length c0, .int .i64 (rd l1 0), .int .i64 (rd l1 2)] (by rfl) rfl rfl ll_ ?_
              with_reducible refine (spec_l3Join.calls k2 _ _ l0 (rd l1 0) (rd l1 2) t288 _ ?side1 ?side2 A27.out).mono ?_
              (case side1 => exact sb_ HR0 HB)
              (case side2 => exact HC0.out)
              rintro e w' ⟨rfl, ⟨nd, rfl⟩⟩
              refine ⟨_, rfl, ?_⟩
              refine hK.out _ _ ⟨(hc_ HB hw286_0), (hc_ HB hw287_0)⟩ (fun hHeld => ?_)
              clear hK K
              refine norm_ (a' := ?_) ?_ ?_; rotate_left; (show Act.put _ (some 56) _ = _; simp only [Act.put, List.setIfInBounds_toArray, List.set_cons_zero, List.set_cons_succ, i64_w, i32_w]; rfl)
              refine p_ 8 7 (m_ 9 511) HT_.out ?_
              refine done_ (done_of HT_.out (by kernel_rfl)) ?_
              try go_wp2
              (try (rw [dself_ w42]; generalize hq_ : World.drewN w42 _ = w42; have n0_ : Aside0 (Below w.heap.size w w42) := ⟨by rw [← hq_]; exact (bb_ HB)⟩; clear HB hq_; have HB := n0_; clear n0_))
              have n0_ := Aside0.mk (below_drew1 HB.out)
              clear HB
              have HB := n0_
              clear n0_
              have p289 : 0 ≤ (0 : Int) := (by omega)
              have q289 : 0 < (l1.length : Int) := dd_
              obtain ⟨ad289, e289, hx289_0⟩ := Kd.at_int HR1.out 0 p289 q289
              have hw289_0 := hx289_0
              (try rw [show ((0 : Int)).toNat = 0 from rfl] at hw289_0)
              (try rw [show 0 * 1 = 0 from rfl] at hw289_0)
              (try rw [Addr.add_zero'] at hw289_0)
              obtain rfl : ad283 = ad289 := (by injection e289)
              have qi289 : (0 < l1.length) = True := eq_true (by omega)
              (try rw [show ((0 : Int)).toNat = 0 from rfl] at hx289_0)
              (try rw [Addr.add_zero'] at hx289_0)
              replace hx289_0 := hc_ HB hx289_0
              replace p289 := eq_true p289
              replace q289 := eq_true q289
              have p290 : 0 ≤ (3 : Int) := (by omega)
              have q290 : 3 < (l1.length : Int) := dd_
              obtain ⟨ad290, e290, hx290_0⟩ := Kd.at_int HR1.out 3 p290 q290
              have hw290_0 := hx290_0
              (try rw [show ((3 : Int)).toNat = 3 from rfl] at hw290_0)
              (try rw [show 3 * 1 = 3 from rfl] at hw290_0)
              (try simp only [Nat.reduceMul, Nat.reduceEqDiff, Go.Addr.add, ↓reduceIte] at hw290_0)
              obtain rfl : ad283 = ad290 := (by injection e290)
              (try simp only [show (3 : Int).toNat = 3 from rfl, Nat.reduceMul, Nat.reduceEqDiff, Go.Addr.add, ↓reduceIte] at hx290_0)
              have qi290 : (3 < l1.length) = True := eq_true (by omega)
              (try rw [show ((3 : Int)).toNat = 3 from rfl] at hx290_0)
              replace hx290_0 := hc_ HB hx290_0
              replace p290 := eq_true p290
              replace q290 := eq_true q290
              refine start_ (n := 9) (S := fun w' => w'.cell? ad283 = some (.int .i64 (rd l1 0)) ∧ w'.cell? ⟨ad283.block, ad283.off + 3, none⟩ = some (.int .i64 (rd l1 3))) (ds := []) #[F_,F_,F_,F_,F_,F_,F_,F_,F_] (by kernel_rfl) rfl rfl ⟨(hc_ HB hw289_0), (hc_ HB hw290_0)⟩ (fun hHeld => ?_); refine with_tabW spec_TwinIn.tab10 spec_TwinIn.bits10 (fun HT_ HW_ => ?_)
              generalize w42.drew = w43 at HB hx289_0 hx290_0 hHeld ⊢
              refine p_ 0 57 (m_ 9 1) HT_.out ?_
              refine p_ 1 58 (m_ 9 3) HT_.out ?_
              refine p_ 2 59 (m_ 9 7) HT_.out ?_
              refine p_ 4 61 (m_ 9 23) HT_.out ?_
              refine p_ 5 62 (m_ 9 55) HT_.out ?_
              refine t2_ 3 60 (m_ 9 63) HT_.out HW_.out hHeld ?_
              refine t2_ 6 63 (m_ 9 127) HT_.out HW_.out hHeld ?_
              refine one_ (i := 7) (N := some 64) (m_ 9 255) rfl rfl (one_of HT_.out (by kernel_rfl)) (by decide) (fun K hK => ?_)
              refine goes_ Try.func66 (by kernel_rfl) rfl #[.slice A0 l0.length c0, .int .i64 (rd l1 0), .int .i64 (rd l1 3)] (by rfl) rfl rfl ll_ ?_
              with_reducible refine (spec_l3Join.calls k2 _ _ l0 (rd l1 0) (rd l1 3) t291 _ ?side1 ?side2 A29.out).mono ?_
              (case side1 => exact sb_ HR0 HB)
              (case side2 => exact HC0.out)
              rintro e w' ⟨rfl, ⟨nd, rfl⟩⟩
              refine ⟨_, rfl, ?_⟩
              refine hK.out _ _ ⟨(hc_ HB hw289_0), (hc_ HB hw290_0)⟩ (fun hHeld => ?_)
              clear hK K
              refine norm_ (a' := ?_) ?_ ?_; rotate_left; (show Act.put _ (some 64) _ = _; simp only [Act.put, List.setIfInBounds_toArray, List.set_cons_zero, List.set_cons_succ, i64_w, i32_w]; rfl)
              refine p_ 8 8 (m_ 9 511) HT_.out ?_
              refine done_ (done_of HT_.out (by kernel_rfl)) ?_
              try go_wp2
              (try (rw [dself_ w43]; generalize hq_ : World.drewN w43 _ = w43; have n0_ : Aside0 (Below w.heap.size w w43) := ⟨by rw [← hq_]; exact (bb_ HB)⟩; clear HB hq_; have HB := n0_; clear n0_))
              have n0_ := Aside0.mk (below_drew1 HB.out)
              clear HB
              have HB := n0_
              clear n0_
              refine start_ (n := 42) (S := fun w' => True) (ds := []) #[F_,F_,F_,F_,F_,F_,F_,F_,F_,F_,F_,F_,F_,F_,F_,F_,F_,F_,F_,F_,F_,F_,F_,F_,F_,F_,F_,F_,F_,F_,F_,F_,F_,F_,F_,F_,F_,F_,F_,F_,F_,F_] (by kernel_rfl) rfl rfl trivial (fun hHeld => ?_); refine with_tabW spec_TwinIn.tab11 spec_TwinIn.bits11 (fun HT_ HW_ => ?_)
              generalize w43.drew = w44 at HB hHeld ⊢
              refine p_ 0 65 (m_ 42 1) HT_.out ?_
              refine p_ 1 66 (m_ 42 3) HT_.out ?_
              refine p_ 2 67 (m_ 42 7) HT_.out ?_
              refine p_ 3 68 (m_ 42 15) HT_.out ?_
              refine p_ 4 69 (m_ 42 31) HT_.out ?_
              refine p_ 5 70 (m_ 42 63) HT_.out ?_
              refine p_ 6 71 (m_ 42 127) HT_.out ?_
              refine p_ 7 72 (m_ 42 255) HT_.out ?_
              refine p_ 8 73 (m_ 42 511) HT_.out ?_
              refine p_ 9 74 (m_ 42 1023) HT_.out ?_
              refine p_ 10 75 (m_ 42 2047) HT_.out ?_
              refine p_ 11 76 (m_ 42 4095) HT_.out ?_
              refine p_ 12 77 (m_ 42 8191) HT_.out ?_
              refine p_ 13 78 (m_ 42 16383) HT_.out ?_
              refine u_ 14 79 (m_ 42 32767) HT_.out ?_
              refine u_ 15 80 (m_ 42 65535) HT_.out ?_
              refine u_ 16 81 (m_ 42 131071) HT_.out ?_
              refine u_ 17 82 (m_ 42 262143) HT_.out ?_
              refine u_ 18 83 (m_ 42 524287) HT_.out ?_
              refine u_ 19 84 (m_ 42 1048575) HT_.out ?_
              refine u_ 20 85 (m_ 42 2097151) HT_.out ?_
              refine u_ 21 86 (m_ 42 4194303) HT_.out ?_
              refine u_ 22 87 (m_ 42 8388607) HT_.out ?_
              refine u_ 23 88 (m_ 42 16777215) HT_.out ?_
              refine u_ 24 89 (m_ 42 33554431) HT_.out ?_
              refine u_ 25 90 (m_ 42 67108863) HT_.out ?_
              refine p_ 26 91 (m_ 42 134217727) HT_.out ?_
              refine p_ 27 92 (m_ 42 268435455) HT_.out ?_
              refine u_ 28 93 (m_ 42 536870911) HT_.out ?_
              refine u_ 29 94 (m_ 42 1073741823) HT_.out ?_
              refine u_ 30 95 (m_ 42 2147483647) HT_.out ?_
              refine u_ 31 96 (m_ 42 4294967295) HT_.out ?_
              refine u_ 32 97 (m_ 42 8589934591) HT_.out ?_
              refine u_ 33 98 (m_ 42 17179869183) HT_.out ?_
              refine u_ 34 99 (m_ 42 34359738367) HT_.out ?_
              refine u_ 35 100 (m_ 42 68719476735) HT_.out ?_
              refine u_ 36 101 (m_ 42 137438953471) HT_.out ?_
              refine u_ 37 102 (m_ 42 274877906943) HT_.out ?_
              refine u_ 38 103 (m_ 42 549755813887) HT_.out ?_
              refine u_ 39 104 (m_ 42 1099511627775) HT_.out ?_
              refine p_ 40 105 (m_ 42 2199023255551) HT_.out ?_
              refine p_ 41 4 (m_ 42 4398046511103) HT_.out ?_
              refine done_ (done_of HT_.out (by kernel_rfl)) ?_
              try go_wp2
              go_ret
              exact ⟨ee_, bb_ HB⟩
             ·rw [if_neg c40] at H
              have c40b0 : (t288 == t291) = false := beq_eq_false_iff_ne.mpr c40
              have c40b1 : (t288 != t291) = true := bne_iff_ne.mpr c40
              replace H := Option.bind_eq_some_iff.mp H
              obtain ⟨t295, A450, H⟩ := H
              replace H : (if t295 = true then (some false) else (if 4 < (l1.length : Int) then (if 5 < (l1.length : Int) then (if 6 < (l1.length : Int) then ((spec_l3Three.f k2 l0 (rd l1 4) (rd l1 5) (rd l1 6)).bind fun t299 => (some (!t299))) else (none)) else (none)) else (none))) = some r := H
              have A45 := Aside0.mk A450
              clear A450
              by_cases c46 : t295 = true
              ·subst c46
               have H1 : (some false) = some r := by rw [if_pos rfl] at H; exact H
               clear H
               have H := H1
               clear H1
               obtain rfl := Option.some.inj H
               try go_wp2
               have n0_ := Aside0.mk (below_drew1 HB.out)
               clear HB
               have HB := n0_
               clear n0_
               have p283 : 0 ≤ (0 : Int) := (by omega)
               have q283 : 0 < (l1.length : Int) := dd_
               obtain ⟨ad283, e283, hx283_0⟩ := Kd.at_int HR1.out 0 p283 q283
               have hw283_0 := hx283_0
               (try rw [show ((0 : Int)).toNat = 0 from rfl] at hw283_0)
               (try rw [show 0 * 1 = 0 from rfl] at hw283_0)
               (try rw [Addr.add_zero'] at hw283_0)
               cases e283
               have qi283 : (0 < l1.length) = True := eq_true (by omega)
               (try rw [show ((0 : Int)).toNat = 0 from rfl] at hx283_0)
               (try rw [Addr.add_zero'] at hx283_0)
               replace hx283_0 := hc_ HB hx283_0
               replace p283 := eq_true p283
               replace q283 := eq_true q283
               have p284 : 0 ≤ (1 : Int) := (by omega)
               have q284 : 1 < (l1.length : Int) := dd_
               obtain ⟨ad284, e284, hx284_0⟩ := Kd.at_int HR1.out 1 p284 q284
               have hw284_0 := hx284_0
               (try rw [show ((1 : Int)).toNat = 1 from rfl] at hw284_0)
               (try rw [show 1 * 1 = 1 from rfl] at hw284_0)
               (try simp only [Nat.reduceMul, Nat.reduceEqDiff, Go.Addr.add, ↓reduceIte] at hw284_0)
               obtain rfl : ad283 = ad284 := (by injection e284)
               (try simp only [show (1 : Int).toNat = 1 from rfl, Nat.reduceMul, Nat.reduceEqDiff, Go.Addr.add, ↓reduceIte] at hx284_0)
               have qi284 : (1 < l1.length) = True := eq_true (by omega)
               (try rw [show ((1 : Int)).toNat = 1 from rfl] at hx284_0)
               replace hx284_0 := hc_ HB hx284_0
               replace p284 := eq_true p284
               replace q284 := eq_true q284
               refine start_ (n := 9) (S := fun w' => w'.cell? ad283 = some (.int .i64 (rd l1 0)) ∧ w'.cell? ⟨ad283.block, ad283.off + 1, none⟩ = some (.int .i64 (rd l1 1))) (ds := []) #[F_,F_,F_,F_,F_,F_,F_,F_,F_] (by kernel_rfl) rfl rfl ⟨(hc_ HB hw283_0), (hc_ HB hw284_0)⟩ (fun hHeld => ?_); refine with_tabW spec_TwinIn.tab8 spec_TwinIn.bits8 (fun HT_ HW_ => ?_)
               generalize wr.drew = w47 at HB hx283_0 hx284_0 hHeld ⊢
               refine p_ 0 41 (m_ 9 1) HT_.out ?_
               refine p_ 1 42 (m_ 9 3) HT_.out ?_
               refine p_ 2 43 (m_ 9 7) HT_.out ?_
               refine p_ 4 45 (m_ 9 23) HT_.out ?_
               refine p_ 5 46 (m_ 9 55) HT_.out ?_
               refine t2_ 3 44 (m_ 9 63) HT_.out HW_.out hHeld ?_
               refine t2_ 6 47 (m_ 9 127) HT_.out HW_.out hHeld ?_
               refine one_ (i := 7) (N := some 48) (m_ 9 255) rfl rfl (one_of HT_.out (by kernel_rfl)) (by decide) (fun K hK => ?_)
               refine goes_ Try.func66 (by kernel_rfl) rfl #[.slice A0 l0.length c0, .int .i64 (rd l1 0), .int .i64 (rd l1 1)] (by rfl) rfl rfl ll_ ?_
               with_reducible refine (spec_l3Join.calls k2 _ _ l0 (rd l1 0) (rd l1 1) t285 _ ?side1 ?side2 A25.out).mono ?_
               (case side1 => exact sb_ HR0 HB)
               (case side2 => exact HC0.out)
               rintro e w' ⟨rfl, ⟨nd, rfl⟩⟩
               refine ⟨_, rfl, ?_⟩
               refine hK.out _ _ ⟨(hc_ HB hw283_0), (hc_ HB hw284_0)⟩ (fun hHeld => ?_)
               clear hK K
               refine norm_ (a' := ?_) ?_ ?_; rotate_left; (show Act.put _ (some 48) _ = _; simp only [Act.put, List.setIfInBounds_toArray, List.set_cons_zero, List.set_cons_succ, i64_w, i32_w]; rfl)
               refine p_ 8 6 (m_ 9 511) HT_.out ?_
               refine done_ (done_of HT_.out (by kernel_rfl)) ?_
               try go_wp2
               (try (rw [dself_ w47]; generalize hq_ : World.drewN w47 _ = w47; have n0_ : Aside0 (Below w.heap.size w w47) := ⟨by rw [← hq_]; exact (bb_ HB)⟩; clear HB hq_; have HB := n0_; clear n0_))
               have n0_ := Aside0.mk (below_drew1 HB.out)
               clear HB
               have HB := n0_
               clear n0_
               have p286 : 0 ≤ (0 : Int) := (by omega)
               have q286 : 0 < (l1.length : Int) := dd_
               obtain ⟨ad286, e286, hx286_0⟩ := Kd.at_int HR1.out 0 p286 q286
               have hw286_0 := hx286_0
               (try rw [show ((0 : Int)).toNat = 0 from rfl] at hw286_0)
               (try rw [show 0 * 1 = 0 from rfl] at hw286_0)
               (try rw [Addr.add_zero'] at hw286_0)
               obtain rfl : ad283 = ad286 := (by injection e286)
               have qi286 : (0 < l1.length) = True := eq_true (by omega)
               (try rw [show ((0 : Int)).toNat = 0 from rfl] at hx286_0)
               (try rw [Addr.add_zero'] at hx286_0)
               replace hx286_0 := hc_ HB hx286_0
               replace p286 := eq_true p286
               replace q286 := eq_true q286
               have p287 : 0 ≤ (2 : Int) := (by omega)
               have q287 : 2 < (l1.length : Int) := dd_
               obtain ⟨ad287, e287, hx287_0⟩ := Kd.at_int HR1.out 2 p287 q287
               have hw287_0 := hx287_0
               (try rw [show ((2 : Int)).toNat = 2 from rfl] at hw287_0)
               (try rw [show 2 * 1 = 2 from rfl] at hw287_0)
               (try simp only [Nat.reduceMul, Nat.reduceEqDiff, Go.Addr.add, ↓reduceIte] at hw287_0)
               obtain rfl : ad283 = ad287 := (by injection e287)
               (try simp only [show (2 : Int).toNat = 2 from rfl, Nat.reduceMul, Nat.reduceEqDiff, Go.Addr.add, ↓reduceIte] at hx287_0)
               have qi287 : (2 < l1.length) = True := eq_true (by omega)
               (try rw [show ((2 : Int)).toNat = 2 from rfl] at hx287_0)
               replace hx287_0 := hc_ HB hx287_0
               replace p287 := eq_true p287
               replace q287 := eq_true q287
               refine start_ (n := 9) (S := fun w' => w'.cell? ad283 = some (.int .i64 (rd l1 0)) ∧ w'.cell? ⟨ad283.block, ad283.off + 2, none⟩ = some (.int .i64 (rd l1 2))) (ds := []) #[F_,F_,F_,F_,F_,F_,F_,F_,F_] (by kernel_rfl) rfl rfl ⟨(hc_ HB hw286_0), (hc_ HB hw287_0)⟩ (fun hHeld => ?_); refine with_tabW spec_TwinIn.tab9 spec_TwinIn.bits9 (fun HT_ HW_ => ?_)
               generalize w47.drew = w48 at HB hx286_0 hx287_0 hHeld ⊢
               refine p_ 0 49 (m_ 9 1) HT_.out ?_
               refine p_ 1 50 (m_ 9 3) HT_.out ?_
               refine p_ 2 51 (m_ 9 7) HT_.out ?_
               refine p_ 4 53 (m_ 9 23) HT_.out ?_
               refine p_ 5 54 (m_ 9 55) HT_.out ?_
               refine t2_ 3 52 (m_ 9 63) HT_.out HW_.out hHeld ?_
               refine t2_ 6 55 (m_ 9 127) HT_.out HW_.out hHeld ?_
               refine one_ (i := 7) (N := some 56) (m_ 9 255) rfl rfl (one_of HT_.out (by kernel_rfl)) (by decide) (fun K hK => ?_)
               refine goes_ Try.func66 (by kernel_rfl) rfl #[.slice A0 l0.length c0, .int .i64 (rd l1 0), .int .i64 (rd l1 2)] (by rfl) rfl rfl ll_ ?_
               with_reducible refine (spec_l3Join.calls k2 _ _ l0 (rd l1 0) (rd l1 2) t288 _ ?side1 ?side2 A27.out).mono ?_
               (case side1 => exact sb_ HR0 HB)
               (case side2 => exact HC0.out)
               rintro e w' ⟨rfl, ⟨nd, rfl⟩⟩
               refine ⟨_, rfl, ?_⟩
               refine hK.out _ _ ⟨(hc_ HB hw286_0), (hc_ HB hw287_0)⟩ (fun hHeld => ?_)
               clear hK K
               refine norm_ (a' := ?_) ?_ ?_; rotate_left; (show Act.put _ (some 56) _ = _; simp only [Act.put, List.setIfInBounds_toArray, List.set_cons_zero, List.set_cons_succ, i64_w, i32_w]; rfl)
               refine p_ 8 7 (m_ 9 511) HT_.out ?_
               refine done_ (done_of HT_.out (by kernel_rfl)) ?_
               try go_wp2
               (try (rw [dself_ w48]; generalize hq_ : World.drewN w48 _ = w48; have n0_ : Aside0 (Below w.heap.size w w48) := ⟨by rw [← hq_]; exact (bb_ HB)⟩; clear HB hq_; have HB := n0_; clear n0_))
               have n0_ := Aside0.mk (below_drew1 HB.out)
               clear HB
               have HB := n0_
               clear n0_
               have p289 : 0 ≤ (0 : Int) := (by omega)
               have q289 : 0 < (l1.length : Int) := dd_
               obtain ⟨ad289, e289, hx289_0⟩ := Kd.at_int HR1.out 0 p289 q289
               have hw289_0 := hx289_0
               (try rw [show ((0 : Int)).toNat = 0 from rfl] at hw289_0)
               (try rw [show 0 * 1 = 0 from rfl] at hw289_0)
               (try rw [Addr.add_zero'] at hw289_0)
               obtain rfl : ad283 = ad289 := (by injection e289)
               have qi289 : (0 < l1.length) = True := eq_true (by omega)
               (try rw [show ((0 : Int)).toNat = 0 from rfl] at hx289_0)
               (try rw [Addr.add_zero'] at hx289_0)
               replace hx289_0 := hc_ HB hx289_0
               replace p289 := eq_true p289
               replace q289 := eq_true q289
               have p290 : 0 ≤ (3 : Int) := (by omega)
               have q290 : 3 < (l1.length : Int) := dd_
               obtain ⟨ad290, e290, hx290_0⟩ := Kd.at_int HR1.out 3 p290 q290
               have hw290_0 := hx290_0
               (try rw [show ((3 : Int)).toNat = 3 from rfl] at hw290_0)
               (try rw [show 3 * 1 = 3 from rfl] at hw290_0)
               (try simp only [Nat.reduceMul, Nat.reduceEqDiff, Go.Addr.add, ↓reduceIte] at hw290_0)
               obtain rfl : ad283 = ad290 := (by injection e290)
               (try simp only [show (3 : Int).toNat = 3 from rfl, Nat.reduceMul, Nat.reduceEqDiff, Go.Addr.add, ↓reduceIte] at hx290_0)
               have qi290 : (3 < l1.length) = True := eq_true (by omega)
               (try rw [show ((3 : Int)).toNat = 3 from rfl] at hx290_0)
               replace hx290_0 := hc_ HB hx290_0
               replace p290 := eq_true p290
               replace q290 := eq_true q290
               refine start_ (n := 9) (S := fun w' => w'.cell? ad283 = some (.int .i64 (rd l1 0)) ∧ w'.cell? ⟨ad283.block, ad283.off + 3, none⟩ = some (.int .i64 (rd l1 3))) (ds := []) #[F_,F_,F_,F_,F_,F_,F_,F_,F_] (by kernel_rfl) rfl rfl ⟨(hc_ HB hw289_0), (hc_ HB hw290_0)⟩ (fun hHeld => ?_); refine with_tabW spec_TwinIn.tab10 spec_TwinIn.bits10 (fun HT_ HW_ => ?_)
               generalize w48.drew = w49 at HB hx289_0 hx290_0 hHeld ⊢
               refine p_ 0 57 (m_ 9 1) HT_.out ?_
               refine p_ 1 58 (m_ 9 3) HT_.out ?_
               refine p_ 2 59 (m_ 9 7) HT_.out ?_
               refine p_ 4 61 (m_ 9 23) HT_.out ?_
               refine p_ 5 62 (m_ 9 55) HT_.out ?_
               refine t2_ 3 60 (m_ 9 63) HT_.out HW_.out hHeld ?_
               refine t2_ 6 63 (m_ 9 127) HT_.out HW_.out hHeld ?_
               refine one_ (i := 7) (N := some 64) (m_ 9 255) rfl rfl (one_of HT_.out (by kernel_rfl)) (by decide) (fun K hK => ?_)
               refine goes_ Try.func66 (by kernel_rfl) rfl #[.slice A0 l0.length c0, .int .i64 (rd l1 0), .int .i64 (rd l1 3)] (by rfl) rfl rfl ll_ ?_
               with_reducible refine (spec_l3Join.calls k2 _ _ l0 (rd l1 0) (rd l1 3) t291 _ ?side1 ?side2 A29.out).mono ?_
               (case side1 => exact sb_ HR0 HB)
               (case side2 => exact HC0.out)
               rintro e w' ⟨rfl, ⟨nd, rfl⟩⟩
               refine ⟨_, rfl, ?_⟩
               refine hK.out _ _ ⟨(hc_ HB hw289_0), (hc_ HB hw290_0)⟩ (fun hHeld => ?_)
               clear hK K
               refine norm_ (a' := ?_) ?_ ?_; rotate_left; (show Act.put _ (some 64) _ = _; simp only [Act.put, List.setIfInBounds_toArray, List.set_cons_zero, List.set_cons_succ, i64_w, i32_w]; rfl)
               refine p_ 8 8 (m_ 9 511) HT_.out ?_
               refine done_ (done_of HT_.out (by kernel_rfl)) ?_
               try go_wp2
               (try (rw [dself_ w49]; generalize hq_ : World.drewN w49 _ = w49; have n0_ : Aside0 (Below w.heap.size w w49) := ⟨by rw [← hq_]; exact (bb_ HB)⟩; clear HB hq_; have HB := n0_; clear n0_))
               have n0_ := Aside0.mk (below_drew1 HB.out)
               clear HB
               have HB := n0_
               clear n0_
               have p292 : 0 ≤ (1 : Int) := (by omega)
               have q292 : 1 < (l1.length : Int) := dd_
               obtain ⟨ad292, e292, hx292_0⟩ := Kd.at_int HR1.out 1 p292 q292
               have hw292_0 := hx292_0
               (try rw [show ((1 : Int)).toNat = 1 from rfl] at hw292_0)
               (try rw [show 1 * 1 = 1 from rfl] at hw292_0)
               (try simp only [Nat.reduceMul, Nat.reduceEqDiff, Go.Addr.add, ↓reduceIte] at hw292_0)
               obtain rfl : ad283 = ad292 := (by injection e292)
               (try simp only [show (1 : Int).toNat = 1 from rfl, Nat.reduceMul, Nat.reduceEqDiff, Go.Addr.add, ↓reduceIte] at hx292_0)
               have qi292 : (1 < l1.length) = True := eq_true (by omega)
               (try rw [show ((1 : Int)).toNat = 1 from rfl] at hx292_0)
               replace hx292_0 := hc_ HB hx292_0
               replace p292 := eq_true p292
               replace q292 := eq_true q292
               have p293 : 0 ≤ (2 : Int) := (by omega)
               have q293 : 2 < (l1.length : Int) := dd_
               obtain ⟨ad293, e293, hx293_0⟩ := Kd.at_int HR1.out 2 p293 q293
               have hw293_0 := hx293_0
               (try rw [show ((2 : Int)).toNat = 2 from rfl] at hw293_0)
               (try rw [show 2 * 1 = 2 from rfl] at hw293_0)
               (try simp only [Nat.reduceMul, Nat.reduceEqDiff, Go.Addr.add, ↓reduceIte] at hw293_0)
               obtain rfl : ad283 = ad293 := (by injection e293)
               (try simp only [show (2 : Int).toNat = 2 from rfl, Nat.reduceMul, Nat.reduceEqDiff, Go.Addr.add, ↓reduceIte] at hx293_0)
               have qi293 : (2 < l1.length) = True := eq_true (by omega)
               (try rw [show ((2 : Int)).toNat = 2 from rfl] at hx293_0)
               replace hx293_0 := hc_ HB hx293_0
               replace p293 := eq_true p293
               replace q293 := eq_true q293
               have p294 : 0 ≤ (3 : Int) := (by omega)
               have q294 : 3 < (l1.length : Int) := dd_
               obtain ⟨ad294, e294, hx294_0⟩ := Kd.at_int HR1.out 3 p294 q294
               have hw294_0 := hx294_0
               (try rw [show ((3 : Int)).toNat = 3 from rfl] at hw294_0)
               (try rw [show 3 * 1 = 3 from rfl] at hw294_0)
               (try simp only [Nat.reduceMul, Nat.reduceEqDiff, Go.Addr.add, ↓reduceIte] at hw294_0)
               obtain rfl : ad283 = ad294 := (by injection e294)
               (try simp only [show (3 : Int).toNat = 3 from rfl, Nat.reduceMul, Nat.reduceEqDiff, Go.Addr.add, ↓reduceIte] at hx294_0)
               have qi294 : (3 < l1.length) = True := eq_true (by omega)
               (try rw [show ((3 : Int)).toNat = 3 from rfl] at hx294_0)
               replace hx294_0 := hc_ HB hx294_0
               replace p294 := eq_true p294
               replace q294 := eq_true q294
               refine start_ (n := 42) (S := fun w' => w'.cell? ⟨ad283.block, ad283.off + 1, none⟩ = some (.int .i64 (rd l1 1)) ∧ w'.cell? ⟨ad283.block, ad283.off + 2, none⟩ = some (.int .i64 (rd l1 2)) ∧ w'.cell? ⟨ad283.block, ad283.off + 3, none⟩ = some (.int .i64 (rd l1 3))) (ds := []) #[F_,F_,F_,F_,F_,F_,F_,F_,F_,F_,F_,F_,F_,F_,F_,F_,F_,F_,F_,F_,F_,F_,F_,F_,F_,F_,F_,F_,F_,F_,F_,F_,F_,F_,F_,F_,F_,F_,F_,F_,F_,F_] (by kernel_rfl) rfl rfl ⟨(hc_ HB hw292_0), (hc_ HB hw293_0), (hc_ HB hw294_0)⟩ (fun hHeld => ?_); refine with_tabW spec_TwinIn.tab11 spec_TwinIn.bits11 (fun HT_ HW_ => ?_)
               generalize w49.drew = w50 at HB hx292_0 hx293_0 hx294_0 hHeld ⊢
               refine p_ 0 65 (m_ 42 1) HT_.out ?_
               refine p_ 1 66 (m_ 42 3) HT_.out ?_
               refine p_ 2 67 (m_ 42 7) HT_.out ?_
               refine p_ 3 68 (m_ 42 15) HT_.out ?_
               refine p_ 4 69 (m_ 42 31) HT_.out ?_
               refine p_ 5 70 (m_ 42 63) HT_.out ?_
               refine p_ 6 71 (m_ 42 127) HT_.out ?_
               refine p_ 7 72 (m_ 42 255) HT_.out ?_
               refine p_ 8 73 (m_ 42 511) HT_.out ?_
               refine p_ 9 74 (m_ 42 1023) HT_.out ?_
               refine p_ 10 75 (m_ 42 2047) HT_.out ?_
               refine p_ 11 76 (m_ 42 4095) HT_.out ?_
               refine p_ 12 77 (m_ 42 8191) HT_.out ?_
               refine p_ 13 78 (m_ 42 16383) HT_.out ?_
               refine p_ 14 79 (m_ 42 32767) HT_.out ?_
               refine p_ 15 80 (m_ 42 65535) HT_.out ?_
               refine p_ 16 81 (m_ 42 131071) HT_.out ?_
               refine p_ 18 83 (m_ 42 393215) HT_.out ?_
               refine p_ 19 84 (m_ 42 917503) HT_.out ?_
               refine p_ 21 86 (m_ 42 3014655) HT_.out ?_
               refine p_ 22 87 (m_ 42 7208959) HT_.out ?_
               refine t3_ 17 82 (m_ 42 7340031) HT_.out HW_.out hHeld ?_
               refine t3_ 20 85 (m_ 42 8388607) HT_.out HW_.out hHeld ?_
               refine t3_ 23 88 (m_ 42 16777215) HT_.out HW_.out hHeld ?_
               refine one_ (i := 24) (N := some 89) (m_ 42 33554431) rfl rfl (one_of HT_.out (by kernel_rfl)) (by decide) (fun K hK => ?_)
               refine goes_ Try.func65 (by kernel_rfl) rfl #[.slice A0 l0.length c0, .int .i64 (rd l1 1), .int .i64 (rd l1 2), .int .i64 (rd l1 3)] (by rfl) rfl rfl ll_ ?_
               with_reducible refine (spec_l3Three.calls k2 _ _ l0 (rd l1 1) (rd l1 2) (rd l1 3) true _ ?side1 ?side2 A45.out).mono ?_
               (case side1 => exact sb_ HR0 HB)
               (case side2 => exact HC0.out)
               rintro e w' ⟨rfl, ⟨nd, rfl⟩⟩
               refine ⟨_, rfl, ?_⟩
               refine hK.out _ _ ⟨(hc_ HB hw292_0), (hc_ HB hw293_0), (hc_ HB hw294_0)⟩ (fun hHeld => ?_)
               clear hK K
               refine norm_ (a' := ?_) ?_ ?_; rotate_left; (show Act.put _ (some 89) _ = _; simp only [Act.put, List.setIfInBounds_toArray, List.set_cons_zero, List.set_cons_succ, i64_w, i32_w]; rfl)
               refine p_ 25 90 (m_ 42 67108863) HT_.out ?_
               refine p_ 26 91 (m_ 42 134217727) HT_.out ?_
               refine p_ 27 92 (m_ 42 268435455) HT_.out ?_
               refine u_ 28 93 (m_ 42 536870911) HT_.out ?_
               refine u_ 29 94 (m_ 42 1073741823) HT_.out ?_
               refine u_ 30 95 (m_ 42 2147483647) HT_.out ?_
               refine u_ 31 96 (m_ 42 4294967295) HT_.out ?_
               refine u_ 32 97 (m_ 42 8589934591) HT_.out ?_
               refine u_ 33 98 (m_ 42 17179869183) HT_.out ?_
               refine u_ 34 99 (m_ 42 34359738367) HT_.out ?_
               refine u_ 35 100 (m_ 42 68719476735) HT_.out ?_
               refine u_ 36 101 (m_ 42 137438953471) HT_.out ?_
               refine u_ 37 102 (m_ 42 274877906943) HT_.out ?_
               refine u_ 38 103 (m_ 42 549755813887) HT_.out ?_
               refine u_ 39 104 (m_ 42 1099511627775) HT_.out ?_
               refine p_ 40 105 (m_ 42 2199023255551) HT_.out ?_
               refine p_ 41 4 (m_ 42 4398046511103) HT_.out ?_
               refine done_ (done_of HT_.out (by kernel_rfl)) ?_
               try go_wp2
               go_ret
               exact ⟨ee_, bb_ HB⟩
              ·replace c46 := Bool.eq_false_iff.mpr c46
               subst c46
               have H1 : (if 4 < (l1.length : Int) then (if 5 < (l1.length : Int) then (if 6 < (l1.length : Int) then ((spec_l3Three.f k2 l0 (rd l1 4) (rd l1 5) (rd l1 6)).bind fun t299 => (some (!t299))) else (none)) else (none)) else (none)) = some r := by rw [if_neg (show ¬ (false = true) by decide)] at H; exact H
               clear H
               have H := H1
               clear H1
               by_cases c51 : 4 < (l1.length : Int)
               ·rw [if_pos c51] at H
                have c51b0 : decide (4 < (l1.length : Int)) = true := decide_eq_true c51
                have c51b1 : decide (4 < l1.length) = true := decide_eq_true (by omega)
                clear c51
                by_cases c52 : 5 < (l1.length : Int)
                ·rw [if_pos c52] at H
                 have c52b0 : decide (5 < (l1.length : Int)) = true := decide_eq_true c52
                 have c52b1 : decide (5 < l1.length) = true := decide_eq_true (by omega)
                 clear c52
                 by_cases c53 : 6 < (l1.length : Int)
                 ·rw [if_pos c53] at H
                  have c53b0 : decide (6 < (l1.length : Int)) = true := decide_eq_true c53
                  have c53b1 : decide (6 < l1.length) = true := decide_eq_true (by omega)
                  clear c53
                  replace H := Option.bind_eq_some_iff.mp H
                  obtain ⟨t299, A540, H⟩ := H
                  replace H : (some (!t299)) = some r := H
                  have A54 := Aside0.mk A540
                  clear A540
                  obtain rfl := Option.some.inj H
                  try go_wp2
                  have n0_ := Aside0.mk (below_drew1 HB.out)
                  clear HB
                  have HB := n0_
                  clear n0_
                  have p283 : 0 ≤ (0 : Int) := (by omega)
                  have q283 : 0 < (l1.length : Int) := dd_
                  obtain ⟨ad283, e283, hx283_0⟩ := Kd.at_int HR1.out 0 p283 q283
                  have hw283_0 := hx283_0
                  (try rw [show ((0 : Int)).toNat = 0 from rfl] at hw283_0)
                  (try rw [show 0 * 1 = 0 from rfl] at hw283_0)
                  (try rw [Addr.add_zero'] at hw283_0)
                  cases e283
                  have qi283 : (0 < l1.length) = True := eq_true (by omega)
                  (try rw [show ((0 : Int)).toNat = 0 from rfl] at hx283_0)
                  (try rw [Addr.add_zero'] at hx283_0)
                  replace hx283_0 := hc_ HB hx283_0
                  replace p283 := eq_true p283
                  replace q283 := eq_true q283
                  have p284 : 0 ≤ (1 : Int) := (by omega)
                  have q284 : 1 < (l1.length : Int) := dd_
                  obtain ⟨ad284, e284, hx284_0⟩ := Kd.at_int HR1.out 1 p284 q284
                  have hw284_0 := hx284_0
                  (try rw [show ((1 : Int)).toNat = 1 from rfl] at hw284_0)
                  (try rw [show 1 * 1 = 1 from rfl] at hw284_0)
                  (try simp only [Nat.reduceMul, Nat.reduceEqDiff, Go.Addr.add, ↓reduceIte] at hw284_0)
                  obtain rfl : ad283 = ad284 := (by injection e284)
                  (try simp only [show (1 : Int).toNat = 1 from rfl, Nat.reduceMul, Nat.reduceEqDiff, Go.Addr.add, ↓reduceIte] at hx284_0)
                  have qi284 : (1 < l1.length) = True := eq_true (by omega)
                  (try rw [show ((1 : Int)).toNat = 1 from rfl] at hx284_0)
                  replace hx284_0 := hc_ HB hx284_0
                  replace p284 := eq_true p284
                  replace q284 := eq_true q284
                  refine start_ (n := 9) (S := fun w' => w'.cell? ad283 = some (.int .i64 (rd l1 0)) ∧ w'.cell? ⟨ad283.block, ad283.off + 1, none⟩ = some (.int .i64 (rd l1 1))) (ds := []) #[F_,F_,F_,F_,F_,F_,F_,F_,F_] (by kernel_rfl) rfl rfl ⟨(hc_ HB hw283_0), (hc_ HB hw284_0)⟩ (fun hHeld => ?_); refine with_tabW spec_TwinIn.tab8 spec_TwinIn.bits8 (fun HT_ HW_ => ?_)
                  generalize wr.drew = w55 at HB hx283_0 hx284_0 hHeld ⊢
                  refine p_ 0 41 (m_ 9 1) HT_.out ?_
                  refine p_ 1 42 (m_ 9 3) HT_.out ?_
                  refine p_ 2 43 (m_ 9 7) HT_.out ?_
                  refine p_ 4 45 (m_ 9 23) HT_.out ?_
                  refine p_ 5 46 (m_ 9 55) HT_.out ?_
                  refine t2_ 3 44 (m_ 9 63) HT_.out HW_.out hHeld ?_
                  refine t2_ 6 47 (m_ 9 127) HT_.out HW_.out hHeld ?_
                  refine one_ (i := 7) (N := some 48) (m_ 9 255) rfl rfl (one_of HT_.out (by kernel_rfl)) (by decide) (fun K hK => ?_)
                  refine goes_ Try.func66 (by kernel_rfl) rfl #[.slice A0 l0.length c0, .int .i64 (rd l1 0), .int .i64 (rd l1 1)] (by rfl) rfl rfl ll_ ?_
                  with_reducible refine (spec_l3Join.calls k2 _ _ l0 (rd l1 0) (rd l1 1) t285 _ ?side1 ?side2 A25.out).mono ?_
                  (case side1 => exact sb_ HR0 HB)
                  (case side2 => exact HC0.out)
                  rintro e w' ⟨rfl, ⟨nd, rfl⟩⟩
                  refine ⟨_, rfl, ?_⟩
                  refine hK.out _ _ ⟨(hc_ HB hw283_0), (hc_ HB hw284_0)⟩ (fun hHeld => ?_)
                  clear hK K
                  refine norm_ (a' := ?_) ?_ ?_; rotate_left; (show Act.put _ (some 48) _ = _; simp only [Act.put, List.setIfInBounds_toArray, List.set_cons_zero, List.set_cons_succ, i64_w, i32_w]; rfl)
                  refine p_ 8 6 (m_ 9 511) HT_.out ?_
                  refine done_ (done_of HT_.out (by kernel_rfl)) ?_
                  try go_wp2
                  (try (rw [dself_ w55]; generalize hq_ : World.drewN w55 _ = w55; have n0_ : Aside0 (Below w.heap.size w w55) := ⟨by rw [← hq_]; exact (bb_ HB)⟩; clear HB hq_; have HB := n0_; clear n0_))
                  have n0_ := Aside0.mk (below_drew1 HB.out)
                  clear HB
                  have HB := n0_
                  clear n0_
                  have p286 : 0 ≤ (0 : Int) := (by omega)
                  have q286 : 0 < (l1.length : Int) := dd_
                  obtain ⟨ad286, e286, hx286_0⟩ := Kd.at_int HR1.out 0 p286 q286
                  have hw286_0 := hx286_0
                  (try rw [show ((0 : Int)).toNat = 0 from rfl] at hw286_0)
                  (try rw [show 0 * 1 = 0 from rfl] at hw286_0)
                  (try rw [Addr.add_zero'] at hw286_0)
                  obtain rfl : ad283 = ad286 := (by injection e286)
                  have qi286 : (0 < l1.length) = True := eq_true (by omega)
                  (try rw [show ((0 : Int)).toNat = 0 from rfl] at hx286_0)
                  (try rw [Addr.add_zero'] at hx286_0)
                  replace hx286_0 := hc_ HB hx286_0
                  replace p286 := eq_true p286
                  replace q286 := eq_true q286
                  have p287 : 0 ≤ (2 : Int) := (by omega)
                  have q287 : 2 < (l1.length : Int) := dd_
                  obtain ⟨ad287, e287, hx287_0⟩ := Kd.at_int HR1.out 2 p287 q287
                  have hw287_0 := hx287_0
                  (try rw [show ((2 : Int)).toNat = 2 from rfl] at hw287_0)
                  (try rw [show 2 * 1 = 2 from rfl] at hw287_0)
                  (try simp only [Nat.reduceMul, Nat.reduceEqDiff, Go.Addr.add, ↓reduceIte] at hw287_0)
                  obtain rfl : ad283 = ad287 := (by injection e287)
                  (try simp only [show (2 : Int).toNat = 2 from rfl, Nat.reduceMul, Nat.reduceEqDiff, Go.Addr.add, ↓reduceIte] at hx287_0)
                  have qi287 : (2 < l1.length) = True := eq_true (by omega)
                  (try rw [show ((2 : Int)).toNat = 2 from rfl] at hx287_0)
                  replace hx287_0 := hc_ HB hx287_0
                  replace p287 := eq_true p287
                  replace q287 := eq_true q287
                  refine start_ (n := 9) (S := fun w' => w'.cell? ad283 = some (.int .i64 (rd l1 0)) ∧ w'.cell? ⟨ad283.block, ad283.off + 2, none⟩ = some (.int .i64 (rd l1 2))) (ds := []) #[F_,F_,F_,F_,F_,F_,F_,F_,F_] (by kernel_rfl) rfl rfl ⟨(hc_ HB hw286_0), (hc_ HB hw287_0)⟩ (fun hHeld => ?_); refine with_tabW spec_TwinIn.tab9 spec_TwinIn.bits9 (fun HT_ HW_ => ?_)
                  generalize w55.drew = w56 at HB hx286_0 hx287_0 hHeld ⊢
                  refine p_ 0 49 (m_ 9 1) HT_.out ?_
                  refine p_ 1 50 (m_ 9 3) HT_.out ?_
                  refine p_ 2 51 (m_ 9 7) HT_.out ?_
                  refine p_ 4 53 (m_ 9 23) HT_.out ?_
                  refine p_ 5 54 (m_ 9 55) HT_.out ?_
                  refine t2_ 3 52 (m_ 9 63) HT_.out HW_.out hHeld ?_
                  refine t2_ 6 55 (m_ 9 127) HT_.out HW_.out hHeld ?_
                  refine one_ (i := 7) (N := some 56) (m_ 9 255) rfl rfl (one_of HT_.out (by kernel_rfl)) (by decide) (fun K hK => ?_)
                  refine goes_ Try.func66 (by kernel_rfl) rfl #[.slice A0 l0.length c0, .int .i64 (rd l1 0), .int .i64 (rd l1 2)] (by rfl) rfl rfl ll_ ?_
                  with_reducible refine (spec_l3Join.calls k2 _ _ l0 (rd l1 0) (rd l1 2) t288 _ ?side1 ?side2 A27.out).mono ?_
                  (case side1 => exact sb_ HR0 HB)
                  (case side2 => exact HC0.out)
                  rintro e w' ⟨rfl, ⟨nd, rfl⟩⟩
                  refine ⟨_, rfl, ?_⟩
                  refine hK.out _ _ ⟨(hc_ HB hw286_0), (hc_ HB hw287_0)⟩ (fun hHeld => ?_)
                  clear hK K
                  refine norm_ (a' := ?_) ?_ ?_; rotate_left; (show Act.put _ (some 56) _ = _; simp only [Act.put, List.setIfInBounds_toArray, List.set_cons_zero, List.set_cons_succ, i64_w, i32_w]; rfl)
                  refine p_ 8 7 (m_ 9 511) HT_.out ?_
                  refine done_ (done_of HT_.out (by kernel_rfl)) ?_
                  try go_wp2
                  (try (rw [dself_ w56]; generalize hq_ : World.drewN w56 _ = w56; have n0_ : Aside0 (Below w.heap.size w w56) := ⟨by rw [← hq_]; exact (bb_ HB)⟩; clear HB hq_; have HB := n0_; clear n0_))
                  have n0_ := Aside0.mk (below_drew1 HB.out)
                  clear HB
                  have HB := n0_
                  clear n0_
                  have p289 : 0 ≤ (0 : Int) := (by omega)
                  have q289 : 0 < (l1.length : Int) := dd_
                  obtain ⟨ad289, e289, hx289_0⟩ := Kd.at_int HR1.out 0 p289 q289
                  have hw289_0 := hx289_0
                  (try rw [show ((0 : Int)).toNat = 0 from rfl] at hw289_0)
                  (try rw [show 0 * 1 = 0 from rfl] at hw289_0)
                  (try rw [Addr.add_zero'] at hw289_0)
                  obtain rfl : ad283 = ad289 := (by injection e289)
                  have qi289 : (0 < l1.length) = True := eq_true (by omega)
                  (try rw [show ((0 : Int)).toNat = 0 from rfl] at hx289_0)
                  (try rw [Addr.add_zero'] at hx289_0)
                  replace hx289_0 := hc_ HB hx289_0
                  replace p289 := eq_true p289
                  replace q289 := eq_true q289
                  have p290 : 0 ≤ (3 : Int) := (by omega)
                  have q290 : 3 < (l1.length : Int) := dd_
                  obtain ⟨ad290, e290, hx290_0⟩ := Kd.at_int HR1.out 3 p290 q290
                  have hw290_0 := hx290_0
                  (try rw [show ((3 : Int)).toNat = 3 from rfl] at hw290_0)
                  (try rw [show 3 * 1 = 3 from rfl] at hw290_0)
                  (try simp only [Nat.reduceMul, Nat.reduceEqDiff, Go.Addr.add, ↓reduceIte] at hw290_0)
                  obtain rfl : ad283 = ad290 := (by injection e290)
                  (try simp only [show (3 : Int).toNat = 3 from rfl, Nat.reduceMul, Nat.reduceEqDiff, Go.Addr.add, ↓reduceIte] at hx290_0)
                  have qi290 : (3 < l1.length) = True := eq_true (by omega)
                  (try rw [show ((3 : Int)).toNat = 3 from rfl] at hx290_0)
                  replace hx290_0 := hc_ HB hx290_0
                  replace p290 := eq_true p290
                  replace q290 := eq_true q290
                  refine start_ (n := 9) (S := fun w' => w'.cell? ad283 = some (.int .i64 (rd l1 0)) ∧ w'.cell? ⟨ad283.block, ad283.off + 3, none⟩ = some (.int .i64 (rd l1 3))) (ds := []) #[F_,F_,F_,F_,F_,F_,F_,F_,F_] (by kernel_rfl) rfl rfl ⟨(hc_ HB hw289_0), (hc_ HB hw290_0)⟩ (fun hHeld => ?_); refine with_tabW spec_TwinIn.tab10 spec_TwinIn.bits10 (fun HT_ HW_ => ?_)
                  generalize w56.drew = w57 at HB hx289_0 hx290_0 hHeld ⊢
                  refine p_ 0 57 (m_ 9 1) HT_.out ?_
                  refine p_ 1 58 (m_ 9 3) HT_.out ?_
                  refine p_ 2 59 (m_ 9 7) HT_.out ?_
                  refine p_ 4 61 (m_ 9 23) HT_.out ?_
                  refine p_ 5 62 (m_ 9 55) HT_.out ?_
                  refine t2_ 3 60 (m_ 9 63) HT_.out HW_.out hHeld ?_
                  refine t2_ 6 63 (m_ 9 127) HT_.out HW_.out hHeld ?_
                  refine one_ (i := 7) (N := some 64) (m_ 9 255) rfl rfl (one_of HT_.out (by kernel_rfl)) (by decide) (fun K hK => ?_)
                  refine goes_ Try.func66 (by kernel_rfl) rfl #[.slice A0 l0.length c0, .int .i64 (rd l1 0), .int .i64 (rd l1 3)] (by rfl) rfl rfl ll_ ?_
                  with_reducible refine (spec_l3Join.calls k2 _ _ l0 (rd l1 0) (rd l1 3) t291 _ ?side1 ?side2 A29.out).mono ?_
                  (case side1 => exact sb_ HR0 HB)
                  (case side2 => exact HC0.out)
                  rintro e w' ⟨rfl, ⟨nd, rfl⟩⟩
                  refine ⟨_, rfl, ?_⟩
                  refine hK.out _ _ ⟨(hc_ HB hw289_0), (hc_ HB hw290_0)⟩ (fun hHeld => ?_)
                  clear hK K
                  refine norm_ (a' := ?_) ?_ ?_; rotate_left; (show Act.put _ (some 64) _ = _; simp only [Act.put, List.setIfInBounds_toArray, List.set_cons_zero, List.set_cons_succ, i64_w, i32_w]; rfl)
                  refine p_ 8 8 (m_ 9 511) HT_.out ?_
                  refine done_ (done_of HT_.out (by kernel_rfl)) ?_
                  try go_wp2
                  (try (rw [dself_ w57]; generalize hq_ : World.drewN w57 _ = w57; have n0_ : Aside0 (Below w.heap.size w w57) := ⟨by rw [← hq_]; exact (bb_ HB)⟩; clear HB hq_; have HB := n0_; clear n0_))
                  have n0_ := Aside0.mk (below_drew1 HB.out)
                  clear HB
                  have HB := n0_
                  clear n0_
                  have p292 : 0 ≤ (1 : Int) := (by omega)
                  have q292 : 1 < (l1.length : Int) := dd_
                  obtain ⟨ad292, e292, hx292_0⟩ := Kd.at_int HR1.out 1 p292 q292
                  have hw292_0 := hx292_0
                  (try rw [show ((1 : Int)).toNat = 1 from rfl] at hw292_0)
                  (try rw [show 1 * 1 = 1 from rfl] at hw292_0)
                  (try simp only [Nat.reduceMul, Nat.reduceEqDiff, Go.Addr.add, ↓reduceIte] at hw292_0)
                  obtain rfl : ad283 = ad292 := (by injection e292)
                  (try simp only [show (1 : Int).toNat = 1 from rfl, Nat.reduceMul, Nat.reduceEqDiff, Go.Addr.add, ↓reduceIte] at hx292_0)
                  have qi292 : (1 < l1.length) = True := eq_true (by omega)
                  (try rw [show ((1 : Int)).toNat = 1 from rfl] at hx292_0)
                  replace hx292_0 := hc_ HB hx292_0
                  replace p292 := eq_true p292
                  replace q292 := eq_true q292
                  have p293 : 0 ≤ (2 : Int) := (by omega)
                  have q293 : 2 < (l1.length : Int) := dd_
                  obtain ⟨ad293, e293, hx293_0⟩ := Kd.at_int HR1.out 2 p293 q293
                  have hw293_0 := hx293_0
                  (try rw [show ((2 : Int)).toNat = 2 from rfl] at hw293_0)
                  (try rw [show 2 * 1 = 2 from rfl] at hw293_0)
                  (try simp only [Nat.reduceMul, Nat.reduceEqDiff, Go.Addr.add, ↓reduceIte] at hw293_0)
                  obtain rfl : ad283 = ad293 := (by injection e293)
                  (try simp only [show (2 : Int).toNat = 2 from rfl, Nat.reduceMul, Nat.reduceEqDiff, Go.Addr.add, ↓reduceIte] at hx293_0)
                  have qi293 : (2 < l1.length) = True := eq_true (by omega)
                  (try rw [show ((2 : Int)).toNat = 2 from rfl] at hx293_0)
                  replace hx293_0 := hc_ HB hx293_0
                  replace p293 := eq_true p293
                  replace q293 := eq_true q293
                  have p294 : 0 ≤ (3 : Int) := (by omega)
                  have q294 : 3 < (l1.length : Int) := dd_
                  obtain ⟨ad294, e294, hx294_0⟩ := Kd.at_int HR1.out 3 p294 q294
                  have hw294_0 := hx294_0
                  (try rw [show ((3 : Int)).toNat = 3 from rfl] at hw294_0)
                  (try rw [show 3 * 1 = 3 from rfl] at hw294_0)
                  (try simp only [Nat.reduceMul, Nat.reduceEqDiff, Go.Addr.add, ↓reduceIte] at hw294_0)
                  obtain rfl : ad283 = ad294 := (by injection e294)
                  (try simp only [show (3 : Int).toNat = 3 from rfl, Nat.reduceMul, Nat.reduceEqDiff, Go.Addr.add, ↓reduceIte] at hx294_0)
                  have qi294 : (3 < l1.length) = True := eq_true (by omega)
                  (try rw [show ((3 : Int)).toNat = 3 from rfl] at hx294_0)
                  replace hx294_0 := hc_ HB hx294_0
                  replace p294 := eq_true p294
                  replace q294 := eq_true q294
                  have p296 : 0 ≤ (4 : Int) := (by omega)
                  have q296 : 4 < (l1.length : Int) := dd_
                  obtain ⟨ad296, e296, hx296_0⟩ := Kd.at_int HR1.out 4 p296 q296
                  have hw296_0 := hx296_0
                  (try rw [show ((4 : Int)).toNat = 4 from rfl] at hw296_0)
                  (try rw [show 4 * 1 = 4 from rfl] at hw296_0)
                  (try simp only [Nat.reduceMul, Nat.reduceEqDiff, Go.Addr.add, ↓reduceIte] at hw296_0)
                  obtain rfl : ad283 = ad296 := (by injection e296)
                  (try simp only [show (4 : Int).toNat = 4 from rfl, Nat.reduceMul, Nat.reduceEqDiff, Go.Addr.add, ↓reduceIte] at hx296_0)
                  have qi296 : (4 < l1.length) = True := eq_true (by omega)
                  (try rw [show ((4 : Int)).toNat = 4 from rfl] at hx296_0)
                  replace hx296_0 := hc_ HB hx296_0
                  replace p296 := eq_true p296
                  replace q296 := eq_true q296
                  have p297 : 0 ≤ (5 : Int) := (by omega)
                  have q297 : 5 < (l1.length : Int) := dd_
                  obtain ⟨ad297, e297, hx297_0⟩ := Kd.at_int HR1.out 5 p297 q297
                  have hw297_0 := hx297_0
                  (try rw [show ((5 : Int)).toNat = 5 from rfl] at hw297_0)
                  (try rw [show 5 * 1 = 5 from rfl] at hw297_0)
                  (try simp only [Nat.reduceMul, Nat.reduceEqDiff, Go.Addr.add, ↓reduceIte] at hw297_0)
                  obtain rfl : ad283 = ad297 := (by injection e297)
                  (try simp only [show (5 : Int).toNat = 5 from rfl, Nat.reduceMul, Nat.reduceEqDiff, Go.Addr.add, ↓reduceIte] at hx297_0)
                  have qi297 : (5 < l1.length) = True := eq_true (by omega)
                  (try rw [show ((5 : Int)).toNat = 5 from rfl] at hx297_0)
                  replace hx297_0 := hc_ HB hx297_0
                  replace p297 := eq_true p297
                  replace q297 := eq_true q297
                  have p298 : 0 ≤ (6 : Int) := (by omega)
                  have q298 : 6 < (l1.length : Int) := dd_
                  obtain ⟨ad298, e298, hx298_0⟩ := Kd.at_int HR1.out 6 p298 q298
                  have hw298_0 := hx298_0
                  (try rw [show ((6 : Int)).toNat = 6 from rfl] at hw298_0)
                  (try rw [show 6 * 1 = 6 from rfl] at hw298_0)
                  (try simp only [Nat.reduceMul, Nat.reduceEqDiff, Go.Addr.add, ↓reduceIte] at hw298_0)
                  obtain rfl : ad283 = ad298 := (by injection e298)
                  (try simp only [show (6 : Int).toNat = 6 from rfl, Nat.reduceMul, Nat.reduceEqDiff, Go.Addr.add, ↓reduceIte] at hx298_0)
                  have qi298 : (6 < l1.length) = True := eq_true (by omega)
                  (try rw [show ((6 : Int)).toNat = 6 from rfl] at hx298_0)
                  replace hx298_0 := hc_ HB hx298_0
                  replace p298 := eq_true p298
                  replace q298 := eq_true q298
                  refine start_ (n := 42) (S := fun w' => w'.cell? ⟨ad283.block, ad283.off + 1, none⟩ = some (.int .i64 (rd l1 1)) ∧ w'.cell? ⟨ad283.block, ad283.off + 2, none⟩ = some (.int .i64 (rd l1 2)) ∧ w'.cell? ⟨ad283.block, ad283.off + 3, none⟩ = some (.int .i64 (rd l1 3)) ∧ w'.cell? ⟨ad283.block, ad283.off + 4, none⟩ = some (.int .i64 (rd l1 4)) ∧ w'.cell? ⟨ad283.block, ad283.off + 5, none⟩ = some (.int .i64 (rd l1 5)) ∧ w'.cell? ⟨ad283.block, ad283.off + 6, none⟩ = some (.int .i64 (rd l1 6))) (ds := []) #[F_,F_,F_,F_,F_,F_,F_,F_,F_,F_,F_,F_,F_,F_,F_,F_,F_,F_,F_,F_,F_,F_,F_,F_,F_,F_,F_,F_,F_,F_,F_,F_,F_,F_,F_,F_,F_,F_,F_,F_,F_,F_] (by kernel_rfl) rfl rfl ⟨(hc_ HB hw292_0), (hc_ HB hw293_0), (hc_ HB hw294_0), (hc_ HB hw296_0), (hc_ HB hw297_0), (hc_ HB hw298_0)⟩ (fun hHeld => ?_); refine with_tabW spec_TwinIn.tab11 spec_TwinIn.bits11 (fun HT_ HW_ => ?_)
                  generalize w57.drew = w58 at HB hx292_0 hx293_0 hx294_0 hx296_0 hx297_0 hx298_0 hHeld ⊢
                  refine p_ 0 65 (m_ 42 1) HT_.out ?_
                  refine p_ 1 66 (m_ 42 3) HT_.out ?_
                  refine p_ 2 67 (m_ 42 7) HT_.out ?_
                  refine p_ 3 68 (m_ 42 15) HT_.out ?_
                  refine p_ 4 69 (m_ 42 31) HT_.out ?_
                  refine p_ 5 70 (m_ 42 63) HT_.out ?_
                  refine p_ 6 71 (m_ 42 127) HT_.out ?_
                  refine p_ 7 72 (m_ 42 255) HT_.out ?_
                  refine p_ 8 73 (m_ 42 511) HT_.out ?_
                  refine p_ 9 74 (m_ 42 1023) HT_.out ?_
                  refine p_ 10 75 (m_ 42 2047) HT_.out ?_
                  refine p_ 11 76 (m_ 42 4095) HT_.out ?_
                  refine p_ 12 77 (m_ 42 8191) HT_.out ?_
                  refine p_ 13 78 (m_ 42 16383) HT_.out ?_
                  refine p_ 14 79 (m_ 42 32767) HT_.out ?_
                  refine p_ 15 80 (m_ 42 65535) HT_.out ?_
                  refine p_ 16 81 (m_ 42 131071) HT_.out ?_
                  refine p_ 18 83 (m_ 42 393215) HT_.out ?_
                  refine p_ 19 84 (m_ 42 917503) HT_.out ?_
                  refine p_ 21 86 (m_ 42 3014655) HT_.out ?_
                  refine p_ 22 87 (m_ 42 7208959) HT_.out ?_
                  refine t6_ 17 82 (m_ 42 7340031) HT_.out HW_.out hHeld ?_
                  refine t6_ 20 85 (m_ 42 8388607) HT_.out HW_.out hHeld ?_
                  refine t6_ 23 88 (m_ 42 16777215) HT_.out HW_.out hHeld ?_
                  refine one_ (i := 24) (N := some 89) (m_ 42 33554431) rfl rfl (one_of HT_.out (by kernel_rfl)) (by decide) (fun K hK => ?_)
                  refine goes_ Try.func65 (by kernel_rfl) rfl #[.slice A0 l0.length c0, .int .i64 (rd l1 1), .int .i64 (rd l1 2), .int .i64 (rd l1 3)] (by rfl) rfl rfl ll_ ?_
                  with_reducible refine (spec_l3Three.calls k2 _ _ l0 (rd l1 1) (rd l1 2) (rd l1 3) false _ ?side1 ?side2 A45.out).mono ?_
                  (case side1 => exact sb_ HR0 HB)
                  (case side2 => exact HC0.out)
                  rintro e w' ⟨rfl, ⟨nd, rfl⟩⟩
                  refine ⟨_, rfl, ?_⟩
                  refine hK.out _ _ ⟨(hc_ HB hw292_0), (hc_ HB hw293_0), (hc_ HB hw294_0), (hc_ HB hw296_0), (hc_ HB hw297_0), (hc_ HB hw298_0)⟩ (fun hHeld => ?_)
                  clear hK K
                  refine norm_ (a' := ?_) ?_ ?_; rotate_left; (show Act.put _ (some 89) _ = _; simp only [Act.put, List.setIfInBounds_toArray, List.set_cons_zero, List.set_cons_succ, i64_w, i32_w]; rfl)
                  refine p_ 25 90 (m_ 42 67108863) HT_.out ?_
                  refine p_ 26 91 (m_ 42 134217727) HT_.out ?_
                  refine p_ 27 92 (m_ 42 268435455) HT_.out ?_
                  refine p_ 28 93 (m_ 42 536870911) HT_.out ?_
                  refine p_ 29 94 (m_ 42 1073741823) HT_.out ?_
                  refine p_ 30 95 (m_ 42 2147483647) HT_.out ?_
                  refine p_ 32 97 (m_ 42 6442450943) HT_.out ?_
                  refine p_ 33 98 (m_ 42 15032385535) HT_.out ?_
                  refine p_ 35 100 (m_ 42 49392123903) HT_.out ?_
                  refine p_ 36 101 (m_ 42 118111600639) HT_.out ?_
                  refine t6_ 31 96 (m_ 42 120259084287) HT_.out HW_.out hHeld ?_
                  refine t6_ 34 99 (m_ 42 137438953471) HT_.out HW_.out hHeld ?_
                  refine t6_ 37 102 (m_ 42 274877906943) HT_.out HW_.out hHeld ?_
                  refine one_ (i := 38) (N := some 103) (m_ 42 549755813887) rfl rfl (one_of HT_.out (by kernel_rfl)) (by decide) (fun K hK => ?_)
                  refine goes_ Try.func65 (by kernel_rfl) rfl #[.slice A0 l0.length c0, .int .i64 (rd l1 4), .int .i64 (rd l1 5), .int .i64 (rd l1 6)] (by rfl) rfl rfl ll_ ?_
                  with_reducible refine (spec_l3Three.calls k2 _ _ l0 (rd l1 4) (rd l1 5) (rd l1 6) t299 _ ?side1 ?side2 A54.out).mono ?_
                  (case side1 => repeat (first | exact (Kd.C_below HR0.out (bb_ HB)) | (with_reducible refine Kd.C_alloc ?_ _) | (with_reducible refine Kd.C_drewN ?_ _) | (with_reducible refine Kd.C_drew ?_)))
                  (case side2 => exact HC0.out)
                  rintro e w' ⟨rfl, ⟨nd, rfl⟩⟩
                  refine ⟨_, rfl, ?_⟩
                  refine hK.out _ _ ⟨(hc_ HB hw292_0), (hc_ HB hw293_0), (hc_ HB hw294_0), (hc_ HB hw296_0), (hc_ HB hw297_0), (hc_ HB hw298_0)⟩ (fun hHeld => ?_)
                  clear hK K
                  refine norm_ (a' := ?_) ?_ ?_; rotate_left; (show Act.put _ (some 103) _ = _; simp only [Act.put, List.setIfInBounds_toArray, List.set_cons_zero, List.set_cons_succ, i64_w, i32_w]; rfl)
                  refine p_ 39 104 (m_ 42 1099511627775) HT_.out ?_
                  refine p_ 40 105 (m_ 42 2199023255551) HT_.out ?_
                  refine p_ 41 4 (m_ 42 4398046511103) HT_.out ?_
                  refine done_ (done_of HT_.out (by kernel_rfl)) ?_
                  try go_wp2
                  go_ret
                  exact ⟨ee_, bb_ HB⟩
                 ·rw [if_neg c53] at H
                  exact absurd H (by simp)
                ·rw [if_neg c52] at H
                 exact absurd H (by simp)
               ·rw [if_neg c51] at H
                exact absurd H (by simp)
          ·rw [if_neg c28] at H
           exact absurd H (by simp)
         ·rw [if_neg c26] at H
          exact absurd H (by simp)
        ·rw [if_neg c24] at H
         exact absurd H (by simp)
       ·rw [if_neg c23] at H
        exact absurd H (by simp)
end Go.Proofs.Ytcbkoecanldlpaa.P

namespace Go.Proofs.Ytcbkoecanldlpaa.P
open Go.RowKit Go.Proofs.YtcbkoecanldlpaaW.PrintWords Go.Proofs.YtcbkoecanldlpaaW.PrintLast
set_option linter.unusedVariables false
set_option linter.unusedSimpArgs false

def spec_l3Meet.l0 : Nat → List Int → Int → Int → Int → Option (Int)
 | 0, _, _, _, _ => none
 | k + 1, x0, x1, x2, x7 => if x7 < 91 then ((spec_l3On.f x0 x7 x1).bind fun t381 => (if t381 = true then ((spec_l3On.f x0 x7 x2).bind fun t382 => (if t382 = true then (some x7) else (spec_l3Meet.l0 k x0 x1 x2 (wrap64 (x7 + 1))))) else (spec_l3Meet.l0 k x0 x1 x2 (wrap64 (x7 + 1))))) else (some 0)
def spec_l3Meet.f (k : Nat) (l0 : List Int) (a1 : Int) (a2 : Int) : Option (Int) := spec_l3Meet.l0 k l0 a1 a2 0
set_option maxHeartbeats 8000000 in
set_option maxRecDepth 100000 in
theorem spec_l3Meet.calls (k : Nat) (A0 : Option Addr) (c0 : Nat) (l0 : List Int) (a1 : Int) (a2 : Int) (r : Int) (w : World) (hr0 : Kd.C (Kd.int .i64) w A0 l0.length l0) (hc0 : l0.length ≤ c0) (h : spec_l3Meet.f k l0 a1 a2 = some r) :
  Calls Try.prog 144 #[.slice A0 l0.length c0, .int .i64 a1, .int .i64 a2] w fun e w' => e = .returned (.int .i64 r) ∧ Drawn0 w w' := by
 have HR0 := Aside0.mk hr0
 have HC0 := Aside0.mk hc0
 clear hr0 hc0
 have H : (spec_l3Meet.l0 k l0 a1 a2 0) = some r := h
 clear h
 have H' := Aside0.mk H
 clear H
 go_enter Try.func144, Try.ntmps144
 go_wp2
 go_loopg [7] k (fun kq v7 w' => ∃ (x7_1 : Int), v7 = .int .i64 x7_1 ∧ Aside0 (spec_l3Meet.l0 kq l0 a1 a2 x7_1 = some r) ∧ Aside0 (kq ≤ k) ∧ Drawn0 w w')
 case atStart => exact ⟨(0), (by first | rfl | (simp; done) | (simp [*]; done)), H', ⟨Nat.le_refl _⟩, by repeat (first | exact Drawn0.refl _ | apply Drawn0.step)⟩
 case round =>
  clear H'
  try clear c1
  try clear p2
  obtain ⟨x7_1, rfl, HA, HK1, ⟨m1, rfl⟩⟩ := hrel
  cases gk with
  | zero => exact absurd HA.out (by simp [spec_l3Meet.l0])
  | succ k1 =>
   have H := HA.out
   clear HA
   simp only [spec_l3Meet.l0] at H
   by_cases c4 : x7_1 < 91
   ·rw [if_pos c4] at H
    have c4b0 : decide (x7_1 < 91) = true := decide_eq_true c4
    clear c4
    replace H := Option.bind_eq_some_iff.mp H
    obtain ⟨t381, A50, H⟩ := H
    replace H : (if t381 = true then ((spec_l3On.f l0 x7_1 a2).bind fun t382 => (if t382 = true then (some x7_1) else (spec_l3Meet.l0 k1 l0 a1 a2 (wrap64 (x7_1 + 1))))) else (spec_l3Meet.l0 k1 l0 a1 a2 (wrap64 (x7_1 + 1)))) = some r := H
    have A5 := Aside0.mk A50
    clear A50
    by_cases c6 : t381 = true
    ·subst c6
     have H1 : ((spec_l3On.f l0 x7_1 a2).bind fun t382 => (if t382 = true then (some x7_1) else (spec_l3Meet.l0 k1 l0 a1 a2 (wrap64 (x7_1 + 1))))) = some r := by rw [if_pos rfl] at H; exact H
     clear H
     have H := H1
     clear H1
     replace H := Option.bind_eq_some_iff.mp H
     obtain ⟨t382, A70, H⟩ := H
     replace H : (if t382 = true then (some x7_1) else (spec_l3Meet.l0 k1 l0 a1 a2 (wrap64 (x7_1 + 1)))) = some r := H
     have A7 := Aside0.mk A70
     clear A70
     by_cases c8 : t382 = true
     ·subst c8
      have H1 : (some x7_1) = some r := by rw [if_pos rfl] at H; exact H
      clear H
      have H := H1
      clear H1
      obtain rfl := Option.some.inj H
      go_wp2_with (first | (refine goesL_ (some 15) rfl rfl Try.func106 (by kernel_rfl) rfl #[.slice A0 l0.length c0, .int .i64 x7_1, .int .i64 a1] rfl ll_ ?_; (with_reducible refine (spec_l3On.calls _ _ l0 x7_1 a1 true _ ?side1 ?side2 A5.out).mono ?_); (case side1 => exact ss_ HR0); (case side2 => exact HC0.out); rintro e w' ⟨rfl, ⟨nd, rfl⟩⟩; refine ⟨_, rfl, ?_⟩) | (go_at_call 106; (with_reducible refine (spec_l3On.calls _ _ l0 x7_1 a2 true _ ?side1 ?side2 A7.out).mono ?_); (case side1 => exact ss_ HR0); (case side2 => exact HC0.out); rintro e w' ⟨rfl, ⟨nd, rfl⟩⟩))
      go_ret
      exact ⟨by first | rfl | (simp; done) | (simp [*]; done), by repeat (first | exact Drawn0.refl _ | apply Drawn0.step)⟩
     ·replace c8 := Bool.eq_false_iff.mpr c8
      subst c8
      have H1 : (spec_l3Meet.l0 k1 l0 a1 a2 (wrap64 (x7_1 + 1))) = some r := by rw [if_neg (show ¬ (false = true) by decide)] at H; exact H
      clear H
      have H := H1
      clear H1
      have H' := Aside0.mk H
      clear H
      go_wp2_with (first | (refine goesL_ (some 15) rfl rfl Try.func106 (by kernel_rfl) rfl #[.slice A0 l0.length c0, .int .i64 x7_1, .int .i64 a1] rfl ll_ ?_; (with_reducible refine (spec_l3On.calls _ _ l0 x7_1 a1 true _ ?side1 ?side2 A5.out).mono ?_); (case side1 => exact ss_ HR0); (case side2 => exact HC0.out); rintro e w' ⟨rfl, ⟨nd, rfl⟩⟩; refine ⟨_, rfl, ?_⟩) | (go_at_call 106; (with_reducible refine (spec_l3On.calls _ _ l0 x7_1 a2 false _ ?side1 ?side2 A7.out).mono ?_); (case side1 => exact ss_ HR0); (case side2 => exact HC0.out); rintro e w' ⟨rfl, ⟨nd, rfl⟩⟩))
      go_roundg k1
      case measure => have := HK1.out; omega
      case rel => exact ⟨(wrap64 (x7_1 + 1)), (by first | rfl | (simp; done) | (simp [*]; done)), H', ⟨by have := HK1.out; omega⟩, by repeat (first | exact Drawn0.refl _ | apply Drawn0.step)⟩
    ·replace c6 := Bool.eq_false_iff.mpr c6
     subst c6
     have H1 : (spec_l3Meet.l0 k1 l0 a1 a2 (wrap64 (x7_1 + 1))) = some r := by rw [if_neg (show ¬ (false = true) by decide)] at H; exact H
     clear H
     have H := H1
     clear H1
     have H' := Aside0.mk H
     clear H
     go_wp2_with (first | (refine goesL_ (some 15) rfl rfl Try.func106 (by kernel_rfl) rfl #[.slice A0 l0.length c0, .int .i64 x7_1, .int .i64 a1] rfl ll_ ?_; (with_reducible refine (spec_l3On.calls _ _ l0 x7_1 a1 false _ ?side1 ?side2 A5.out).mono ?_); (case side1 => exact ss_ HR0); (case side2 => exact HC0.out); rintro e w' ⟨rfl, ⟨nd, rfl⟩⟩; refine ⟨_, rfl, ?_⟩))
     go_roundg k1
     case measure => have := HK1.out; omega
     case rel => exact ⟨(wrap64 (x7_1 + 1)), (by first | rfl | (simp; done) | (simp [*]; done)), H', ⟨by have := HK1.out; omega⟩, by repeat (first | exact Drawn0.refl _ | apply Drawn0.step)⟩
   ·rw [if_neg c4] at H
    have c4b0 : decide (x7_1 < 91) = false := decide_eq_false c4
    clear c4
    obtain rfl := Option.some.inj H
    go_wp2
    go_ret
    exact ⟨by first | rfl | (simp; done) | (simp [*]; done), by repeat (first | exact Drawn0.refl _ | apply Drawn0.step)⟩
end Go.Proofs.Ytcbkoecanldlpaa.P

namespace Go.Proofs.Ytcbkoecanldlpaa.P
open Go.RowKit Go.Proofs.YtcbkoecanldlpaaW.PrintWords Go.Proofs.YtcbkoecanldlpaaW.PrintLast
set_option linter.unusedVariables false
set_option linter.unusedSimpArgs false

def spec_l4Cross.f (k : Nat) (l0 : List Int) (a1 : Int) (a2 : Int) (a3 : Int) (a4 : Int) : Option (Int) := (spec_l3Join.f k l0 a1 a2).bind fun t383 => ((spec_l3Join.f k l0 a3 a4).bind fun t384 => ((spec_l3Meet.f k l0 t383 t384).bind fun t385 => (some t385)))
set_option maxHeartbeats 8000000 in
set_option maxRecDepth 100000 in
theorem spec_l4Cross.calls (k : Nat) (A0 : Option Addr) (c0 : Nat) (l0 : List Int) (a1 : Int) (a2 : Int) (a3 : Int) (a4 : Int) (r : Int) (w : World) (hr0 : Kd.C (Kd.int .i64) w A0 l0.length l0) (hc0 : l0.length ≤ c0) (h : spec_l4Cross.f k l0 a1 a2 a3 a4 = some r) :
  Calls Try.prog 135 #[.slice A0 l0.length c0, .int .i64 a1, .int .i64 a2, .int .i64 a3, .int .i64 a4] w fun e w' => e = .returned (.int .i64 r) ∧ Drawn0 w w' := by
 have HR0 := Aside0.mk hr0
 have HC0 := Aside0.mk hc0
 clear hr0 hc0
 have H : ((spec_l3Join.f k l0 a1 a2).bind fun t383 => ((spec_l3Join.f k l0 a3 a4).bind fun t384 => ((spec_l3Meet.f k l0 t383 t384).bind fun t385 => (some t385)))) = some r := h
 clear h
 replace H := Option.bind_eq_some_iff.mp H
 obtain ⟨t383, A60, H⟩ := H
 replace H : ((spec_l3Join.f k l0 a3 a4).bind fun t384 => ((spec_l3Meet.f k l0 t383 t384).bind fun t385 => (some t385))) = some r := H
 have A6 := Aside0.mk A60
 clear A60
 replace H := Option.bind_eq_some_iff.mp H
 obtain ⟨t384, A70, H⟩ := H
 replace H : ((spec_l3Meet.f k l0 t383 t384).bind fun t385 => (some t385)) = some r := H
 have A7 := Aside0.mk A70
 clear A70
 replace H := Option.bind_eq_some_iff.mp H
 obtain ⟨t385, A80, H⟩ := H
 replace H : (some t385) = some r := H
 have A8 := Aside0.mk A80
 clear A80
 obtain rfl := Option.some.inj H
 go_enter Try.func135, Try.ntmps135
 go_wp2_with (first | (refine goesL_ (some 15) rfl rfl Try.func66 (by kernel_rfl) rfl #[.slice A0 l0.length c0, .int .i64 a1, .int .i64 a2] rfl ll_ ?_; (with_reducible refine (spec_l3Join.calls k _ _ l0 a1 a2 t383 _ ?side1 ?side2 A6.out).mono ?_); (case side1 => exact ss_ HR0); (case side2 => exact HC0.out); rintro e w' ⟨rfl, ⟨nd, rfl⟩⟩; refine ⟨_, rfl, ?_⟩) | (refine goesL_ (some 19) rfl rfl Try.func66 (by kernel_rfl) rfl #[.slice A0 l0.length c0, .int .i64 a3, .int .i64 a4] rfl ll_ ?_; (with_reducible refine (spec_l3Join.calls k _ _ l0 a3 a4 t384 _ ?side1 ?side2 A7.out).mono ?_); (case side1 => exact ss_ HR0); (case side2 => exact HC0.out); rintro e w' ⟨rfl, ⟨nd, rfl⟩⟩; refine ⟨_, rfl, ?_⟩) | (refine goesL_ (some 20) rfl rfl Try.func144 (by kernel_rfl) rfl #[.slice A0 l0.length c0, .int .i64 t383, .int .i64 t384] rfl ll_ ?_; (with_reducible refine (spec_l3Meet.calls k _ _ l0 t383 t384 t385 _ ?side1 ?side2 A8.out).mono ?_); (case side1 => exact ss_ HR0); (case side2 => exact HC0.out); rintro e w' ⟨rfl, ⟨nd, rfl⟩⟩; refine ⟨_, rfl, ?_⟩))
 go_ret
 exact ⟨by first | rfl | (simp; done) | (simp [*]; done), by repeat (first | exact Drawn0.refl _ | apply Drawn0.step)⟩
end Go.Proofs.Ytcbkoecanldlpaa.P

namespace Go.Proofs.Ytcbkoecanldlpaa.P
open Go.RowKit Go.Proofs.YtcbkoecanldlpaaW.PrintWords Go.Proofs.YtcbkoecanldlpaaW.PrintLast
set_option linter.unusedVariables false
set_option linter.unusedSimpArgs false

def spec_l4Twin.f (k : Nat) (l0 : List Int) (l1 : List Int) : Option (List Int) := if 1 < (l1.length : Int) then (if 2 < (l1.length : Int) then (if 4 < (l1.length : Int) then (if 5 < (l1.length : Int) then ((spec_l4Cross.f k l0 (rd l1 1) (rd l1 2) (rd l1 4) (rd l1 5)).bind fun t390 => (if 3 < (l1.length : Int) then (if 6 < (l1.length : Int) then ((spec_l4Cross.f k l0 (rd l1 1) (rd l1 3) (rd l1 4) (rd l1 6)).bind fun t395 => ((spec_l4Cross.f k l0 (rd l1 2) (rd l1 3) (rd l1 5) (rd l1 6)).bind fun t400 => (some (([t390, t395, t400] : List Int))))) else (none)) else (none))) else (none)) else (none)) else (none)) else (none)
def spec_l4Twin.T1 : Bool × List (List Nat × List Nat) := (true, [([], []), ([], []), ([1], [1]), ([2], [2]), ([], []), ([4], [4]), ([5], [5]), ([], []), ([7], [7]), ([8], [8]), ([], []), ([10], [10]), ([11], [11]), ([0, 3, 6, 9, 12], [0, 3, 6, 9, 12]), ([], []), ([], []), ([15], [15]), ([16], [16]), ([], []), ([18], [18]), ([19], [19]), ([], []), ([21], [21]), ([22], [22]), ([], []), ([24], [24]), ([25], [25]), ([14, 17, 20, 23, 26, 13], [14, 17, 20, 23, 26]), ([], []), ([], []), ([29], [29]), ([30], [30]), ([], []), ([32], [32]), ([33], [33]), ([], []), ([35], [35]), ([36], [36]), ([], []), ([38], [38]), ([39], [39]), ([28, 31, 34, 37, 40, 27], [28, 31, 34, 37, 40]), ([13, 27, 41], [13, 27, 41]), ([42, 41, 0, 1, 2, 3, 4, 5, 6, 7, 8, 9, 10, 11, 12, 13, 14, 15, 16, 17, 18, 19, 20, 21, 22, 23, 24, 25, 26, 27, 28, 29, 30, 31, 32, 33, 34, 35, 36, 37, 38, 39, 40, 41, 42], [42])])
def spec_l4Twin.B1 : List Nat := [0, 0, 2, 6, 0, 16, 48, 0, 128, 384, 0, 1024, 3072, 8191, 0, 0, 32768, 98304, 0, 262144, 786432, 0, 2097152, 6291456, 0, 16777216, 50331648, 134217727, 0, 0, 536870912, 1610612736, 0, 4294967296, 12884901888, 0, 34359738368, 103079215104, 0, 274877906944, 824633720832, 2199023255551, 4398046511103, 8796093022207]
theorem spec_l4Twin.tab1 : rtab .any (opsOf Try.f72 1) = spec_l4Twin.T1 := by kernel_rfl
theorem spec_l4Twin.bits1 : waitsOk spec_l4Twin.T1.2 spec_l4Twin.B1 = true := by kernel_rfl
set_option maxHeartbeats 8000000 in
set_option maxRecDepth 100000 in
theorem spec_l4Twin.calls (k : Nat) (A0 : Option Addr) (c0 : Nat) (l0 : List Int) (A1 : Option Addr) (c1 : Nat) (l1 : List Int) (r : List Int) (w : World) (hr0 : Kd.C (Kd.int .i64) w A0 l0.length l0) (hc0 : l0.length ≤ c0) (hr1 : Kd.C (Kd.int .i64) w A1 l1.length l1) (hc1 : l1.length ≤ c1) (h : spec_l4Twin.f k l0 l1 = some r) :
  Calls Try.prog 72 #[.slice A0 l0.length c0, .slice A1 l1.length c1] w fun e w' => ∃ v0_ : Value, e = .returned (v0_) ∧ Kd.R (Kd.int .i64) 3 w' w.heap.size (fun _ => True) v0_ r ∧ Below w.heap.size w w' := by
 have HR0 := Aside0.mk hr0
 have HC0 := Aside0.mk hc0
 clear hr0 hc0
 have HR1 := Aside0.mk hr1
 have HC1 := Aside0.mk hc1
 clear hr1 hc1
 have HB := Aside0.mk (Below.refl w.heap.size w)
 have H : (if 1 < (l1.length : Int) then (if 2 < (l1.length : Int) then (if 4 < (l1.length : Int) then (if 5 < (l1.length : Int) then ((spec_l4Cross.f k l0 (rd l1 1) (rd l1 2) (rd l1 4) (rd l1 5)).bind fun t390 => (if 3 < (l1.length : Int) then (if 6 < (l1.length : Int) then ((spec_l4Cross.f k l0 (rd l1 1) (rd l1 3) (rd l1 4) (rd l1 6)).bind fun t395 => ((spec_l4Cross.f k l0 (rd l1 2) (rd l1 3) (rd l1 5) (rd l1 6)).bind fun t400 => (some (([t390, t395, t400] : List Int))))) else (none)) else (none))) else (none)) else (none)) else (none)) else (none)) = some r := h
 clear h
 by_cases c3 : 1 < (l1.length : Int)
 ·rw [if_pos c3] at H
  have c3b0 : decide (1 < (l1.length : Int)) = true := decide_eq_true c3
  have c3b1 : decide (1 < l1.length) = true := decide_eq_true (by omega)
  clear c3
  by_cases c4 : 2 < (l1.length : Int)
  ·rw [if_pos c4] at H
   have c4b0 : decide (2 < (l1.length : Int)) = true := decide_eq_true c4
   have c4b1 : decide (2 < l1.length) = true := decide_eq_true (by omega)
   clear c4
   by_cases c5 : 4 < (l1.length : Int)
   ·rw [if_pos c5] at H
    have c5b0 : decide (4 < (l1.length : Int)) = true := decide_eq_true c5
    have c5b1 : decide (4 < l1.length) = true := decide_eq_true (by omega)
    clear c5
    by_cases c6 : 5 < (l1.length : Int)
    ·rw [if_pos c6] at H
     have c6b0 : decide (5 < (l1.length : Int)) = true := decide_eq_true c6
     have c6b1 : decide (5 < l1.length) = true := decide_eq_true (by omega)
     clear c6
     replace H := Option.bind_eq_some_iff.mp H
     obtain ⟨t390, A70, H⟩ := H
     replace H : (if 3 < (l1.length : Int) then (if 6 < (l1.length : Int) then ((spec_l4Cross.f k l0 (rd l1 1) (rd l1 3) (rd l1 4) (rd l1 6)).bind fun t395 => ((spec_l4Cross.f k l0 (rd l1 2) (rd l1 3) (rd l1 5) (rd l1 6)).bind fun t400 => (some (([t390, t395, t400] : List Int))))) else (none)) else (none)) = some r := H
     have A7 := Aside0.mk A70
     clear A70
     by_cases c8 : 3 < (l1.length : Int)
     ·rw [if_pos c8] at H
      have c8b0 : decide (3 < (l1.length : Int)) = true := decide_eq_true c8
      have c8b1 : decide (3 < l1.length) = true := decide_eq_true (by omega)
      clear c8
      by_cases c9 : 6 < (l1.length : Int)
      ·rw [if_pos c9] at H
       have c9b0 : decide (6 < (l1.length : Int)) = true := decide_eq_true c9
       have c9b1 : decide (6 < l1.length) = true := decide_eq_true (by omega)
       clear c9
       replace H := Option.bind_eq_some_iff.mp H
       obtain ⟨t395, A100, H⟩ := H
       replace H : ((spec_l4Cross.f k l0 (rd l1 2) (rd l1 3) (rd l1 5) (rd l1 6)).bind fun t400 => (some (([t390, t395, t400] : List Int)))) = some r := H
       have A10 := Aside0.mk A100
       clear A100
       replace H := Option.bind_eq_some_iff.mp H
       obtain ⟨t400, A110, H⟩ := H
       replace H : (some (([t390, t395, t400] : List Int))) = some r := H
       have A11 := Aside0.mk A110
       clear A110
       obtain ⟨y401, hy401⟩ : ∃ y_ : List Int, y_ = (([t390, t395, t400] : List Int)) := ⟨_, rfl⟩
       replace H : (some y401) = some r := by first | (rw [hy401]; with_reducible exact H) | (have H2_ := (Option.bind_some _ _).symm.trans H; rw [hy401]; with_reducible exact H2_) | (have H2_ := (Option.bind_some _ _).symm.trans H; with_reducible exact H2_) | with_reducible exact H | (rw [hy401]; exact H) | exact H
       have Ny401 := Aside0.mk hy401
       clear hy401
       obtain rfl := Option.some.inj H
       go_enter Try.func72, Try.ntmps72
       try go_wp2
       have n0_ := Aside0.mk (below_drew1 HB.out)
       clear HB
       have HB := n0_
       clear n0_
       have p386 : 0 ≤ (1 : Int) := (by omega)
       have q386 : 1 < (l1.length : Int) := dd_
       obtain ⟨ad386, e386, hx386_0⟩ := Kd.at_int HR1.out 1 p386 q386
       have hw386_0 := hx386_0
       (try rw [show ((1 : Int)).toNat = 1 from rfl] at hw386_0)
       (try rw [show 1 * 1 = 1 from rfl] at hw386_0)
       (try simp only [Nat.reduceMul, Nat.reduceEqDiff, Go.Addr.add, ↓reduceIte] at hw386_0)
       cases e386
       (try simp only [show (1 : Int).toNat = 1 from rfl, Nat.reduceMul, Nat.reduceEqDiff, Go.Addr.add, ↓reduceIte] at hx386_0)
       have qi386 : (1 < l1.length) = True := eq_true (by omega)
       (try rw [show ((1 : Int)).toNat = 1 from rfl] at hx386_0)
       replace hx386_0 := hc_ HB hx386_0
       replace p386 := eq_true p386
       replace q386 := eq_true q386
       have p387 : 0 ≤ (2 : Int) := (by omega)
       have q387 : 2 < (l1.length : Int) := dd_
       obtain ⟨ad387, e387, hx387_0⟩ := Kd.at_int HR1.out 2 p387 q387
       have hw387_0 := hx387_0
       (try rw [show ((2 : Int)).toNat = 2 from rfl] at hw387_0)
       (try rw [show 2 * 1 = 2 from rfl] at hw387_0)
       (try simp only [Nat.reduceMul, Nat.reduceEqDiff, Go.Addr.add, ↓reduceIte] at hw387_0)
       obtain rfl : ad386 = ad387 := (by injection e387)
       (try simp only [show (2 : Int).toNat = 2 from rfl, Nat.reduceMul, Nat.reduceEqDiff, Go.Addr.add, ↓reduceIte] at hx387_0)
       have qi387 : (2 < l1.length) = True := eq_true (by omega)
       (try rw [show ((2 : Int)).toNat = 2 from rfl] at hx387_0)
       replace hx387_0 := hc_ HB hx387_0
       replace p387 := eq_true p387
       replace q387 := eq_true q387
       have p388 : 0 ≤ (4 : Int) := (by omega)
       have q388 : 4 < (l1.length : Int) := dd_
       obtain ⟨ad388, e388, hx388_0⟩ := Kd.at_int HR1.out 4 p388 q388
       have hw388_0 := hx388_0
       (try rw [show ((4 : Int)).toNat = 4 from rfl] at hw388_0)
       (try rw [show 4 * 1 = 4 from rfl] at hw388_0)
       (try simp only [Nat.reduceMul, Nat.reduceEqDiff, Go.Addr.add, ↓reduceIte] at hw388_0)
       obtain rfl : ad386 = ad388 := (by injection e388)
       (try simp only [show (4 : Int).toNat = 4 from rfl, Nat.reduceMul, Nat.reduceEqDiff, Go.Addr.add, ↓reduceIte] at hx388_0)
       have qi388 : (4 < l1.length) = True := eq_true (by omega)
       (try rw [show ((4 : Int)).toNat = 4 from rfl] at hx388_0)
       replace hx388_0 := hc_ HB hx388_0
       replace p388 := eq_true p388
       replace q388 := eq_true q388
       have p389 : 0 ≤ (5 : Int) := (by omega)
       have q389 : 5 < (l1.length : Int) := dd_
       obtain ⟨ad389, e389, hx389_0⟩ := Kd.at_int HR1.out 5 p389 q389
       have hw389_0 := hx389_0
       (try rw [show ((5 : Int)).toNat = 5 from rfl] at hw389_0)
       (try rw [show 5 * 1 = 5 from rfl] at hw389_0)
       (try simp only [Nat.reduceMul, Nat.reduceEqDiff, Go.Addr.add, ↓reduceIte] at hw389_0)
       obtain rfl : ad386 = ad389 := (by injection e389)
       (try simp only [show (5 : Int).toNat = 5 from rfl, Nat.reduceMul, Nat.reduceEqDiff, Go.Addr.add, ↓reduceIte] at hx389_0)
       have qi389 : (5 < l1.length) = True := eq_true (by omega)
       (try rw [show ((5 : Int)).toNat = 5 from rfl] at hx389_0)
       replace hx389_0 := hc_ HB hx389_0
       replace p389 := eq_true p389
       replace q389 := eq_true q389
       have p391 : 0 ≤ (1 : Int) := (by omega)
       have q391 : 1 < (l1.length : Int) := dd_
       obtain ⟨ad391, e391, hx391_0⟩ := Kd.at_int HR1.out 1 p391 q391
       have hw391_0 := hx391_0
       (try rw [show ((1 : Int)).toNat = 1 from rfl] at hw391_0)
       (try rw [show 1 * 1 = 1 from rfl] at hw391_0)
       (try simp only [Nat.reduceMul, Nat.reduceEqDiff, Go.Addr.add, ↓reduceIte] at hw391_0)
       obtain rfl : ad386 = ad391 := (by injection e391)
       (try simp only [show (1 : Int).toNat = 1 from rfl, Nat.reduceMul, Nat.reduceEqDiff, Go.Addr.add, ↓reduceIte] at hx391_0)
       have qi391 : (1 < l1.length) = True := eq_true (by omega)
       (try rw [show ((1 : Int)).toNat = 1 from rfl] at hx391_0)
       replace hx391_0 := hc_ HB hx391_0
       replace p391 := eq_true p391
       replace q391 := eq_true q391
       have p392 : 0 ≤ (3 : Int) := (by omega)
       have q392 : 3 < (l1.length : Int) := dd_
       obtain ⟨ad392, e392, hx392_0⟩ := Kd.at_int HR1.out 3 p392 q392
       have hw392_0 := hx392_0
       (try rw [show ((3 : Int)).toNat = 3 from rfl] at hw392_0)
       (try rw [show 3 * 1 = 3 from rfl] at hw392_0)
       (try simp only [Nat.reduceMul, Nat.reduceEqDiff, Go.Addr.add, ↓reduceIte] at hw392_0)
       obtain rfl : ad386 = ad392 := (by injection e392)
       (try simp only [show (3 : Int).toNat = 3 from rfl, Nat.reduceMul, Nat.reduceEqDiff, Go.Addr.add, ↓reduceIte] at hx392_0)
       have qi392 : (3 < l1.length) = True := eq_true (by omega)
       (try rw [show ((3 : Int)).toNat = 3 from rfl] at hx392_0)
       replace hx392_0 := hc_ HB hx392_0
       replace p392 := eq_true p392
       replace q392 := eq_true q392
       have p393 : 0 ≤ (4 : Int) := (by omega)
       have q393 : 4 < (l1.length : Int) := dd_
       obtain ⟨ad393, e393, hx393_0⟩ := Kd.at_int HR1.out 4 p393 q393
       have hw393_0 := hx393_0
       (try rw [show ((4 : Int)).toNat = 4 from rfl] at hw393_0)
       (try rw [show 4 * 1 = 4 from rfl] at hw393_0)
       (try simp only [Nat.reduceMul, Nat.reduceEqDiff, Go.Addr.add, ↓reduceIte] at hw393_0)
       obtain rfl : ad386 = ad393 := (by injection e393)
       (try simp only [show (4 : Int).toNat = 4 from rfl, Nat.reduceMul, Nat.reduceEqDiff, Go.Addr.add, ↓reduceIte] at hx393_0)
       have qi393 : (4 < l1.length) = True := eq_true (by omega)
       (try rw [show ((4 : Int)).toNat = 4 from rfl] at hx393_0)
       replace hx393_0 := hc_ HB hx393_0
       replace p393 := eq_true p393
       replace q393 := eq_true q393
       have p394 : 0 ≤ (6 : Int) := (by omega)
       have q394 : 6 < (l1.length : Int) := dd_
       obtain ⟨ad394, e394, hx394_0⟩ := Kd.at_int HR1.out 6 p394 q394
       have hw394_0 := hx394_0
       (try rw [show ((6 : Int)).toNat = 6 from rfl] at hw394_0)
       (try rw [show 6 * 1 = 6 from rfl] at hw394_0)
       (try simp only [Nat.reduceMul, Nat.reduceEqDiff, Go.Addr.add, ↓reduceIte] at hw394_0)
       obtain rfl : ad386 = ad394 := (by injection e394)
       (try simp only [show (6 : Int).toNat = 6 from rfl, Nat.reduceMul, Nat.reduceEqDiff, Go.Addr.add, ↓reduceIte] at hx394_0)
       have qi394 : (6 < l1.length) = True := eq_true (by omega)
       (try rw [show ((6 : Int)).toNat = 6 from rfl] at hx394_0)
       replace hx394_0 := hc_ HB hx394_0
       replace p394 := eq_true p394
       replace q394 := eq_true q394
       have p396 : 0 ≤ (2 : Int) := (by omega)
       have q396 : 2 < (l1.length : Int) := dd_
       obtain ⟨ad396, e396, hx396_0⟩ := Kd.at_int HR1.out 2 p396 q396
       have hw396_0 := hx396_0
       (try rw [show ((2 : Int)).toNat = 2 from rfl] at hw396_0)
       (try rw [show 2 * 1 = 2 from rfl] at hw396_0)
       (try simp only [Nat.reduceMul, Nat.reduceEqDiff, Go.Addr.add, ↓reduceIte] at hw396_0)
       obtain rfl : ad386 = ad396 := (by injection e396)
       (try simp only [show (2 : Int).toNat = 2 from rfl, Nat.reduceMul, Nat.reduceEqDiff, Go.Addr.add, ↓reduceIte] at hx396_0)
       have qi396 : (2 < l1.length) = True := eq_true (by omega)
       (try rw [show ((2 : Int)).toNat = 2 from rfl] at hx396_0)
       replace hx396_0 := hc_ HB hx396_0
       replace p396 := eq_true p396
       replace q396 := eq_true q396
       have p397 : 0 ≤ (3 : Int) := (by omega)
       have q397 : 3 < (l1.length : Int) := dd_
       obtain ⟨ad397, e397, hx397_0⟩ := Kd.at_int HR1.out 3 p397 q397
       have hw397_0 := hx397_0
       (try rw [show ((3 : Int)).toNat = 3 from rfl] at hw397_0)
       (try rw [show 3 * 1 = 3 from rfl] at hw397_0)
       (try simp only [Nat.reduceMul, Nat.reduceEqDiff, Go.Addr.add, ↓reduceIte] at hw397_0)
       obtain rfl : ad386 = ad397 := (by injection e397)
       (try simp only [show (3 : Int).toNat = 3 from rfl, Nat.reduceMul, Nat.reduceEqDiff, Go.Addr.add, ↓reduceIte] at hx397_0)
       have qi397 : (3 < l1.length) = True := eq_true (by omega)
       (try rw [show ((3 : Int)).toNat = 3 from rfl] at hx397_0)
       replace hx397_0 := hc_ HB hx397_0
       replace p397 := eq_true p397
       replace q397 := eq_true q397
       have p398 : 0 ≤ (5 : Int) := (by omega)
       have q398 : 5 < (l1.length : Int) := dd_
       obtain ⟨ad398, e398, hx398_0⟩ := Kd.at_int HR1.out 5 p398 q398
       have hw398_0 := hx398_0
       (try rw [show ((5 : Int)).toNat = 5 from rfl] at hw398_0)
       (try rw [show 5 * 1 = 5 from rfl] at hw398_0)
       (try simp only [Nat.reduceMul, Nat.reduceEqDiff, Go.Addr.add, ↓reduceIte] at hw398_0)
       obtain rfl : ad386 = ad398 := (by injection e398)
       (try simp only [show (5 : Int).toNat = 5 from rfl, Nat.reduceMul, Nat.reduceEqDiff, Go.Addr.add, ↓reduceIte] at hx398_0)
       have qi398 : (5 < l1.length) = True := eq_true (by omega)
       (try rw [show ((5 : Int)).toNat = 5 from rfl] at hx398_0)
       replace hx398_0 := hc_ HB hx398_0
       replace p398 := eq_true p398
       replace q398 := eq_true q398
       have p399 : 0 ≤ (6 : Int) := (by omega)
       have q399 : 6 < (l1.length : Int) := dd_
       obtain ⟨ad399, e399, hx399_0⟩ := Kd.at_int HR1.out 6 p399 q399
       have hw399_0 := hx399_0
       (try rw [show ((6 : Int)).toNat = 6 from rfl] at hw399_0)
       (try rw [show 6 * 1 = 6 from rfl] at hw399_0)
       (try simp only [Nat.reduceMul, Nat.reduceEqDiff, Go.Addr.add, ↓reduceIte] at hw399_0)
       obtain rfl : ad386 = ad399 := (by injection e399)
       (try simp only [show (6 : Int).toNat = 6 from rfl, Nat.reduceMul, Nat.reduceEqDiff, Go.Addr.add, ↓reduceIte] at hx399_0)
       have qi399 : (6 < l1.length) = True := eq_true (by omega)
       (try rw [show ((6 : Int)).toNat = 6 from rfl] at hx399_0)
       replace hx399_0 := hc_ HB hx399_0
       replace p399 := eq_true p399
       replace q399 := eq_true q399
       refine start_ (n := 44) (S := fun w' => w'.cell? ⟨ad386.block, ad386.off + 1, none⟩ = some (.int .i64 (rd l1 1)) ∧ w'.cell? ⟨ad386.block, ad386.off + 2, none⟩ = some (.int .i64 (rd l1 2)) ∧ w'.cell? ⟨ad386.block, ad386.off + 4, none⟩ = some (.int .i64 (rd l1 4)) ∧ w'.cell? ⟨ad386.block, ad386.off + 5, none⟩ = some (.int .i64 (rd l1 5)) ∧ w'.cell? ⟨ad386.block, ad386.off + 1, none⟩ = some (.int .i64 (rd l1 1)) ∧ w'.cell? ⟨ad386.block, ad386.off + 3, none⟩ = some (.int .i64 (rd l1 3)) ∧ w'.cell? ⟨ad386.block, ad386.off + 4, none⟩ = some (.int .i64 (rd l1 4)) ∧ w'.cell? ⟨ad386.block, ad386.off + 6, none⟩ = some (.int .i64 (rd l1 6)) ∧ w'.cell? ⟨ad386.block, ad386.off + 2, none⟩ = some (.int .i64 (rd l1 2)) ∧ w'.cell? ⟨ad386.block, ad386.off + 3, none⟩ = some (.int .i64 (rd l1 3)) ∧ w'.cell? ⟨ad386.block, ad386.off + 5, none⟩ = some (.int .i64 (rd l1 5)) ∧ w'.cell? ⟨ad386.block, ad386.off + 6, none⟩ = some (.int .i64 (rd l1 6))) (ds := []) #[F_,F_,F_,F_,F_,F_,F_,F_,F_,F_,F_,F_,F_,F_,F_,F_,F_,F_,F_,F_,F_,F_,F_,F_,F_,F_,F_,F_,F_,F_,F_,F_,F_,F_,F_,F_,F_,F_,F_,F_,F_,F_,F_,F_] (by kernel_rfl) rfl rfl ⟨(hc_ HB hw386_0), (hc_ HB hw387_0), (hc_ HB hw388_0), (hc_ HB hw389_0), (hc_ HB hw391_0), (hc_ HB hw392_0), (hc_ HB hw393_0), (hc_ HB hw394_0), (hc_ HB hw396_0), (hc_ HB hw397_0), (hc_ HB hw398_0), (hc_ HB hw399_0)⟩ (fun hHeld => ?_); refine with_tabW spec_l4Twin.tab1 spec_l4Twin.bits1 (fun HT_ HW_ => ?_)
       generalize w.drew = w12 at HB hx386_0 hx387_0 hx388_0 hx389_0 hx391_0 hx392_0 hx393_0 hx394_0 hx396_0 hx397_0 hx398_0 hx399_0 hHeld ⊢
       refine p_ 0 5 (m_ 44 1) HT_.out ?_
       refine p_ 1 6 (m_ 44 3) HT_.out ?_
       refine p_ 2 7 (m_ 44 7) HT_.out ?_
       refine p_ 4 9 (m_ 44 23) HT_.out ?_
       refine p_ 5 10 (m_ 44 55) HT_.out ?_
       refine p_ 7 12 (m_ 44 183) HT_.out ?_
       refine p_ 8 13 (m_ 44 439) HT_.out ?_
       refine p_ 10 15 (m_ 44 1463) HT_.out ?_
       refine p_ 11 16 (m_ 44 3511) HT_.out ?_
       refine p_ 14 19 (m_ 44 19895) HT_.out ?_
       refine p_ 15 20 (m_ 44 52663) HT_.out ?_
       refine p_ 16 21 (m_ 44 118199) HT_.out ?_
       refine p_ 18 23 (m_ 44 380343) HT_.out ?_
       refine p_ 19 24 (m_ 44 904631) HT_.out ?_
       refine p_ 21 26 (m_ 44 3001783) HT_.out ?_
       refine p_ 22 27 (m_ 44 7196087) HT_.out ?_
       refine p_ 24 29 (m_ 44 23973303) HT_.out ?_
       refine p_ 25 30 (m_ 44 57527735) HT_.out ?_
       refine p_ 28 33 (m_ 44 325963191) HT_.out ?_
       refine p_ 29 34 (m_ 44 862834103) HT_.out ?_
       refine p_ 30 35 (m_ 44 1936575927) HT_.out ?_
       refine p_ 32 37 (m_ 44 6231543223) HT_.out ?_
       refine p_ 33 38 (m_ 44 14821477815) HT_.out ?_
       refine p_ 35 40 (m_ 44 49181216183) HT_.out ?_
       refine p_ 36 41 (m_ 44 117900692919) HT_.out ?_
       refine p_ 38 43 (m_ 44 392778599863) HT_.out ?_
       refine p_ 39 44 (m_ 44 942534413751) HT_.out ?_
       refine take_ (i := 3) (N := some 8) (v := ?_) (a' := ?_) (m_ 44 942534413759) rfl rfl (take_ofW HT_.out HW_.out (by kernel_rfl)) (fun _ _ _ h => h) (Or.inl ⟨by rfl, ?_⟩) hHeld ?_ ?_; rotate_left; (rintro w' ⟨s0, s1, s2, s3, s4, s5, s6, s7, s8, s9, s10, s11⟩; go_simp; with_reducible rfl); rotate_left; (simp only [Act.put, List.setIfInBounds_toArray, List.set_cons_zero, List.set_cons_succ, i64_w, i32_w]; rfl)
       refine take_ (i := 6) (N := some 11) (v := ?_) (a' := ?_) (m_ 44 942534413823) rfl rfl (take_ofW HT_.out HW_.out (by kernel_rfl)) (fun _ _ _ h => h) (Or.inl ⟨by rfl, ?_⟩) hHeld ?_ ?_; rotate_left; (rintro w' ⟨s0, s1, s2, s3, s4, s5, s6, s7, s8, s9, s10, s11⟩; go_simp; with_reducible rfl); rotate_left; (simp only [Act.put, List.setIfInBounds_toArray, List.set_cons_zero, List.set_cons_succ, i64_w, i32_w]; rfl)
       refine take_ (i := 9) (N := some 14) (v := ?_) (a' := ?_) (m_ 44 942534414335) rfl rfl (take_ofW HT_.out HW_.out (by kernel_rfl)) (fun _ _ _ h => h) (Or.inl ⟨by rfl, ?_⟩) hHeld ?_ ?_; rotate_left; (rintro w' ⟨s0, s1, s2, s3, s4, s5, s6, s7, s8, s9, s10, s11⟩; go_simp; with_reducible rfl); rotate_left; (simp only [Act.put, List.setIfInBounds_toArray, List.set_cons_zero, List.set_cons_succ, i64_w, i32_w]; rfl)
       refine take_ (i := 12) (N := some 17) (v := ?_) (a' := ?_) (m_ 44 942534418431) rfl rfl (take_ofW HT_.out HW_.out (by kernel_rfl)) (fun _ _ _ h => h) (Or.inl ⟨by rfl, ?_⟩) hHeld ?_ ?_; rotate_left; (rintro w' ⟨s0, s1, s2, s3, s4, s5, s6, s7, s8, s9, s10, s11⟩; go_simp; with_reducible rfl); rotate_left; (simp only [Act.put, List.setIfInBounds_toArray, List.set_cons_zero, List.set_cons_succ, i64_w, i32_w]; rfl)
       refine take_ (i := 17) (N := some 22) (v := ?_) (a' := ?_) (m_ 44 942534549503) rfl rfl (take_ofW HT_.out HW_.out (by kernel_rfl)) (fun _ _ _ h => h) (Or.inl ⟨by rfl, ?_⟩) hHeld ?_ ?_; rotate_left; (rintro w' ⟨s0, s1, s2, s3, s4, s5, s6, s7, s8, s9, s10, s11⟩; go_simp; with_reducible rfl); rotate_left; (simp only [Act.put, List.setIfInBounds_toArray, List.set_cons_zero, List.set_cons_succ, i64_w, i32_w]; rfl)
       refine take_ (i := 20) (N := some 25) (v := ?_) (a' := ?_) (m_ 44 942535598079) rfl rfl (take_ofW HT_.out HW_.out (by kernel_rfl)) (fun _ _ _ h => h) (Or.inl ⟨by rfl, ?_⟩) hHeld ?_ ?_; rotate_left; (rintro w' ⟨s0, s1, s2, s3, s4, s5, s6, s7, s8, s9, s10, s11⟩; go_simp; with_reducible rfl); rotate_left; (simp only [Act.put, List.setIfInBounds_toArray, List.set_cons_zero, List.set_cons_succ, i64_w, i32_w]; rfl)
       refine take_ (i := 23) (N := some 28) (v := ?_) (a' := ?_) (m_ 44 942543986687) rfl rfl (take_ofW HT_.out HW_.out (by kernel_rfl)) (fun _ _ _ h => h) (Or.inl ⟨by rfl, ?_⟩) hHeld ?_ ?_; rotate_left; (rintro w' ⟨s0, s1, s2, s3, s4, s5, s6, s7, s8, s9, s10, s11⟩; go_simp; with_reducible rfl); rotate_left; (simp only [Act.put, List.setIfInBounds_toArray, List.set_cons_zero, List.set_cons_succ, i64_w, i32_w]; rfl)
       refine take_ (i := 26) (N := some 31) (v := ?_) (a' := ?_) (m_ 44 942611095551) rfl rfl (take_ofW HT_.out HW_.out (by kernel_rfl)) (fun _ _ _ h => h) (Or.inl ⟨by rfl, ?_⟩) hHeld ?_ ?_; rotate_left; (rintro w' ⟨s0, s1, s2, s3, s4, s5, s6, s7, s8, s9, s10, s11⟩; go_simp; with_reducible rfl); rotate_left; (simp only [Act.put, List.setIfInBounds_toArray, List.set_cons_zero, List.set_cons_succ, i64_w, i32_w]; rfl)
       refine take_ (i := 31) (N := some 36) (v := ?_) (a' := ?_) (m_ 44 944758579199) rfl rfl (take_ofW HT_.out HW_.out (by kernel_rfl)) (fun _ _ _ h => h) (Or.inl ⟨by rfl, ?_⟩) hHeld ?_ ?_; rotate_left; (rintro w' ⟨s0, s1, s2, s3, s4, s5, s6, s7, s8, s9, s10, s11⟩; go_simp; with_reducible rfl); rotate_left; (simp only [Act.put, List.setIfInBounds_toArray, List.set_cons_zero, List.set_cons_succ, i64_w, i32_w]; rfl)
       refine take_ (i := 34) (N := some 39) (v := ?_) (a' := ?_) (m_ 44 961938448383) rfl rfl (take_ofW HT_.out HW_.out (by kernel_rfl)) (fun _ _ _ h => h) (Or.inl ⟨by rfl, ?_⟩) hHeld ?_ ?_; rotate_left; (rintro w' ⟨s0, s1, s2, s3, s4, s5, s6, s7, s8, s9, s10, s11⟩; go_simp; with_reducible rfl); rotate_left; (simp only [Act.put, List.setIfInBounds_toArray, List.set_cons_zero, List.set_cons_succ, i64_w, i32_w]; rfl)
       refine take_ (i := 37) (N := some 42) (v := ?_) (a' := ?_) (m_ 44 1099377401855) rfl rfl (take_ofW HT_.out HW_.out (by kernel_rfl)) (fun _ _ _ h => h) (Or.inl ⟨by rfl, ?_⟩) hHeld ?_ ?_; rotate_left; (rintro w' ⟨s0, s1, s2, s3, s4, s5, s6, s7, s8, s9, s10, s11⟩; go_simp; with_reducible rfl); rotate_left; (simp only [Act.put, List.setIfInBounds_toArray, List.set_cons_zero, List.set_cons_succ, i64_w, i32_w]; rfl)
       refine take_ (i := 40) (N := some 45) (v := ?_) (a' := ?_) (m_ 44 2198889029631) rfl rfl (take_ofW HT_.out HW_.out (by kernel_rfl)) (fun _ _ _ h => h) (Or.inl ⟨by rfl, ?_⟩) hHeld ?_ ?_; rotate_left; (rintro w' ⟨s0, s1, s2, s3, s4, s5, s6, s7, s8, s9, s10, s11⟩; go_simp; with_reducible rfl); rotate_left; (simp only [Act.put, List.setIfInBounds_toArray, List.set_cons_zero, List.set_cons_succ, i64_w, i32_w]; rfl)
       refine one_ (i := 13) (N := some 18) (m_ 44 2198889037823) rfl rfl (one_of HT_.out (by kernel_rfl)) (by decide) (fun K hK => ?_)
       refine goes_ Try.func135 (by kernel_rfl) rfl #[.slice A0 l0.length c0, .int .i64 (rd l1 1), .int .i64 (rd l1 2), .int .i64 (rd l1 4), .int .i64 (rd l1 5)] (by rfl) rfl rfl ll_ ?_
       with_reducible refine (spec_l4Cross.calls k _ _ l0 (rd l1 1) (rd l1 2) (rd l1 4) (rd l1 5) t390 _ ?side1 ?side2 A7.out).mono ?_
       (case side1 => exact sb_ HR0 HB)
       (case side2 => exact HC0.out)
       rintro e w' ⟨rfl, ⟨nd, rfl⟩⟩
       refine ⟨_, rfl, ?_⟩
       refine hK.out _ _ ⟨(hc_ HB hw386_0), (hc_ HB hw387_0), (hc_ HB hw388_0), (hc_ HB hw389_0), (hc_ HB hw391_0), (hc_ HB hw392_0), (hc_ HB hw393_0), (hc_ HB hw394_0), (hc_ HB hw396_0), (hc_ HB hw397_0), (hc_ HB hw398_0), (hc_ HB hw399_0)⟩ (fun hHeld => ?_)
       clear hK K
       refine norm_ (a' := ?_) ?_ ?_; rotate_left; (show Act.put _ (some 18) _ = _; simp only [Act.put, List.setIfInBounds_toArray, List.set_cons_zero, List.set_cons_succ, i64_w, i32_w]; rfl)
       refine one_ (i := 27) (N := some 32) (m_ 44 2199023255551) rfl rfl (one_of HT_.out (by kernel_rfl)) (by decide) (fun K hK => ?_)
       refine goes_ Try.func135 (by kernel_rfl) rfl #[.slice A0 l0.length c0, .int .i64 (rd l1 1), .int .i64 (rd l1 3), .int .i64 (rd l1 4), .int .i64 (rd l1 6)] (by rfl) rfl rfl ll_ ?_
       with_reducible refine (spec_l4Cross.calls k _ _ l0 (rd l1 1) (rd l1 3) (rd l1 4) (rd l1 6) t395 _ ?side1 ?side2 A10.out).mono ?_
       (case side1 => repeat (first | exact (Kd.C_below HR0.out (bb_ HB)) | (with_reducible refine Kd.C_alloc ?_ _) | (with_reducible refine Kd.C_drewN ?_ _) | (with_reducible refine Kd.C_drew ?_)))
       (case side2 => exact HC0.out)
       rintro e w' ⟨rfl, ⟨nd, rfl⟩⟩
       refine ⟨_, rfl, ?_⟩
       refine hK.out _ _ ⟨(hc_ HB hw386_0), (hc_ HB hw387_0), (hc_ HB hw388_0), (hc_ HB hw389_0), (hc_ HB hw391_0), (hc_ HB hw392_0), (hc_ HB hw393_0), (hc_ HB hw394_0), (hc_ HB hw396_0), (hc_ HB hw397_0), (hc_ HB hw398_0), (hc_ HB hw399_0)⟩ (fun hHeld => ?_)
       clear hK K
       refine norm_ (a' := ?_) ?_ ?_; rotate_left; (show Act.put _ (some 32) _ = _; simp only [Act.put, List.setIfInBounds_toArray, List.set_cons_zero, List.set_cons_succ, i64_w, i32_w]; rfl)
       refine one_ (i := 41) (N := some 46) (m_ 44 4398046511103) rfl rfl (one_of HT_.out (by kernel_rfl)) (by decide) (fun K hK => ?_)
       refine goes_ Try.func135 (by kernel_rfl) rfl #[.slice A0 l0.length c0, .int .i64 (rd l1 2), .int .i64 (rd l1 3), .int .i64 (rd l1 5), .int .i64 (rd l1 6)] (by rfl) rfl rfl ll_ ?_
       with_reducible refine (spec_l4Cross.calls k _ _ l0 (rd l1 2) (rd l1 3) (rd l1 5) (rd l1 6) t400 _ ?side1 ?side2 A11.out).mono ?_
       (case side1 => repeat (first | exact (Kd.C_below HR0.out (bb_ HB)) | (with_reducible refine Kd.C_alloc ?_ _) | (with_reducible refine Kd.C_drewN ?_ _) | (with_reducible refine Kd.C_drew ?_)))
       (case side2 => exact HC0.out)
       rintro e w' ⟨rfl, ⟨nd, rfl⟩⟩
       refine ⟨_, rfl, ?_⟩
       refine hK.out _ _ ⟨(hc_ HB hw386_0), (hc_ HB hw387_0), (hc_ HB hw388_0), (hc_ HB hw389_0), (hc_ HB hw391_0), (hc_ HB hw392_0), (hc_ HB hw393_0), (hc_ HB hw394_0), (hc_ HB hw396_0), (hc_ HB hw397_0), (hc_ HB hw398_0), (hc_ HB hw399_0)⟩ (fun hHeld => ?_)
       clear hK K
       refine norm_ (a' := ?_) ?_ ?_; rotate_left; (show Act.put _ (some 46) _ = _; simp only [Act.put, List.setIfInBounds_toArray, List.set_cons_zero, List.set_cons_succ, i64_w, i32_w]; rfl)
       refine one_ (i := 42) (N := some 47) (m_ 44 8796093022207) rfl rfl (one_of HT_.out (by kernel_rfl)) (by decide) (fun K hK => ?_)
       refine Kd.R_lit_step (Kd.int .i64) _ 3 ?hg (N := 47) ?hd (xs := ([t390, t395, t400] : List Int)) (inner := [.int .i64 t390, .int .i64 t395, .int .i64 t400]) (ok := fun _ => True) (okp := fun _ => True) ?hr ?hp (fun _ hk => hk) trivial (Below.refl _ _) (Nat.le_refl _) (by simp) ?_; (case hd => rfl); (case hg => rfl); (case hr => first | (go_simp; done) | (go_simp; rfl)); (case hp => exact (Reps.one (show Kd.M (Kd.int .i64) _ _ _ t390 [.int .i64 t390] from rfl) (Reps.one (show Kd.M (Kd.int .i64) _ _ _ t395 [.int .i64 t395] from rfl) (Reps.one (show Kd.M (Kd.int .i64) _ _ _ t400 [.int .i64 t400] from rfl) (Reps.none _ _)))))
       intro v402 w13 ho14 hb hg_ hnew_
       clear hg_ hnew_
       (first | rw [← Ny401.out] at ho14 | (simp only [Int.reduceToNat] at ho14; rw [← Ny401.out] at ho14))
       have n0_ := Aside0.mk (Kd.R_lower ho14 (below_size (bb_ HB)))
       have n1_ := Aside0.mk (below_step (bb_ HB) hb)
       clear HB
       have HO403 := n0_
       have HB := n1_
       clear n0_ n1_
       clear hb ho14
       refine hK.out _ _ ⟨(hc_ HB hw386_0), (hc_ HB hw387_0), (hc_ HB hw388_0), (hc_ HB hw389_0), (hc_ HB hw391_0), (hc_ HB hw392_0), (hc_ HB hw393_0), (hc_ HB hw394_0), (hc_ HB hw396_0), (hc_ HB hw397_0), (hc_ HB hw398_0), (hc_ HB hw399_0)⟩ (fun hHeld => ?_)
       clear hK K
       refine norm_ (a' := ?_) ?_ ?_; rotate_left; (show Act.put _ (some 47) _ = _; simp only [Act.put, List.setIfInBounds_toArray, List.set_cons_zero, List.set_cons_succ, i64_w, i32_w]; rfl)
       refine p_ 43 4 (m_ 44 17592186044415) HT_.out ?_
       refine done_ (done_of HT_.out (by kernel_rfl)) ?_
       try go_wp2
       go_ret
       exact ⟨_, ee_, by (with_reducible repeat (first | apply Kd.R_alloc | apply Kd.R_drewN | apply Kd.R_drew)); exact HO403.out, bb_ HB⟩
      ·rw [if_neg c9] at H
       exact absurd H (by simp)
     ·rw [if_neg c8] at H
      exact absurd H (by simp)
    ·rw [if_neg c6] at H
     exact absurd H (by simp)
   ·rw [if_neg c5] at H
    exact absurd H (by simp)
  ·rw [if_neg c4] at H
   exact absurd H (by simp)
 ·rw [if_neg c3] at H
  exact absurd H (by simp)
end Go.Proofs.Ytcbkoecanldlpaa.P

namespace Go.Proofs.Ytcbkoecanldlpaa.P
open Go.RowKit Go.Proofs.YtcbkoecanldlpaaW.PrintWords Go.Proofs.YtcbkoecanldlpaaW.PrintLast
set_option linter.unusedVariables false
set_option linter.unusedSimpArgs false

def spec_TwinPoints.f (k : Nat) (l0 : List Int) (l1 : List Int) : Option (List Int × Bool) := (spec_TwinIn.f k l0 l1).bind fun t404 => (if t404 = true then ((spec_l4Twin.f k l0 l1).bind fun t405 => (some (t405, true))) else (some ((([] : List Int)), false)))
set_option maxHeartbeats 8000000 in
set_option maxRecDepth 100000 in
theorem spec_TwinPoints.calls (k : Nat) (A0 : Option Addr) (c0 : Nat) (l0 : List Int) (A1 : Option Addr) (c1 : Nat) (l1 : List Int) (r1 : List Int) (r2 : Bool) (w : World) (hr0 : Kd.C (Kd.int .i64) w A0 l0.length l0) (hc0 : l0.length ≤ c0) (hr1 : Kd.C (Kd.int .i64) w A1 l1.length l1) (hc1 : l1.length ≤ c1) (h : spec_TwinPoints.f k l0 l1 = some (r1, r2)) :
  Calls Try.prog 24 #[.slice A0 l0.length c0, .slice A1 l1.length c1] w fun e w' => ∃ v0_ : Value, e = .returned (.tuple #[v0_, .bool r2]) ∧ Kd.R (Kd.int .i64) 3 w' w.heap.size (fun _ => True) v0_ r1 ∧ Below w.heap.size w w' := by
 have HR0 := Aside0.mk hr0
 have HC0 := Aside0.mk hc0
 clear hr0 hc0
 have HR1 := Aside0.mk hr1
 have HC1 := Aside0.mk hc1
 clear hr1 hc1
 have HB := Aside0.mk (Below.refl w.heap.size w)
 have H : ((spec_TwinIn.f k l0 l1).bind fun t404 => (if t404 = true then ((spec_l4Twin.f k l0 l1).bind fun t405 => (some (t405, true))) else (some ((([] : List Int)), false)))) = some (r1, r2) := h
 clear h
 replace H := Option.bind_eq_some_iff.mp H
 obtain ⟨t404, A30, H⟩ := H
 replace H : (if t404 = true then ((spec_l4Twin.f k l0 l1).bind fun t405 => (some (t405, true))) else (some ((([] : List Int)), false))) = some (r1, r2) := H
 have A3 := Aside0.mk A30
 clear A30
 by_cases c4 : t404 = true
 ·subst c4
  have H1 : ((spec_l4Twin.f k l0 l1).bind fun t405 => (some (t405, true))) = some (r1, r2) := by rw [if_pos rfl] at H; exact H
  clear H
  have H := H1
  clear H1
  replace H := Option.bind_eq_some_iff.mp H
  obtain ⟨t405, A50, H⟩ := H
  replace H : (some (t405, true)) = some (r1, r2) := H
  have A5 := Aside0.mk A50
  clear A50
  simp only [Option.some.injEq, Prod.mk.injEq] at H
  obtain ⟨rfl, rfl⟩ := H
  go_enter Try.func24, Try.ntmps24
  go_wp2_with (first | (refine goesL_ (some 8) rfl rfl Try.func17 (by kernel_rfl) rfl #[.slice A0 l0.length c0, .slice A1 l1.length c1] rfl ll_ ?_; (with_reducible refine (spec_TwinIn.calls k _ _ l0 _ _ l1 true _ ?side1 ?side2 ?side3 ?side4 A3.out).mono ?_); (case side1 => exact ss_ HR0); (case side2 => exact HC0.out); (case side3 => exact ss_ HR1); (case side4 => exact HC1.out); rintro e w6 ⟨rfl, hb⟩; refine ⟨_, rfl, ?_⟩; have n0_ := Aside0.mk (below_step (bb_ HB) hb); clear HB; have HB := n0_; clear n0_; (try clear hb); (try clear hb2); (try clear hk); (try clear hi)) | (refine goesL_ (some 13) rfl rfl Try.func72 (by kernel_rfl) rfl #[.slice A0 l0.length c0, .slice A1 l1.length c1] rfl ll_ ?_; (with_reducible refine (spec_l4Twin.calls k _ _ l0 _ _ l1 t405 _ ?side1 ?side2 ?side3 ?side4 A5.out).mono ?_); (case side1 => exact sb_ HR0 HB); (case side2 => exact HC0.out); (case side3 => exact sb_ HR1 HB); (case side4 => exact HC1.out); rintro e w7 ⟨v406, rfl, ho0, hb⟩; refine ⟨_, rfl, ?_⟩; have n0_ := Aside0.mk (Kd.R_lower ho0 (below_size (bb_ HB))); have n1_ := Aside0.mk (below_step (bb_ HB) hb); clear HB; have HO407 := n0_; have HB := n1_; clear n0_ n1_; (try clear hb); (try clear hb2); (try clear hk); (try clear hi); (try clear ho0)))
  go_ret2
  exact ⟨_, ee_, by (with_reducible repeat (first | apply Kd.R_alloc | apply Kd.R_drewN | apply Kd.R_drew)); exact HO407.out, bb_ HB⟩
 ·replace c4 := Bool.eq_false_iff.mpr c4
  subst c4
  have H1 : (some ((([] : List Int)), false)) = some (r1, r2) := by rw [if_neg (show ¬ (false = true) by decide)] at H; exact H
  clear H
  have H := H1
  clear H1
  obtain ⟨y408, hy408⟩ : ∃ y_ : List Int, y_ = (([] : List Int)) := ⟨_, rfl⟩
  replace H : (some (y408, false)) = some (r1, r2) := by first | (rw [hy408]; with_reducible exact H) | (have H2_ := (Option.bind_some _ _).symm.trans H; rw [hy408]; with_reducible exact H2_) | (have H2_ := (Option.bind_some _ _).symm.trans H; with_reducible exact H2_) | with_reducible exact H | (rw [hy408]; exact H) | exact H
  have Ny408 := Aside0.mk hy408
  clear hy408
  simp only [Option.some.injEq, Prod.mk.injEq] at H
  obtain ⟨rfl, rfl⟩ := H
  go_enter Try.func24, Try.ntmps24
  go_wp2_with (first | (refine goesL_ (some 8) rfl rfl Try.func17 (by kernel_rfl) rfl #[.slice A0 l0.length c0, .slice A1 l1.length c1] rfl ll_ ?_; (with_reducible refine (spec_TwinIn.calls k _ _ l0 _ _ l1 false _ ?side1 ?side2 ?side3 ?side4 A3.out).mono ?_); (case side1 => exact ss_ HR0); (case side2 => exact HC0.out); (case side3 => exact ss_ HR1); (case side4 => exact HC1.out); rintro e w8 ⟨rfl, hb⟩; refine ⟨_, rfl, ?_⟩; have n0_ := Aside0.mk (below_step (bb_ HB) hb); clear HB; have HB := n0_; clear n0_; (try clear hb); (try clear hb2); (try clear hk); (try clear hi)) | ((with_reducible refine gate_dst (N := 10) rfl ?_); refine Kd.R_lit (Kd.int .i64) _ 3 ?hg (N := 10) ?hd (xs := ([] : List Int)) (inner := []) (ok := fun _ => True) (okp := fun _ => True) ?hr ?hp (fun _ hk => hk) trivial (Below.refl _ _) (Nat.le_refl _) (by simp) ?_; (case hd => rfl); (case hg => rfl); (case hr => first | (go_simp; done) | (go_simp; rfl)); (case hp => exact (Reps.none _ _)); intro v409 w9 ho10 hb hg_ hnew_; clear hg_ hnew_; (first | rw [← Ny408.out] at ho10 | (simp only [Int.reduceToNat] at ho10; rw [← Ny408.out] at ho10)); have n0_ := Aside0.mk (Kd.R_lower ho10 (below_size (bb_ HB))); have n1_ := Aside0.mk (below_step (bb_ HB) hb); clear HB; have HO410 := n0_; have HB := n1_; clear n0_ n1_; clear hb ho10))
  go_ret2
  exact ⟨_, ee_, by (with_reducible repeat (first | apply Kd.R_alloc | apply Kd.R_drewN | apply Kd.R_drew)); exact HO410.out, bb_ HB⟩
end Go.Proofs.Ytcbkoecanldlpaa.P
