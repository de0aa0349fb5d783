/- The law FnTwinPoints of the given program: for every input the call returns true, and each argument reads afterwards as it read before. No conditions. (Part 6 of 6; the last part holds the theorem.) -/
import Derived.Test.YtcbkoecanldlpaaMFnTwinPoints0
import Derived.Test.YtcbkoecanldlpaaMFnTwinPoints1
import Derived.Test.YtcbkoecanldlpaaMFnTwinPoints2
import Derived.Test.YtcbkoecanldlpaaMFnTwinPoints3
import Derived.Test.YtcbkoecanldlpaaMFnTwinPoints4
import Derived.SizedLaws
import Derived.ChangeSlices
import Derived.Test.YtcbkoecanldlpaaRows
import Derived.WalkKit
import Derived.ProofKit
import Derived.OpenShut
import Derived.ShutString
import Derived.ChangeOld
import Derived.Below
namespace Go.Proofs.Ytcbkoecanldlpaa.P
open Go.RowKit Go.Proofs.YtcbkoecanldlpaaW.PrintWords Go.Proofs.YtcbkoecanldlpaaW.PrintLast
set_option linter.unusedVariables false
set_option linter.unusedSimpArgs false

def impl_plane_closes.f (k : Nat) (l0 : List Int) (l1 : List Int) : Option (Bool) := if 0 < (l1.length : Int) then (if 1 < (l1.length : Int) then (if (rd l1 0) = (rd l1 1) then (some true) else (if 2 < (l1.length : Int) then (if (rd l1 0) = (rd l1 2) then (some true) else (if (rd l1 1) = (rd l1 2) then (some true) else ((impl_plane_three.f k l0 (rd l1 0) (rd l1 1) (rd l1 2)).bind fun t337 => (some t337)))) else (none))) else (none)) else (none)
def impl_plane_closes.T1 : Bool × List (List Nat × List Nat) := (true, [([], []), ([0], [0]), ([1], [1]), ([], []), ([3], [3]), ([4], [4]), ([2, 5], [2, 5]), ([6], [6]), ([7], [7]), ([8, 7], [7, 8]), ([9, 7], [7, 9]), ([7], [7]), ([11, 7], [7, 11]), ([12, 7], [7, 12]), ([10, 13, 7], [7, 10, 13]), ([7, 14], [7, 14]), ([15, 7], [15]), ([16], [16]), ([17, 16], [16, 17]), ([18, 16], [16, 18]), ([16], [16]), ([20, 16], [16, 20]), ([21, 16], [16, 21]), ([19, 22, 16], [16, 19, 22]), ([16, 23], [16, 23]), ([24, 16], [24]), ([25], [25]), ([25], [25]), ([27, 25], [25, 27]), ([28, 25], [25, 28]), ([25], [25]), ([30, 25], [25, 30]), ([31, 25], [25, 31]), ([25], [25]), ([33, 25], [25, 33]), ([34, 25], [25, 34]), ([26, 29, 32, 35, 25, 25], [25, 26, 29, 32, 35]), ([25, 36], [25, 36]), ([37, 36, 0, 1, 2, 3, 4, 5, 6, 7, 8, 9, 10, 11, 12, 13, 14, 15, 16, 17, 18, 19, 20, 21, 22, 23, 24, 25, 26, 27, 28, 29, 30, 31, 32, 33, 34, 35, 36, 37], [37])])
def impl_plane_closes.B1 : List Nat := [0, 1, 3, 0, 8, 24, 63, 127, 255, 511, 1023, 255, 2303, 6399, 16383, 32767, 65535, 131071, 262143, 524287, 131071, 1179647, 3276799, 8388607, 16777215, 33554431, 67108863, 67108863, 201326591, 469762047, 67108863, 1140850687, 3288334335, 67108863, 8657043455, 25836912639, 68719476735, 137438953471, 274877906943]
theorem impl_plane_closes.tab1 : rtab .any (opsOf Try.f68 1) = impl_plane_closes.T1 := by kernel_rfl
theorem impl_plane_closes.bits1 : waitsOk impl_plane_closes.T1.2 impl_plane_closes.B1 = true := by kernel_rfl
set_option maxHeartbeats 8000000 in
set_option maxRecDepth 100000 in
theorem impl_plane_closes.calls (k : Nat) (A0 : Option Addr) (c0 : Nat) (l0 : List Int) (A1 : Option Addr) (c1 : Nat) (l1 : List Int) (r : Bool) (w : World) (hr0 : Kd.C (Kd.int .i64) w A0 l0.length l0) (hc0 : l0.length ≤ c0) (hr1 : Kd.C (Kd.int .i64) w A1 l1.length l1) (hc1 : l1.length ≤ c1) (h : impl_plane_closes.f k l0 l1 = some r) :
  Calls Try.prog 68 #[.slice A0 l0.length c0, .slice A1 l1.length c1] w fun e w' => e = .returned (.bool r) ∧ Below w.heap.size w w' := by
 have HR0 := Aside0.mk hr0
 have HC0 := Aside0.mk hc0
 clear hr0 hc0
 have HR1 := Aside0.mk hr1
 have HC1 := Aside0.mk hc1
 clear hr1 hc1
 have HB := Aside0.mk (Below.refl w.heap.size w)
 have H : (if 0 < (l1.length : Int) then (if 1 < (l1.length : Int) then (if (rd l1 0) = (rd l1 1) then (some true) else (if 2 < (l1.length : Int) then (if (rd l1 0) = (rd l1 2) then (some true) else (if (rd l1 1) = (rd l1 2) then (some true) else ((impl_plane_three.f k l0 (rd l1 0) (rd l1 1) (rd l1 2)).bind fun t337 => (some t337)))) else (none))) else (none)) else (none)) = some r := h
 clear h
 by_cases c3 : 0 < (l1.length : Int)
 ·rw [if_pos c3] at H
  have c3b0 : decide (0 < (l1.length : Int)) = true := decide_eq_true c3
  have c3b1 : decide (0 < l1.length) = true := decide_eq_true (by omega)
  clear c3
  by_cases c4 : 1 < (l1.length : Int)
  ·rw [if_pos c4] at H
   have c4b0 : decide (1 < (l1.length : Int)) = true := decide_eq_true c4
   have c4b1 : decide (1 < l1.length) = true := decide_eq_true (by omega)
   clear c4
   by_cases c5 : (rd l1 0) = (rd l1 1)
   ·rw [if_pos c5] at H
    have c5b0 : ((rd l1 0) == (rd l1 1)) = true := beq_iff_eq.mpr c5
    have c5b1 : ((rd l1 0) != (rd l1 1)) = false := bne_eq_false_iff_eq.mpr c5
    clear c5
    obtain rfl := Option.some.inj H
    go_enter Try.func68, Try.ntmps68
    try go_wp2
    have n0_ := Aside0.mk (below_drew1 HB.out)
    clear HB
    have HB := n0_
    clear n0_
    have p328 : 0 ≤ (0 : Int) := (by omega)
    have q328 : 0 < (l1.length : Int) := dd_
    obtain ⟨ad328, e328, hx328_0⟩ := Kd.at_int HR1.out 0 p328 q328
    have hw328_0 := hx328_0
    (try rw [show ((0 : Int)).toNat = 0 from rfl] at hw328_0)
    (try rw [show 0 * 1 = 0 from rfl] at hw328_0)
    (try rw [Addr.add_zero'] at hw328_0)
    cases e328
    have qi328 : (0 < l1.length) = True := eq_true (by omega)
    (try rw [show ((0 : Int)).toNat = 0 from rfl] at hx328_0)
    (try rw [Addr.add_zero'] at hx328_0)
    replace hx328_0 := hc_ HB hx328_0
    replace p328 := eq_true p328
    replace q328 := eq_true q328
    have p329 : 0 ≤ (1 : Int) := (by omega)
    have q329 : 1 < (l1.length : Int) := dd_
    obtain ⟨ad329, e329, hx329_0⟩ := Kd.at_int HR1.out 1 p329 q329
    have hw329_0 := hx329_0
    (try rw [show ((1 : Int)).toNat = 1 from rfl] at hw329_0)
    (try rw [show 1 * 1 = 1 from rfl] at hw329_0)
    (try simp only [Nat.reduceMul, Nat.reduceEqDiff, Go.Addr.add, ↓reduceIte] at hw329_0)
    obtain rfl : ad328 = ad329 := (by injection e329)
    (try simp only [show (1 : Int).toNat = 1 from rfl, Nat.reduceMul, Nat.reduceEqDiff, Go.Addr.add, ↓reduceIte] at hx329_0)
    have qi329 : (1 < l1.length) = True := eq_true (by omega)
    (try rw [show ((1 : Int)).toNat = 1 from rfl] at hx329_0)
    replace hx329_0 := hc_ HB hx329_0
    replace p329 := eq_true p329
    replace q329 := eq_true q329
    refine start_ (n := 39) (S := fun w' => w'.cell? ad328 = some (.int .i64 (rd l1 0)) ∧ w'.cell? ⟨ad328.block, ad328.off + 1, none⟩ = some (.int .i64 (rd l1 1))) (ds := []) #[F_,F_,F_,F_,F_,F_,F_,F_,F_,F_,F_,F_,F_,F_,F_,F_,F_,F_,F_,F_,F_,F_,F_,F_,F_,F_,F_,F_,F_,F_,F_,F_,F_,F_,F_,F_,F_,F_,F_] (by kernel_rfl) rfl rfl ⟨(hc_ HB hw328_0), (hc_ HB hw329_0)⟩ (fun hHeld => ?_); refine with_tabW impl_plane_closes.tab1 impl_plane_closes.bits1 (fun HT_ HW_ => ?_)
    generalize w.drew = w6 at HB hx328_0 hx329_0 hHeld ⊢
    refine p_ 0 5 (m_ 39 1) HT_.out ?_
    refine p_ 1 6 (m_ 39 3) HT_.out ?_
    refine p_ 3 8 (m_ 39 11) HT_.out ?_
    refine p_ 4 9 (m_ 39 27) HT_.out ?_
    refine t2_ 2 7 (m_ 39 31) HT_.out HW_.out hHeld ?_
    refine t2_ 5 10 (m_ 39 63) HT_.out HW_.out hHeld ?_
    refine p_ 6 11 (m_ 39 127) HT_.out ?_
    refine p_ 7 12 (m_ 39 255) HT_.out ?_
    refine u_ 8 13 (m_ 39 511) HT_.out ?_
    refine u_ 9 14 (m_ 39 1023) HT_.out ?_
    refine u_ 10 15 (m_ 39 2047) HT_.out ?_
    refine u_ 11 16 (m_ 39 4095) HT_.out ?_
    refine u_ 12 17 (m_ 39 8191) HT_.out ?_
    refine u_ 13 18 (m_ 39 16383) HT_.out ?_
    refine u_ 14 19 (m_ 39 32767) HT_.out ?_
    refine p_ 15 20 (m_ 39 65535) HT_.out ?_
    refine p_ 16 21 (m_ 39 131071) HT_.out ?_
    refine u_ 17 22 (m_ 39 262143) HT_.out ?_
    refine u_ 18 23 (m_ 39 524287) HT_.out ?_
    refine u_ 19 24 (m_ 39 1048575) HT_.out ?_
    refine u_ 20 25 (m_ 39 2097151) HT_.out ?_
    refine u_ 21 26 (m_ 39 4194303) HT_.out ?_
    refine u_ 22 27 (m_ 39 8388607) HT_.out ?_
    refine u_ 23 28 (m_ 39 16777215) HT_.out ?_
    refine p_ 24 29 (m_ 39 33554431) HT_.out ?_
    refine p_ 25 30 (m_ 39 67108863) HT_.out ?_
    refine u_ 26 31 (m_ 39 134217727) HT_.out ?_
    refine u_ 27 32 (m_ 39 268435455) HT_.out ?_
    refine u_ 28 33 (m_ 39 536870911) HT_.out ?_
    refine u_ 29 34 (m_ 39 1073741823) HT_.out ?_
    refine u_ 30 35 (m_ 39 2147483647) HT_.out ?_
    refine u_ 31 36 (m_ 39 4294967295) HT_.out ?_
    refine u_ 32 37 (m_ 39 8589934591) HT_.out ?_
    refine u_ 33 38 (m_ 39 17179869183) HT_.out ?_
    refine u_ 34 39 (m_ 39 34359738367) HT_.out ?_
    refine u_ 35 40 (m_ 39 68719476735) HT_.out ?_
    refine u_ 36 41 (m_ 39 137438953471) HT_.out ?_
    refine p_ 37 42 (m_ 39 274877906943) HT_.out ?_
    refine p_ 38 4 (m_ 39 549755813887) HT_.out ?_
    refine done_ (done_of HT_.out (by kernel_rfl)) ?_
    try go_wp2
    go_ret
    exact ⟨ee_, bb_ HB⟩
   ·rw [if_neg c5] at H
    have c5b0 : ((rd l1 0) == (rd l1 1)) = false := beq_eq_false_iff_ne.mpr c5
    have c5b1 : ((rd l1 0) != (rd l1 1)) = true := bne_iff_ne.mpr c5
    by_cases c7 : 2 < (l1.length : Int)
    ·rw [if_pos c7] at H
     have c7b0 : decide (2 < (l1.length : Int)) = true := decide_eq_true c7
     have c7b1 : decide (2 < l1.length) = true := decide_eq_true (by omega)
     clear c7
     by_cases c8 : (rd l1 0) = (rd l1 2)
     ·rw [if_pos c8] at H
      have c8b0 : ((rd l1 0) == (rd l1 2)) = true := beq_iff_eq.mpr c8
      have c8b1 : ((rd l1 0) != (rd l1 2)) = false := bne_eq_false_iff_eq.mpr c8
      clear c8
      obtain rfl := Option.some.inj H
      go_enter Try.func68, Try.ntmps68
      try go_wp2
      have n0_ := Aside0.mk (below_drew1 HB.out)
      clear HB
      have HB := n0_
      clear n0_
      have p328 : 0 ≤ (0 : Int) := (by omega)
      have q328 : 0 < (l1.length : Int) := dd_
      obtain ⟨ad328, e328, hx328_0⟩ := Kd.at_int HR1.out 0 p328 q328
      have hw328_0 := hx328_0
      (try rw [show ((0 : Int)).toNat = 0 from rfl] at hw328_0)
      (try rw [show 0 * 1 = 0 from rfl] at hw328_0)
      (try rw [Addr.add_zero'] at hw328_0)
      cases e328
      have qi328 : (0 < l1.length) = True := eq_true (by omega)
      (try rw [show ((0 : Int)).toNat = 0 from rfl] at hx328_0)
      (try rw [Addr.add_zero'] at hx328_0)
      replace hx328_0 := hc_ HB hx328_0
      replace p328 := eq_true p328
      replace q328 := eq_true q328
      have p329 : 0 ≤ (1 : Int) := (by omega)
      have q329 : 1 < (l1.length : Int) := dd_
      obtain ⟨ad329, e329, hx329_0⟩ := Kd.at_int HR1.out 1 p329 q329
      have hw329_0 := hx329_0
      (try rw [show ((1 : Int)).toNat = 1 from rfl] at hw329_0)
      (try rw [show 1 * 1 = 1 from rfl] at hw329_0)
      (try simp only [Nat.reduceMul, Nat.reduceEqDiff, Go.Addr.add, ↓reduceIte] at hw329_0)
      obtain rfl : ad328 = ad329 := (by injection e329)
      (try simp only [show (1 : Int).toNat = 1 from rfl, Nat.reduceMul, Nat.reduceEqDiff, Go.Addr.add, ↓reduceIte] at hx329_0)
      have qi329 : (1 < l1.length) = True := eq_true (by omega)
      (try rw [show ((1 : Int)).toNat = 1 from rfl] at hx329_0)
      replace hx329_0 := hc_ HB hx329_0
      replace p329 := eq_true p329
      replace q329 := eq_true q329
      have p330 : 0 ≤ (0 : Int) := (by omega)
      have q330 : 0 < (l1.length : Int) := dd_
      obtain ⟨ad330, e330, hx330_0⟩ := Kd.at_int HR1.out 0 p330 q330
      have hw330_0 := hx330_0
      (try rw [show ((0 : Int)).toNat = 0 from rfl] at hw330_0)
      (try rw [show 0 * 1 = 0 from rfl] at hw330_0)
      (try rw [Addr.add_zero'] at hw330_0)
      obtain rfl : ad328 = ad330 := (by injection e330)
      have qi330 : (0 < l1.length) = True := eq_true (by omega)
      (try rw [show ((0 : Int)).toNat = 0 from rfl] at hx330_0)
      (try rw [Addr.add_zero'] at hx330_0)
      replace hx330_0 := hc_ HB hx330_0
      replace p330 := eq_true p330
      replace q330 := eq_true q330
      have p331 : 0 ≤ (2 : Int) := (by omega)
      have q331 : 2 < (l1.length : Int) := dd_
      obtain ⟨ad331, e331, hx331_0⟩ := Kd.at_int HR1.out 2 p331 q331
      have hw331_0 := hx331_0
      (try rw [show ((2 : Int)).toNat = 2 from rfl] at hw331_0)
      (try rw [show 2 * 1 = 2 from rfl] at hw331_0)
      (try simp only [Nat.reduceMul, Nat.reduceEqDiff, Go.Addr.add, ↓reduceIte] at hw331_0)
      obtain rfl : ad328 = ad331 := (by injection e331)
      (try simp only [show (2 : Int).toNat = 2 from rfl, Nat.reduceMul, Nat.reduceEqDiff, Go.Addr.add, ↓reduceIte] at hx331_0)
      have qi331 : (2 < l1.length) = True := eq_true (by omega)
      (try rw [show ((2 : Int)).toNat = 2 from rfl] at hx331_0)
      replace hx331_0 := hc_ HB hx331_0
      replace p331 := eq_true p331
      replace q331 := eq_true q331
      refine start_ (n := 39) (S := fun w' => w'.cell? ad328 = some (.int .i64 (rd l1 0)) ∧ w'.cell? ⟨ad328.block, ad328.off + 1, none⟩ = some (.int .i64 (rd l1 1)) ∧ w'.cell? ad328 = some (.int .i64 (rd l1 0)) ∧ w'.cell? ⟨ad328.block, ad328.off + 2, none⟩ = some (.int .i64 (rd l1 2))) (ds := []) #[F_,F_,F_,F_,F_,F_,F_,F_,F_,F_,F_,F_,F_,F_,F_,F_,F_,F_,F_,F_,F_,F_,F_,F_,F_,F_,F_,F_,F_,F_,F_,F_,F_,F_,F_,F_,F_,F_,F_] (by kernel_rfl) rfl rfl ⟨(hc_ HB hw328_0), (hc_ HB hw329_0), (hc_ HB hw330_0), (hc_ HB hw331_0)⟩ (fun hHeld => ?_); refine with_tabW impl_plane_closes.tab1 impl_plane_closes.bits1 (fun HT_ HW_ => ?_)
      generalize w.drew = w9 at HB hx328_0 hx329_0 hx330_0 hx331_0 hHeld ⊢
      refine p_ 0 5 (m_ 39 1) HT_.out ?_
      refine p_ 1 6 (m_ 39 3) HT_.out ?_
      refine p_ 3 8 (m_ 39 11) HT_.out ?_
      refine p_ 4 9 (m_ 39 27) HT_.out ?_
      refine t4_ 2 7 (m_ 39 31) HT_.out HW_.out hHeld ?_
      refine t4_ 5 10 (m_ 39 63) HT_.out HW_.out hHeld ?_
      refine p_ 6 11 (m_ 39 127) HT_.out ?_
      refine p_ 7 12 (m_ 39 255) HT_.out ?_
      refine p_ 8 13 (m_ 39 511) HT_.out ?_
      refine p_ 9 14 (m_ 39 1023) HT_.out ?_
      refine p_ 11 16 (m_ 39 3071) HT_.out ?_
      refine p_ 12 17 (m_ 39 7167) HT_.out ?_
      refine t4_ 10 15 (m_ 39 8191) HT_.out HW_.out hHeld ?_
      refine t4_ 13 18 (m_ 39 16383) HT_.out HW_.out hHeld ?_
      refine p_ 14 19 (m_ 39 32767) HT_.out ?_
      refine p_ 15 20 (m_ 39 65535) HT_.out ?_
      refine p_ 16 21 (m_ 39 131071) HT_.out ?_
      refine u_ 17 22 (m_ 39 262143) HT_.out ?_
      refine u_ 18 23 (m_ 39 524287) HT_.out ?_
      refine u_ 19 24 (m_ 39 1048575) HT_.out ?_
      refine u_ 20 25 (m_ 39 2097151) HT_.out ?_
      refine u_ 21 26 (m_ 39 4194303) HT_.out ?_
      refine u_ 22 27 (m_ 39 8388607) HT_.out ?_
      refine u_ 23 28 (m_ 39 16777215) HT_.out ?_
      refine p_ 24 29 (m_ 39 33554431) HT_.out ?_
      refine p_ 25 30 (m_ 39 67108863) HT_.out ?_
      refine u_ 26 31 (m_ 39 134217727) HT_.out ?_
      refine u_ 27 32 (m_ 39 268435455) HT_.out ?_
      refine u_ 28 33 (m_ 39 536870911) HT_.out ?_
      refine u_ 29 34 (m_ 39 1073741823) HT_.out ?_
      refine u_ 30 35 (m_ 39 2147483647) HT_.out ?_
      refine u_ 31 36 (m_ 39 4294967295) HT_.out ?_
      refine u_ 32 37 (m_ 39 8589934591) HT_.out ?_
      refine u_ 33 38 (m_ 39 17179869183) HT_.out ?_
      refine u_ 34 39 (m_ 39 34359738367) HT_.out ?_
      refine u_ 35 40 (m_ 39 68719476735) HT_.out ?_
      refine u_ 36 41 (m_ 39 137438953471) HT_.out ?_
      refine p_ 37 42 (m_ 39 274877906943) HT_.out ?_
      refine p_ 38 4 (m_ 39 549755813887) HT_.out ?_
      refine done_ (done_of HT_.out (by kernel_rfl)) ?_
      try go_wp2
      go_ret
      exact ⟨ee_, bb_ HB⟩
     ·rw [if_neg c8] at H
      have c8b0 : ((rd l1 0) == (rd l1 2)) = false := beq_eq_false_iff_ne.mpr c8
      have c8b1 : ((rd l1 0) != (rd l1 2)) = true := bne_iff_ne.mpr c8
      by_cases c10 : (rd l1 1) = (rd l1 2)
      ·rw [if_pos c10] at H
       have c10b0 : ((rd l1 1) == (rd l1 2)) = true := beq_iff_eq.mpr c10
       have c10b1 : ((rd l1 1) != (rd l1 2)) = false := bne_eq_false_iff_eq.mpr c10
       clear c10
       obtain rfl := Option.some.inj H
       go_enter Try.func68, Try.ntmps68
       try go_wp2
       have n0_ := Aside0.mk (below_drew1 HB.out)
       clear HB
       have HB := n0_
       clear n0_
       have p328 : 0 ≤ (0 : Int) := (by omega)
       have q328 : 0 < (l1.length : Int) := dd_
       obtain ⟨ad328, e328, hx328_0⟩ := Kd.at_int HR1.out 0 p328 q328
       have hw328_0 := hx328_0
       (try rw [show ((0 : Int)).toNat = 0 from rfl] at hw328_0)
       (try rw [show 0 * 1 = 0 from rfl] at hw328_0)
       (try rw [Addr.add_zero'] at hw328_0)
       cases e328
       have qi328 : (0 < l1.length) = True := eq_true (by omega)
       (try rw [show ((0 : Int)).toNat = 0 from rfl] at hx328_0)
       (try rw [Addr.add_zero'] at hx328_0)
       replace hx328_0 := hc_ HB hx328_0
       replace p328 := eq_true p328
       replace q328 := eq_true q328
       have p329 : 0 ≤ (1 : Int) := (by omega)
       have q329 : 1 < (l1.length : Int) := dd_
       obtain ⟨ad329, e329, hx329_0⟩ := Kd.at_int HR1.out 1 p329 q329
       have hw329_0 := hx329_0
       (try rw [show ((1 : Int)).toNat = 1 from rfl] at hw329_0)
       (try rw [show 1 * 1 = 1 from rfl] at hw329_0)
       (try simp only [Nat.reduceMul, Nat.reduceEqDiff, Go.Addr.add, ↓reduceIte] at hw329_0)
       obtain rfl : ad328 = ad329 := (by injection e329)
       (try simp only [show (1 : Int).toNat = 1 from rfl, Nat.reduceMul, Nat.reduceEqDiff, Go.Addr.add, ↓reduceIte] at hx329_0)
       have qi329 : (1 < l1.length) = True := eq_true (by omega)
       (try rw [show ((1 : Int)).toNat = 1 from rfl] at hx329_0)
       replace hx329_0 := hc_ HB hx329_0
       replace p329 := eq_true p329
       replace q329 := eq_true q329
       have p330 : 0 ≤ (0 : Int) := (by omega)
       have q330 : 0 < (l1.length : Int) := dd_
       obtain ⟨ad330, e330, hx330_0⟩ := Kd.at_int HR1.out 0 p330 q330
       have hw330_0 := hx330_0
       (try rw [show ((0 : Int)).toNat = 0 from rfl] at hw330_0)
       (try rw [show 0 * 1 = 0 from rfl] at hw330_0)
       (try rw [Addr.add_zero'] at hw330_0)
       obtain rfl : ad328 = ad330 := (by injection e330)
       have qi330 : (0 < l1.length) = True := eq_true (by omega)
       (try rw [show ((0 : Int)).toNat = 0 from rfl] at hx330_0)
       (try rw [Addr.add_zero'] at hx330_0)
       replace hx330_0 := hc_ HB hx330_0
       replace p330 := eq_true p330
       replace q330 := eq_true q330
       have p331 : 0 ≤ (2 : Int) := (by omega)
       have q331 : 2 < (l1.length : Int) := dd_
       obtain ⟨ad331, e331, hx331_0⟩ := Kd.at_int HR1.out 2 p331 q331
       have hw331_0 := hx331_0
       (try rw [show ((2 : Int)).toNat = 2 from rfl] at hw331_0)
       (try rw [show 2 * 1 = 2 from rfl] at hw331_0)
       (try simp only [Nat.reduceMul, Nat.reduceEqDiff, Go.Addr.add, ↓reduceIte] at hw331_0)
       obtain rfl : ad328 = ad331 := (by injection e331)
       (try simp only [show (2 : Int).toNat = 2 from rfl, Nat.reduceMul, Nat.reduceEqDiff, Go.Addr.add, ↓reduceIte] at hx331_0)
       have qi331 : (2 < l1.length) = True := eq_true (by omega)
       (try rw [show ((2 : Int)).toNat = 2 from rfl] at hx331_0)
       replace hx331_0 := hc_ HB hx331_0
       replace p331 := eq_true p331
       replace q331 := eq_true q331
       have p332 : 0 ≤ (1 : Int) := (by omega)
       have q332 : 1 < (l1.length : Int) := dd_
       obtain ⟨ad332, e332, hx332_0⟩ := Kd.at_int HR1.out 1 p332 q332
       have hw332_0 := hx332_0
       (try rw [show ((1 : Int)).toNat = 1 from rfl] at hw332_0)
       (try rw [show 1 * 1 = 1 from rfl] at hw332_0)
       (try simp only [Nat.reduceMul, Nat.reduceEqDiff, Go.Addr.add, ↓reduceIte] at hw332_0)
       obtain rfl : ad328 = ad332 := (by injection e332)
       (try simp only [show (1 : Int).toNat = 1 from rfl, Nat.reduceMul, Nat.reduceEqDiff, Go.Addr.add, ↓reduceIte] at hx332_0)
       have qi332 : (1 < l1.length) = True := eq_true (by omega)
       (try rw [show ((1 : Int)).toNat = 1 from rfl] at hx332_0)
       replace hx332_0 := hc_ HB hx332_0
       replace p332 := eq_true p332
       replace q332 := eq_true q332
       have p333 : 0 ≤ (2 : Int) := (by omega)
       have q333 : 2 < (l1.length : Int) := dd_
       obtain ⟨ad333, e333, hx333_0⟩ := Kd.at_int HR1.out 2 p333 q333
       have hw333_0 := hx333_0
       (try rw [show ((2 : Int)).toNat = 2 from rfl] at hw333_0)
       (try rw [show 2 * 1 = 2 from rfl] at hw333_0)
       (try simp only [Nat.reduceMul, Nat.reduceEqDiff, Go.Addr.add, ↓reduceIte] at hw333_0)
       obtain rfl : ad328 = ad333 := (by injection e333)
       (try simp only [show (2 : Int).toNat = 2 from rfl, Nat.reduceMul, Nat.reduceEqDiff, Go.Addr.add, ↓reduceIte] at hx333_0)
       have qi333 : (2 < l1.length) = True := eq_true (by omega)
       (try rw [show ((2 : Int)).toNat = 2 from rfl] at hx333_0)
       replace hx333_0 := hc_ HB hx333_0
       replace p333 := eq_true p333
       replace q333 := eq_true q333
       refine start_ (n := 39) (S := fun w' => w'.cell? ad328 = some (.int .i64 (rd l1 0)) ∧ w'.cell? ⟨ad328.block, ad328.off + 1, none⟩ = some (.int .i64 (rd l1 1)) ∧ w'.cell? ad328 = some (.int .i64 (rd l1 0)) ∧ w'.cell? ⟨ad328.block, ad328.off + 2, none⟩ = some (.int .i64 (rd l1 2)) ∧ w'.cell? ⟨ad328.block, ad328.off + 1, none⟩ = some (.int .i64 (rd l1 1)) ∧ w'.cell? ⟨ad328.block, ad328.off + 2, none⟩ = some (.int .i64 (rd l1 2))) (ds := []) #[F_,F_,F_,F_,F_,F_,F_,F_,F_,F_,F_,F_,F_,F_,F_,F_,F_,F_,F_,F_,F_,F_,F_,F_,F_,F_,F_,F_,F_,F_,F_,F_,F_,F_,F_,F_,F_,F_,F_] (by kernel_rfl) rfl rfl ⟨(hc_ HB hw328_0), (hc_ HB hw329_0), (hc_ HB hw330_0), (hc_ HB hw331_0), (hc_ HB hw332_0), (hc_ HB hw333_0)⟩ (fun hHeld => ?_); refine with_tabW impl_plane_closes.tab1 impl_plane_closes.bits1 (fun HT_ HW_ => ?_)
       generalize w.drew = w11 at HB hx328_0 hx329_0 hx330_0 hx331_0 hx332_0 hx333_0 hHeld ⊢
       refine p_ 0 5 (m_ 39 1) HT_.out ?_
       refine p_ 1 6 (m_ 39 3) HT_.out ?_
       refine p_ 3 8 (m_ 39 11) HT_.out ?_
       refine p_ 4 9 (m_ 39 27) HT_.out ?_
       refine t6_ 2 7 (m_ 39 31) HT_.out HW_.out hHeld ?_
       refine t6_ 5 10 (m_ 39 63) HT_.out HW_.out hHeld ?_
       refine p_ 6 11 (m_ 39 127) HT_.out ?_
       refine p_ 7 12 (m_ 39 255) HT_.out ?_
       refine p_ 8 13 (m_ 39 511) HT_.out ?_
       refine p_ 9 14 (m_ 39 1023) HT_.out ?_
       refine p_ 11 16 (m_ 39 3071) HT_.out ?_
       refine p_ 12 17 (m_ 39 7167) HT_.out ?_
       refine t6_ 10 15 (m_ 39 8191) HT_.out HW_.out hHeld ?_
       refine t6_ 13 18 (m_ 39 16383) HT_.out HW_.out hHeld ?_
       refine p_ 14 19 (m_ 39 32767) HT_.out ?_
       refine p_ 15 20 (m_ 39 65535) HT_.out ?_
       refine p_ 16 21 (m_ 39 131071) HT_.out ?_
       refine p_ 17 22 (m_ 39 262143) HT_.out ?_
       refine p_ 18 23 (m_ 39 524287) HT_.out ?_
       refine p_ 20 25 (m_ 39 1572863) HT_.out ?_
       refine p_ 21 26 (m_ 39 3670015) HT_.out ?_
       refine t6_ 19 24 (m_ 39 4194303) HT_.out HW_.out hHeld ?_
       refine t6_ 22 27 (m_ 39 8388607) HT_.out HW_.out hHeld ?_
       refine p_ 23 28 (m_ 39 16777215) HT_.out ?_
       refine p_ 24 29 (m_ 39 33554431) HT_.out ?_
       refine p_ 25 30 (m_ 39 67108863) HT_.out ?_
       refine u_ 26 31 (m_ 39 134217727) HT_.out ?_
       refine u_ 27 32 (m_ 39 268435455) HT_.out ?_
       refine u_ 28 33 (m_ 39 536870911) HT_.out ?_
       refine u_ 29 34 (m_ 39 1073741823) HT_.out ?_
       refine u_ 30 35 (m_ 39 2147483647) HT_.out ?_
       refine u_ 31 36 (m_ 39 4294967295) HT_.out ?_
       refine u_ 32 37 (m_ 39 8589934591) HT_.out ?_
       refine u_ 33 38 (m_ 39 17179869183) HT_.out ?_
       refine u_ 34 39 (m_ 39 34359738367) HT_.out ?_
       refine u_ 35 40 (m_ 39 68719476735) HT_.out ?_
       refine u_ 36 41 (m_ 39 137438953471) HT_.out ?_
       refine p_ 37 42 (m_ 39 274877906943) HT_.out ?_
       refine p_ 38 4 (m_ 39 549755813887) HT_.out ?_
       refine done_ (done_of HT_.out (by kernel_rfl)) ?_
       try go_wp2
       go_ret
       exact ⟨ee_, bb_ HB⟩
      ·rw [if_neg c10] at H
       have c10b0 : ((rd l1 1) == (rd l1 2)) = false := beq_eq_false_iff_ne.mpr c10
       have c10b1 : ((rd l1 1) != (rd l1 2)) = true := bne_iff_ne.mpr c10
       replace H := Option.bind_eq_some_iff.mp H
       obtain ⟨t337, A120, H⟩ := H
       replace H : (some t337) = some r := H
       have A12 := Aside0.mk A120
       clear A120
       obtain rfl := Option.some.inj H
       go_enter Try.func68, Try.ntmps68
       try go_wp2
       have n0_ := Aside0.mk (below_drew1 HB.out)
       clear HB
       have HB := n0_
       clear n0_
       have p328 : 0 ≤ (0 : Int) := (by omega)
       have q328 : 0 < (l1.length : Int) := dd_
       obtain ⟨ad328, e328, hx328_0⟩ := Kd.at_int HR1.out 0 p328 q328
       have hw328_0 := hx328_0
       (try rw [show ((0 : Int)).toNat = 0 from rfl] at hw328_0)
       (try rw [show 0 * 1 = 0 from rfl] at hw328_0)
       (try rw [Addr.add_zero'] at hw328_0)
       cases e328
       have qi328 : (0 < l1.length) = True := eq_true (by omega)
       (try rw [show ((0 : Int)).toNat = 0 from rfl] at hx328_0)
       (try rw [Addr.add_zero'] at hx328_0)
       replace hx328_0 := hc_ HB hx328_0
       replace p328 := eq_true p328
       replace q328 := eq_true q328
       have p329 : 0 ≤ (1 : Int) := (by omega)
       have q329 : 1 < (l1.length : Int) := dd_
       obtain ⟨ad329, e329, hx329_0⟩ := Kd.at_int HR1.out 1 p329 q329
       have hw329_0 := hx329_0
       (try rw [show ((1 : Int)).toNat = 1 from rfl] at hw329_0)
       (try rw [show 1 * 1 = 1 from rfl] at hw329_0)
       (try simp only [Nat.reduceMul, Nat.reduceEqDiff, Go.Addr.add, ↓reduceIte] at hw329_0)
       obtain rfl : ad328 = ad329 := (by injection e329)
       (try simp only [show (1 : Int).toNat = 1 from rfl, Nat.reduceMul, Nat.reduceEqDiff, Go.Addr.add, ↓reduceIte] at hx329_0)
       have qi329 : (1 < l1.length) = True := eq_true (by omega)
       (try rw [show ((1 : Int)).toNat = 1 from rfl] at hx329_0)
       replace hx329_0 := hc_ HB hx329_0
       replace p329 := eq_true p329
       replace q329 := eq_true q329
       have p330 : 0 ≤ (0 : Int) := (by omega)
       have q330 : 0 < (l1.length : Int) := dd_
       obtain ⟨ad330, e330, hx330_0⟩ := Kd.at_int HR1.out 0 p330 q330
       have hw330_0 := hx330_0
       (try rw [show ((0 : Int)).toNat = 0 from rfl] at hw330_0)
       (try rw [show 0 * 1 = 0 from rfl] at hw330_0)
       (try rw [Addr.add_zero'] at hw330_0)
       obtain rfl : ad328 = ad330 := (by injection e330)
       have qi330 : (0 < l1.length) = True := eq_true (by omega)
       (try rw [show ((0 : Int)).toNat = 0 from rfl] at hx330_0)
       (try rw [Addr.add_zero'] at hx330_0)
       replace hx330_0 := hc_ HB hx330_0
       replace p330 := eq_true p330
       replace q330 := eq_true q330
       have p331 : 0 ≤ (2 : Int) := (by omega)
       have q331 : 2 < (l1.length : Int) := dd_
       obtain ⟨ad331, e331, hx331_0⟩ := Kd.at_int HR1.out 2 p331 q331
       have hw331_0 := hx331_0
       (try rw [show ((2 : Int)).toNat = 2 from rfl] at hw331_0)
       (try rw [show 2 * 1 = 2 from rfl] at hw331_0)
       (try simp only [Nat.reduceMul, Nat.reduceEqDiff, Go.Addr.add, ↓reduceIte] at hw331_0)
       obtain rfl : ad328 = ad331 := (by injection e331)
       (try simp only [show (2 : Int).toNat = 2 from rfl, Nat.reduceMul, Nat.reduceEqDiff, Go.Addr.add, ↓reduceIte] at hx331_0)
       have qi331 : (2 < l1.length) = True := eq_true (by omega)
       (try rw [show ((2 : Int)).toNat = 2 from rfl] at hx331_0)
       replace hx331_0 := hc_ HB hx331_0
       replace p331 := eq_true p331
       replace q331 := eq_true q331
       have p332 : 0 ≤ (1 : Int) := (by omega)
       have q332 : 1 < (l1.length : Int) := dd_
       obtain ⟨ad332, e332, hx332_0⟩ := Kd.at_int HR1.out 1 p332 q332
       have hw332_0 := hx332_0
       (try rw [show ((1 : Int)).toNat = 1 from rfl] at hw332_0)
       (try rw [show 1 * 1 = 1 from rfl] at hw332_0)
       (try simp only [Nat.reduceMul, Nat.reduceEqDiff, Go.Addr.add, ↓reduceIte] at hw332_0)
       obtain rfl : ad328 = ad332 := (by injection e332)
       (try simp only [show (1 : Int).toNat = 1 from rfl, Nat.reduceMul, Nat.reduceEqDiff, Go.Addr.add, ↓reduceIte] at hx332_0)
       have qi332 : (1 < l1.length) = True := eq_true (by omega)
       (try rw [show ((1 : Int)).toNat = 1 from rfl] at hx332_0)
       replace hx332_0 := hc_ HB hx332_0
       replace p332 := eq_true p332
       replace q332 := eq_true q332
       have p333 : 0 ≤ (2 : Int) := (by omega)
       have q333 : 2 < (l1.length : Int) := dd_
       obtain ⟨ad333, e333, hx333_0⟩ := Kd.at_int HR1.out 2 p333 q333
       have hw333_0 := hx333_0
       (try rw [show ((2 : Int)).toNat = 2 from rfl] at hw333_0)
       (try rw [show 2 * 1 = 2 from rfl] at hw333_0)
       (try simp only [Nat.reduceMul, Nat.reduceEqDiff, Go.Addr.add, ↓reduceIte] at hw333_0)
       obtain rfl : ad328 = ad333 := (by injection e333)
       (try simp only [show (2 : Int).toNat = 2 from rfl, Nat.reduceMul, Nat.reduceEqDiff, Go.Addr.add, ↓reduceIte] at hx333_0)
       have qi333 : (2 < l1.length) = True := eq_true (by omega)
       (try rw [show ((2 : Int)).toNat = 2 from rfl] at hx333_0)
       replace hx333_0 := hc_ HB hx333_0
       replace p333 := eq_true p333
       replace q333 := eq_true q333
       have p334 : 0 ≤ (0 : Int) := (by omega)
       have q334 : 0 < (l1.length : Int) := dd_
       obtain ⟨ad334, e334, hx334_0⟩ := Kd.at_int HR1.out 0 p334 q334
       have hw334_0 := hx334_0
       (try rw [show ((0 : Int)).toNat = 0 from rfl] at hw334_0)
       (try rw [show 0 * 1 = 0 from rfl] at hw334_0)
       (try rw [Addr.add_zero'] at hw334_0)
       obtain rfl : ad328 = ad334 := (by injection e334)
       have qi334 : (0 < l1.length) = True := eq_true (by omega)
       (try rw [show ((0 : Int)).toNat = 0 from rfl] at hx334_0)
       (try rw [Addr.add_zero'] at hx334_0)
       replace hx334_0 := hc_ HB hx334_0
       replace p334 := eq_true p334
       replace q334 := eq_true q334
       have p335 : 0 ≤ (1 : Int) := (by omega)
       have q335 : 1 < (l1.length : Int) := dd_
       obtain ⟨ad335, e335, hx335_0⟩ := Kd.at_int HR1.out 1 p335 q335
       have hw335_0 := hx335_0
       (try rw [show ((1 : Int)).toNat = 1 from rfl] at hw335_0)
       (try rw [show 1 * 1 = 1 from rfl] at hw335_0)
       (try simp only [Nat.reduceMul, Nat.reduceEqDiff, Go.Addr.add, ↓reduceIte] at hw335_0)
       obtain rfl : ad328 = ad335 := (by injection e335)
       (try simp only [show (1 : Int).toNat = 1 from rfl, Nat.reduceMul, Nat.reduceEqDiff, Go.Addr.add, ↓reduceIte] at hx335_0)
       have qi335 : (1 < l1.length) = True := eq_true (by omega)
       (try rw [show ((1 : Int)).toNat = 1 from rfl] at hx335_0)
       replace hx335_0 := hc_ HB hx335_0
       replace p335 := eq_true p335
       replace q335 := eq_true q335
       have p336 : 0 ≤ (2 : Int) := (by omega)
       have q336 : 2 < (l1.length : Int) := dd_
       obtain ⟨ad336, e336, hx336_0⟩ := Kd.at_int HR1.out 2 p336 q336
       have hw336_0 := hx336_0
       (try rw [show ((2 : Int)).toNat = 2 from rfl] at hw336_0)
       (try rw [show 2 * 1 = 2 from rfl] at hw336_0)
       (try simp only [Nat.reduceMul, Nat.reduceEqDiff, Go.Addr.add, ↓reduceIte] at hw336_0)
       obtain rfl : ad328 = ad336 := (by injection e336)
       (try simp only [show (2 : Int).toNat = 2 from rfl, Nat.reduceMul, Nat.reduceEqDiff, Go.Addr.add, ↓reduceIte] at hx336_0)
       have qi336 : (2 < l1.length) = True := eq_true (by omega)
       (try rw [show ((2 : Int)).toNat = 2 from rfl] at hx336_0)
       replace hx336_0 := hc_ HB hx336_0
       replace p336 := eq_true p336
       replace q336 := eq_true q336
       refine start_ (n := 39) (S := fun w' => w'.cell? ad328 = some (.int .i64 (rd l1 0)) ∧ w'.cell? ⟨ad328.block, ad328.off + 1, none⟩ = some (.int .i64 (rd l1 1)) ∧ w'.cell? ad328 = some (.int .i64 (rd l1 0)) ∧ w'.cell? ⟨ad328.block, ad328.off + 2, none⟩ = some (.int .i64 (rd l1 2)) ∧ w'.cell? ⟨ad328.block, ad328.off + 1, none⟩ = some (.int .i64 (rd l1 1)) ∧ w'.cell? ⟨ad328.block, ad328.off + 2, none⟩ = some (.int .i64 (rd l1 2)) ∧ w'.cell? ad328 = some (.int .i64 (rd l1 0)) ∧ w'.cell? ⟨ad328.block, ad328.off + 1, none⟩ = some (.int .i64 (rd l1 1)) ∧ w'.cell? ⟨ad328.block, ad328.off + 2, none⟩ = some (.int .i64 (rd l1 2))) (ds := []) #[F_,F_,F_,F_,F_,F_,F_,F_,F_,F_,F_,F_,F_,F_,F_,F_,F_,F_,F_,F_,F_,F_,F_,F_,F_,F_,F_,F_,F_,F_,F_,F_,F_,F_,F_,F_,F_,F_,F_] (by kernel_rfl) rfl rfl ⟨(hc_ HB hw328_0), (hc_ HB hw329_0), (hc_ HB hw330_0), (hc_ HB hw331_0), (hc_ HB hw332_0), (hc_ HB hw333_0), (hc_ HB hw334_0), (hc_ HB hw335_0), (hc_ HB hw336_0)⟩ (fun hHeld => ?_); refine with_tabW impl_plane_closes.tab1 impl_plane_closes.bits1 (fun HT_ HW_ => ?_)
       generalize w.drew = w13 at HB hx328_0 hx329_0 hx330_0 hx331_0 hx332_0 hx333_0 hx334_0 hx335_0 hx336_0 hHeld ⊢
       refine p_ 0 5 (m_ 39 1) HT_.out ?_
       refine p_ 1 6 (m_ 39 3) HT_.out ?_
       refine p_ 3 8 (m_ 39 11) HT_.out ?_
       refine p_ 4 9 (m_ 39 27) HT_.out ?_
       refine take_ (i := 2) (N := some 7) (v := ?_) (a' := ?_) (m_ 39 31) rfl rfl (take_ofW HT_.out HW_.out (by kernel_rfl)) (fun _ _ _ h => h) (Or.inl ⟨by rfl, ?_⟩) hHeld ?_ ?_; rotate_left; (rintro w' ⟨s0, s1, s2, s3, s4, s5, s6, s7, s8⟩; go_simp; with_reducible rfl); rotate_left; (simp only [Act.put, List.setIfInBounds_toArray, List.set_cons_zero, List.set_cons_succ, i64_w, i32_w]; rfl)
       refine take_ (i := 5) (N := some 10) (v := ?_) (a' := ?_) (m_ 39 63) rfl rfl (take_ofW HT_.out HW_.out (by kernel_rfl)) (fun _ _ _ h => h) (Or.inl ⟨by rfl, ?_⟩) hHeld ?_ ?_; rotate_left; (rintro w' ⟨s0, s1, s2, s3, s4, s5, s6, s7, s8⟩; go_simp; with_reducible rfl); rotate_left; (simp only [Act.put, List.setIfInBounds_toArray, List.set_cons_zero, List.set_cons_succ, i64_w, i32_w]; rfl)
       refine p_ 6 11 (m_ 39 127) HT_.out ?_
       refine p_ 7 12 (m_ 39 255) HT_.out ?_
       refine p_ 8 13 (m_ 39 511) HT_.out ?_
       refine p_ 9 14 (m_ 39 1023) HT_.out ?_
       refine p_ 11 16 (m_ 39 3071) HT_.out ?_
       refine p_ 12 17 (m_ 39 7167) HT_.out ?_
       refine take_ (i := 10) (N := some 15) (v := ?_) (a' := ?_) (m_ 39 8191) rfl rfl (take_ofW HT_.out HW_.out (by kernel_rfl)) (fun _ _ _ h => h) (Or.inl ⟨by rfl, ?_⟩) hHeld ?_ ?_; rotate_left; (rintro w' ⟨s0, s1, s2, s3, s4, s5, s6, s7, s8⟩; go_simp; with_reducible rfl); rotate_left; (simp only [Act.put, List.setIfInBounds_toArray, List.set_cons_zero, List.set_cons_succ, i64_w, i32_w]; rfl)
       refine take_ (i := 13) (N := some 18) (v := ?_) (a' := ?_) (m_ 39 16383) rfl rfl (take_ofW HT_.out HW_.out (by kernel_rfl)) (fun _ _ _ h => h) (Or.inl ⟨by rfl, ?_⟩) hHeld ?_ ?_; rotate_left; (rintro w' ⟨s0, s1, s2, s3, s4, s5, s6, s7, s8⟩; go_simp; with_reducible rfl); rotate_left; (simp only [Act.put, List.setIfInBounds_toArray, List.set_cons_zero, List.set_cons_succ, i64_w, i32_w]; rfl)
       refine p_ 14 19 (m_ 39 32767) HT_.out ?_
       refine p_ 15 20 (m_ 39 65535) HT_.out ?_
       refine p_ 16 21 (m_ 39 131071) HT_.out ?_
       refine p_ 17 22 (m_ 39 262143) HT_.out ?_
       refine p_ 18 23 (m_ 39 524287) HT_.out ?_
       refine p_ 20 25 (m_ 39 1572863) HT_.out ?_
       refine p_ 21 26 (m_ 39 3670015) HT_.out ?_
       refine take_ (i := 19) (N := some 24) (v := ?_) (a' := ?_) (m_ 39 4194303) rfl rfl (take_ofW HT_.out HW_.out (by kernel_rfl)) (fun _ _ _ h => h) (Or.inl ⟨by rfl, ?_⟩) hHeld ?_ ?_; rotate_left; (rintro w' ⟨s0, s1, s2, s3, s4, s5, s6, s7, s8⟩; go_simp; with_reducible rfl); rotate_left; (simp only [Act.put, List.setIfInBounds_toArray, List.set_cons_zero, List.set_cons_succ, i64_w, i32_w]; rfl)
       refine take_ (i := 22) (N := some 27) (v := ?_) (a' := ?_) (m_ 39 8388607) rfl rfl (take_ofW HT_.out HW_.out (by kernel_rfl)) (fun _ _ _ h => h) (Or.inl ⟨by rfl, ?_⟩) hHeld ?_ ?_; rotate_left; (rintro w' ⟨s0, s1, s2, s3, s4, s5, s6, s7, s8⟩; go_simp; with_reducible rfl); rotate_left; (simp only [Act.put, List.setIfInBounds_toArray, List.set_cons_zero, List.set_cons_succ, i64_w, i32_w]; rfl)
       refine p_ 23 28 (m_ 39 16777215) HT_.out ?_
       refine p_ 24 29 (m_ 39 33554431) HT_.out ?_
       refine p_ 25 30 (m_ 39 67108863) HT_.out ?_
       refine p_ 26 31 (m_ 39 134217727) HT_.out ?_
       refine p_ 27 32 (m_ 39 268435455) HT_.out ?_
       refine p_ 28 33 (m_ 39 536870911) HT_.out ?_
       refine p_ 30 35 (m_ 39 1610612735) HT_.out ?_
       refine p_ 31 36 (m_ 39 3758096383) HT_.out ?_
       refine p_ 33 38 (m_ 39 12348030975) HT_.out ?_
       refine p_ 34 39 (m_ 39 29527900159) HT_.out ?_
       refine take_ (i := 29) (N := some 34) (v := ?_) (a' := ?_) (m_ 39 30064771071) rfl rfl (take_ofW HT_.out HW_.out (by kernel_rfl)) (fun _ _ _ h => h) (Or.inl ⟨by rfl, ?_⟩) hHeld ?_ ?_; rotate_left; (rintro w' ⟨s0, s1, s2, s3, s4, s5, s6, s7, s8⟩; go_simp; with_reducible rfl); rotate_left; (simp only [Act.put, List.setIfInBounds_toArray, List.set_cons_zero, List.set_cons_succ, i64_w, i32_w]; rfl)
       refine take_ (i := 32) (N := some 37) (v := ?_) (a' := ?_) (m_ 39 34359738367) rfl rfl (take_ofW HT_.out HW_.out (by kernel_rfl)) (fun _ _ _ h => h) (Or.inl ⟨by rfl, ?_⟩) hHeld ?_ ?_; rotate_left; (rintro w' ⟨s0, s1, s2, s3, s4, s5, s6, s7, s8⟩; go_simp; with_reducible rfl); rotate_left; (simp only [Act.put, List.setIfInBounds_toArray, List.set_cons_zero, List.set_cons_succ, i64_w, i32_w]; rfl)
       refine take_ (i := 35) (N := some 40) (v := ?_) (a' := ?_) (m_ 39 68719476735) rfl rfl (take_ofW HT_.out HW_.out (by kernel_rfl)) (fun _ _ _ h => h) (Or.inl ⟨by rfl, ?_⟩) hHeld ?_ ?_; rotate_left; (rintro w' ⟨s0, s1, s2, s3, s4, s5, s6, s7, s8⟩; go_simp; with_reducible rfl); rotate_left; (simp only [Act.put, List.setIfInBounds_toArray, List.set_cons_zero, List.set_cons_succ, i64_w, i32_w]; rfl)
       refine one_ (i := 36) (N := some 41) (m_ 39 137438953471) rfl rfl (one_of HT_.out (by kernel_rfl)) (by decide) (fun K hK => ?_)
       refine goes_ Try.func127 (by kernel_rfl) rfl #[.slice A0 l0.length c0, .int .i64 (rd l1 0), .int .i64 (rd l1 1), .int .i64 (rd l1 2)] (by rfl) rfl rfl ll_ ?_
       with_reducible refine (impl_plane_three.calls k _ _ l0 (rd l1 0) (rd l1 1) (rd l1 2) t337 _ ?side1 ?side2 A12.out).mono ?_
       (case side1 => exact sb_ HR0 HB)
       (case side2 => exact HC0.out)
       rintro e w' ⟨rfl, ⟨nd, rfl⟩⟩
       refine ⟨_, rfl, ?_⟩
       refine hK.out _ _ ⟨(hc_ HB hw328_0), (hc_ HB hw329_0), (hc_ HB hw330_0), (hc_ HB hw331_0), (hc_ HB hw332_0), (hc_ HB hw333_0), (hc_ HB hw334_0), (hc_ HB hw335_0), (hc_ HB hw336_0)⟩ (fun hHeld => ?_)
       clear hK K
       refine norm_ (a' := ?_) ?_ ?_; rotate_left; (show Act.put _ (some 41) _ = _; simp only [Act.put, List.setIfInBounds_toArray, List.set_cons_zero, List.set_cons_succ, i64_w, i32_w]; rfl)
       refine p_ 37 42 (m_ 39 274877906943) HT_.out ?_
       refine p_ 38 4 (m_ 39 549755813887) HT_.out ?_
       refine done_ (done_of HT_.out (by kernel_rfl)) ?_
       try go_wp2
       go_ret
       exact ⟨ee_, bb_ HB⟩
    ·rw [if_neg c7] at H
     exact absurd H (by simp)
  ·rw [if_neg c4] at H
   exact absurd H (by simp)
 ·rw [if_neg c3] at H
  exact absurd H (by simp)
end Go.Proofs.Ytcbkoecanldlpaa.P

namespace Go.Proofs.Ytcbkoecanldlpaa.P
open Go.RowKit Go.Proofs.YtcbkoecanldlpaaW.PrintWords Go.Proofs.YtcbkoecanldlpaaW.PrintLast
set_option linter.unusedVariables false
set_option linter.unusedSimpArgs false

def impl_TwinCloses.f (k : Nat) (l0 : List Int) (l1 : List Int) : Option (Bool) := (impl_isSystem.f l0).bind fun t338 => (if t338 = true then ((impl_plane_isTwin.f k l0 l1).bind fun t339 => (if t339 = true then ((impl_plane_twinPoints.f k l0 l1).bind fun t340 => ((impl_plane_closes.f k l0 t340).bind fun t343 => (some t343))) else (some false))) else (some false))
set_option maxHeartbeats 8000000 in
set_option maxRecDepth 100000 in
theorem impl_TwinCloses.calls (k : Nat) (A0 : Option Addr) (c0 : Nat) (l0 : List Int) (A1 : Option Addr) (c1 : Nat) (l1 : List Int) (r : Bool) (w : World) (hr0 : Kd.C (Kd.int .i64) w A0 l0.length l0) (hc0 : l0.length ≤ c0) (hr1 : Kd.C (Kd.int .i64) w A1 l1.length l1) (hc1 : l1.length ≤ c1) (h : impl_TwinCloses.f k l0 l1 = some r) :
  Calls Try.prog 19 #[.slice A0 l0.length c0, .slice A1 l1.length c1] w fun e w' => e = .returned (.bool r) ∧ Below w.heap.size w w' := by
 have HR0 := Aside0.mk hr0
 have HC0 := Aside0.mk hc0
 clear hr0 hc0
 have HR1 := Aside0.mk hr1
 have HC1 := Aside0.mk hc1
 clear hr1 hc1
 have HB := Aside0.mk (Below.refl w.heap.size w)
 have H : ((impl_isSystem.f l0).bind fun t338 => (if t338 = true then ((impl_plane_isTwin.f k l0 l1).bind fun t339 => (if t339 = true then ((impl_plane_twinPoints.f k l0 l1).bind fun t340 => ((impl_plane_closes.f k l0 t340).bind fun t343 => (some t343))) else (some false))) else (some false))) = some r := h
 clear h
 replace H := Option.bind_eq_some_iff.mp H
 obtain ⟨t338, A30, H⟩ := H
 replace H : (if t338 = true then ((impl_plane_isTwin.f k l0 l1).bind fun t339 => (if t339 = true then ((impl_plane_twinPoints.f k l0 l1).bind fun t340 => ((impl_plane_closes.f k l0 t340).bind fun t343 => (some t343))) else (some false))) else (some false)) = some r := H
 have A3 := Aside0.mk A30
 clear A30
 by_cases c4 : t338 = true
 ·subst c4
  have H1 : ((impl_plane_isTwin.f k l0 l1).bind fun t339 => (if t339 = true then ((impl_plane_twinPoints.f k l0 l1).bind fun t340 => ((impl_plane_closes.f k l0 t340).bind fun t343 => (some t343))) else (some false))) = some r := by rw [if_pos rfl] at H; exact H
  clear H
  have H := H1
  clear H1
  replace H := Option.bind_eq_some_iff.mp H
  obtain ⟨t339, A50, H⟩ := H
  replace H : (if t339 = true then ((impl_plane_twinPoints.f k l0 l1).bind fun t340 => ((impl_plane_closes.f k l0 t340).bind fun t343 => (some t343))) else (some false)) = some r := H
  have A5 := Aside0.mk A50
  clear A50
  by_cases c6 : t339 = true
  ·subst c6
   have H1 : ((impl_plane_twinPoints.f k l0 l1).bind fun t340 => ((impl_plane_closes.f k l0 t340).bind fun t343 => (some t343))) = some r := by rw [if_pos rfl] at H; exact H
   clear H
   have H := H1
   clear H1
   replace H := Option.bind_eq_some_iff.mp H
   obtain ⟨t340, A70, H⟩ := H
   replace H : ((impl_plane_closes.f k l0 t340).bind fun t343 => (some t343)) = some r := H
   have A7 := Aside0.mk A70
   clear A70
   replace H := Option.bind_eq_some_iff.mp H
   obtain ⟨t343, A80, H⟩ := H
   replace H : (some t343) = some r := H
   have A8 := Aside0.mk A80
   clear A80
   obtain rfl := Option.some.inj H
   go_enter Try.func19, Try.ntmps19
   go_wp2_with (first | (refine goesL_ (some 6) rfl rfl Try.func61 (by kernel_rfl) rfl #[.slice A0 l0.length c0] rfl ll_ ?_; (with_reducible refine (impl_isSystem.calls _ _ l0 true _ ?side1 ?side2 A3.out).mono ?_); (case side1 => exact ss_ HR0); (case side2 => exact HC0.out); rintro e w9 ⟨rfl, hb⟩; refine ⟨_, rfl, ?_⟩; have n0_ := Aside0.mk (below_step (bb_ HB) hb); clear HB; have HB := n0_; clear n0_; (try clear hb); (try clear hb2); (try clear hk); (try clear hi)) | (go_at_call 62; (with_reducible refine (impl_plane_isTwin.calls k _ _ l0 _ _ l1 true _ ?side1 ?side2 ?side3 ?side4 A5.out).mono ?_); (case side1 => exact sb_ HR0 HB); (case side2 => exact HC0.out); (case side3 => exact sb_ HR1 HB); (case side4 => exact HC1.out); rintro e w10 ⟨rfl, hb⟩; have n0_ := Aside0.mk (below_step (bb_ HB) hb); clear HB; have HB := n0_; clear n0_; (try clear hb); (try clear hb2); (try clear hk); (try clear hi)) | (go_at_call 67; (with_reducible refine (impl_plane_twinPoints.calls k _ _ l0 _ _ l1 t340 _ ?side1 ?side2 ?side3 ?side4 A7.out).mono ?_); (case side1 => exact sb_ HR0 HB); (case side2 => exact HC0.out); (case side3 => exact sb_ HR1 HB); (case side4 => exact HC1.out); rintro e w11 ⟨v341, rfl, ho0, hb⟩; have n0_ := Aside0.mk (Kd.R_lower ho0 (below_size (bb_ HB))); have n1_ := Aside0.mk (below_step (bb_ HB) hb); clear HB; have HO342 := n0_; have HB := n1_; clear n0_ n1_; (try clear hb); (try clear hb2); (try clear hk); (try clear hi); (try clear ho0); obtain ⟨Ao12, co12, eo12⟩ := Kd.R_slice HO342.out; subst eo12) | (go_at_call 68; (with_reducible refine (impl_plane_closes.calls k _ _ l0 _ _ t340 t343 _ ?side1 ?side2 ?side3 ?side4 A8.out).mono ?_); (case side1 => exact sb_ HR0 HB); (case side2 => exact HC0.out); (case side3 => exact cc_ HO342); (case side4 => exact (Kd.R_reads' HO342.out).2.1); rintro e w13 ⟨rfl, hb⟩; have n0_ := Aside0.mk (Kd.R_below (rr_ HO342) hb); have n1_ := Aside0.mk (below_step (bb_ HB) hb); clear HO342; clear HB; have HO342 := n0_; have HB := n1_; clear n0_ n1_; (try clear hb); (try clear hb2); (try clear hk); (try clear hi)))
   go_ret
   exact ⟨ee_, bb_ HB⟩
  ·replace c6 := Bool.eq_false_iff.mpr c6
   subst c6
   have H1 : (some false) = some r := by rw [if_neg (show ¬ (false = true) by decide)] at H; exact H
   clear H
   have H := H1
   clear H1
   obtain rfl := Option.some.inj H
   go_enter Try.func19, Try.ntmps19
   go_wp2_with (first | (refine goesL_ (some 6) rfl rfl Try.func61 (by kernel_rfl) rfl #[.slice A0 l0.length c0] rfl ll_ ?_; (with_reducible refine (impl_isSystem.calls _ _ l0 true _ ?side1 ?side2 A3.out).mono ?_); (case side1 => exact ss_ HR0); (case side2 => exact HC0.out); rintro e w14 ⟨rfl, hb⟩; refine ⟨_, rfl, ?_⟩; have n0_ := Aside0.mk (below_step (bb_ HB) hb); clear HB; have HB := n0_; clear n0_; (try clear hb); (try clear hb2); (try clear hk); (try clear hi)) | (go_at_call 62; (with_reducible refine (impl_plane_isTwin.calls k _ _ l0 _ _ l1 false _ ?side1 ?side2 ?side3 ?side4 A5.out).mono ?_); (case side1 => exact sb_ HR0 HB); (case side2 => exact HC0.out); (case side3 => exact sb_ HR1 HB); (case side4 => exact HC1.out); rintro e w15 ⟨rfl, hb⟩; have n0_ := Aside0.mk (below_step (bb_ HB) hb); clear HB; have HB := n0_; clear n0_; (try clear hb); (try clear hb2); (try clear hk); (try clear hi)))
   go_ret
   exact ⟨ee_, bb_ HB⟩
 ·replace c4 := Bool.eq_false_iff.mpr c4
  subst c4
  have H1 : (some false) = some r := by rw [if_neg (show ¬ (false = true) by decide)] at H; exact H
  clear H
  have H := H1
  clear H1
  obtain rfl := Option.some.inj H
  go_enter Try.func19, Try.ntmps19
  go_wp2_with (first | (refine goesL_ (some 6) rfl rfl Try.func61 (by kernel_rfl) rfl #[.slice A0 l0.length c0] rfl ll_ ?_; (with_reducible refine (impl_isSystem.calls _ _ l0 false _ ?side1 ?side2 A3.out).mono ?_); (case side1 => exact ss_ HR0); (case side2 => exact HC0.out); rintro e w16 ⟨rfl, hb⟩; refine ⟨_, rfl, ?_⟩; have n0_ := Aside0.mk (below_step (bb_ HB) hb); clear HB; have HB := n0_; clear n0_; (try clear hb); (try clear hb2); (try clear hk); (try clear hi)))
  go_ret
  exact ⟨ee_, bb_ HB⟩
end Go.Proofs.Ytcbkoecanldlpaa.P

namespace Go.Proofs.Ytcbkoecanldlpaa.P
open Go.RowKit Go.Proofs.YtcbkoecanldlpaaW.PrintWords Go.Proofs.YtcbkoecanldlpaaW.PrintLast
set_option linter.unusedVariables false
set_option linter.unusedSimpArgs false

def spec_l4Row.f (k : Nat) (l0 : List Int) (a1 : Int) (a2 : Int) (a3 : Int) : Option (Bool) := if a1 = a2 then (some true) else (if a1 = a3 then (some true) else (if a2 = a3 then (some true) else ((spec_l3Three.f k l0 a1 a2 a3).bind fun t411 => (some t411))))
set_option maxHeartbeats 8000000 in
set_option maxRecDepth 100000 in
theorem spec_l4Row.calls (k : Nat) (A0 : Option Addr) (c0 : Nat) (l0 : List Int) (a1 : Int) (a2 : Int) (a3 : Int) (r : Bool) (w : World) (hr0 : Kd.C (Kd.int .i64) w A0 l0.length l0) (hc0 : l0.length ≤ c0) (h : spec_l4Row.f k l0 a1 a2 a3 = some r) :
  Calls Try.prog 71 #[.slice A0 l0.length c0, .int .i64 a1, .int .i64 a2, .int .i64 a3] w fun e w' => e = .returned (.bool r) ∧ Drawn0 w w' := by
 have HR0 := Aside0.mk hr0
 have HC0 := Aside0.mk hc0
 clear hr0 hc0
 have H : (if a1 = a2 then (some true) else (if a1 = a3 then (some true) else (if a2 = a3 then (some true) else ((spec_l3Three.f k l0 a1 a2 a3).bind fun t411 => (some t411))))) = some r := h
 clear h
 by_cases c5 : a1 = a2
 ·rw [if_pos c5] at H
  have c5b0 : (a1 == a2) = true := beq_iff_eq.mpr c5
  have c5b1 : (a1 != a2) = false := bne_eq_false_iff_eq.mpr c5
  clear c5
  obtain rfl := Option.some.inj H
  go_enter Try.func71, Try.ntmps71
  go_wp2
  go_ret
  exact ⟨by first | rfl | (simp; done) | (simp [*]; done), by repeat (first | exact Drawn0.refl _ | apply Drawn0.step)⟩
 ·rw [if_neg c5] at H
  have c5b0 : (a1 == a2) = false := beq_eq_false_iff_ne.mpr c5
  have c5b1 : (a1 != a2) = true := bne_iff_ne.mpr c5
  by_cases c6 : a1 = a3
  ·rw [if_pos c6] at H
   have c6b0 : (a1 == a3) = true := beq_iff_eq.mpr c6
   have c6b1 : (a1 != a3) = false := bne_eq_false_iff_eq.mpr c6
   clear c6
   obtain rfl := Option.some.inj H
   go_enter Try.func71, Try.ntmps71
   go_wp2
   go_ret
   exact ⟨by first | rfl | (simp; done) | (simp [*]; done), by repeat (first | exact Drawn0.refl _ | apply Drawn0.step)⟩
  ·rw [if_neg c6] at H
   have c6b0 : (a1 == a3) = false := beq_eq_false_iff_ne.mpr c6
   have c6b1 : (a1 != a3) = true := bne_iff_ne.mpr c6
   by_cases c7 : a2 = a3
   ·rw [if_pos c7] at H
    have c7b0 : (a2 == a3) = true := beq_iff_eq.mpr c7
    have c7b1 : (a2 != a3) = false := bne_eq_false_iff_eq.mpr c7
    clear c7
    obtain rfl := Option.some.inj H
    go_enter Try.func71, Try.ntmps71
    go_wp2
    go_ret
    exact ⟨by first | rfl | (simp; done) | (simp [*]; done), by repeat (first | exact Drawn0.refl _ | apply Drawn0.step)⟩
   ·rw [if_neg c7] at H
    have c7b0 : (a2 == a3) = false := beq_eq_false_iff_ne.mpr c7
    have c7b1 : (a2 != a3) = true := bne_iff_ne.mpr c7
    replace H := Option.bind_eq_some_iff.mp H
    obtain ⟨t411, A80, H⟩ := H
    replace H : (some t411) = some r := H
    have A8 := Aside0.mk A80
    clear A80
    obtain rfl := Option.some.inj H
    go_enter Try.func71, Try.ntmps71
    go_wp2_with (first | (go_at_call 65; (with_reducible refine (spec_l3Three.calls k _ _ l0 a1 a2 a3 t411 _ ?side1 ?side2 A8.out).mono ?_); (case side1 => exact ss_ HR0); (case side2 => exact HC0.out); rintro e w' ⟨rfl, ⟨nd, rfl⟩⟩))
    go_ret
    exact ⟨by first | rfl | (simp; done) | (simp [*]; done), by repeat (first | exact Drawn0.refl _ | apply Drawn0.step)⟩
end Go.Proofs.Ytcbkoecanldlpaa.P

namespace Go.Proofs.Ytcbkoecanldlpaa.P
open Go.RowKit Go.Proofs.YtcbkoecanldlpaaW.PrintWords Go.Proofs.YtcbkoecanldlpaaW.PrintLast
set_option linter.unusedVariables false
set_option linter.unusedSimpArgs false

def spec_TwinCloses.f (k : Nat) (l0 : List Int) (l1 : List Int) : Option (Bool) := (spec_TwinPoints.f k l0 l1).bind fun bt412 => (if bt412.2 = true then (if 0 < (bt412.1.length : Int) then (if 1 < (bt412.1.length : Int) then (if 2 < (bt412.1.length : Int) then ((spec_l4Row.f k l0 (rd bt412.1 0) (rd bt412.1 1) (rd bt412.1 2)).bind fun t419 => (some t419)) else (none)) else (none)) else (none)) else (some false))
set_option maxHeartbeats 8000000 in
set_option maxRecDepth 100000 in
theorem spec_TwinCloses.calls (k : Nat) (A0 : Option Addr) (c0 : Nat) (l0 : List Int) (A1 : Option Addr) (c1 : Nat) (l1 : List Int) (r : Bool) (w : World) (hr0 : Kd.C (Kd.int .i64) w A0 l0.length l0) (hc0 : l0.length ≤ c0) (hr1 : Kd.C (Kd.int .i64) w A1 l1.length l1) (hc1 : l1.length ≤ c1) (h : spec_TwinCloses.f k l0 l1 = some r) :
  Calls Try.prog 22 #[.slice A0 l0.length c0, .slice A1 l1.length c1] w fun e w' => e = .returned (.bool r) ∧ Below w.heap.size w w' := by
 have HR0 := Aside0.mk hr0
 have HC0 := Aside0.mk hc0
 clear hr0 hc0
 have HR1 := Aside0.mk hr1
 have HC1 := Aside0.mk hc1
 clear hr1 hc1
 have HB := Aside0.mk (Below.refl w.heap.size w)
 have H : ((spec_TwinPoints.f k l0 l1).bind fun bt412 => (if bt412.2 = true then (if 0 < (bt412.1.length : Int) then (if 1 < (bt412.1.length : Int) then (if 2 < (bt412.1.length : Int) then ((spec_l4Row.f k l0 (rd bt412.1 0) (rd bt412.1 1) (rd bt412.1 2)).bind fun t419 => (some t419)) else (none)) else (none)) else (none)) else (some false))) = some r := h
 clear h
 replace H := Option.bind_eq_some_iff.mp H
 obtain ⟨⟨t412, t413⟩, A30, H⟩ := H
 replace H : (if t413 = true then (if 0 < (t412.length : Int) then (if 1 < (t412.length : Int) then (if 2 < (t412.length : Int) then ((spec_l4Row.f k l0 (rd t412 0) (rd t412 1) (rd t412 2)).bind fun t419 => (some t419)) else (none)) else (none)) else (none)) else (some false)) = some r := H
 have A3 := Aside0.mk A30
 clear A30
 by_cases c4 : t413 = true
 ·subst c4
  have H1 : (if 0 < (t412.length : Int) then (if 1 < (t412.length : Int) then (if 2 < (t412.length : Int) then ((spec_l4Row.f k l0 (rd t412 0) (rd t412 1) (rd t412 2)).bind fun t419 => (some t419)) else (none)) else (none)) else (none)) = some r := by rw [if_pos rfl] at H; exact H
  clear H
  have H := H1
  clear H1
  by_cases c5 : 0 < (t412.length : Int)
  ·rw [if_pos c5] at H
   have c5b0 : decide (0 < (t412.length : Int)) = true := decide_eq_true c5
   have c5b1 : decide (0 < t412.length) = true := decide_eq_true (by omega)
   clear c5
   by_cases c6 : 1 < (t412.length : Int)
   ·rw [if_pos c6] at H
    have c6b0 : decide (1 < (t412.length : Int)) = true := decide_eq_true c6
    have c6b1 : decide (1 < t412.length) = true := decide_eq_true (by omega)
    clear c6
    by_cases c7 : 2 < (t412.length : Int)
    ·rw [if_pos c7] at H
     have c7b0 : decide (2 < (t412.length : Int)) = true := decide_eq_true c7
     have c7b1 : decide (2 < t412.length) = true := decide_eq_true (by omega)
     clear c7
     replace H := Option.bind_eq_some_iff.mp H
     obtain ⟨t419, A80, H⟩ := H
     replace H : (some t419) = some r := H
     have A8 := Aside0.mk A80
     clear A80
     obtain rfl := Option.some.inj H
     go_enter Try.func22, Try.ntmps22
     go_wp2_with (first | (go_at_call 24; (with_reducible refine (spec_TwinPoints.calls k _ _ l0 _ _ l1 t412 true _ ?side1 ?side2 ?side3 ?side4 A3.out).mono ?_); (case side1 => exact ss_ HR0); (case side2 => exact HC0.out); (case side3 => exact ss_ HR1); (case side4 => exact HC1.out); rintro e w9 ⟨v414, rfl, ho0, hb⟩; have n0_ := Aside0.mk (Kd.R_lower ho0 (below_size (bb_ HB))); have n1_ := Aside0.mk (below_step (bb_ HB) hb); clear HB; have HO415 := n0_; have HB := n1_; clear n0_ n1_; (try clear hb); (try clear hb2); (try clear hk); (try clear hi); (try clear ho0); obtain ⟨Ao10, co10, eo10⟩ := Kd.R_slice HO415.out; subst eo10; have p416 : 0 ≤ (0 : Int) := (by omega); have q416 : 0 < (t412.length : Int) := dd_; obtain ⟨ad416, e416, hx416_0⟩ := Kd.at_int (Kd.R_reads' HO415.out).2.2 0 p416 q416; cases e416; have qi416 : (0 < t412.length) = True := eq_true (by omega); (try rw [show ((0 : Int)).toNat = 0 from rfl] at hx416_0); (try rw [Addr.add_zero'] at hx416_0); replace p416 := eq_true p416; replace q416 := eq_true q416; have p417 : 0 ≤ (1 : Int) := (by omega); have q417 : 1 < (t412.length : Int) := dd_; obtain ⟨ad417, e417, hx417_0⟩ := Kd.at_int (Kd.R_reads' HO415.out).2.2 1 p417 q417; obtain rfl : ad416 = ad417 := (by injection e417); (try simp only [show (1 : Int).toNat = 1 from rfl, Nat.reduceMul, Nat.reduceEqDiff, Go.Addr.add, ↓reduceIte] at hx417_0); have qi417 : (1 < t412.length) = True := eq_true (by omega); (try rw [show ((1 : Int)).toNat = 1 from rfl] at hx417_0); replace p417 := eq_true p417; replace q417 := eq_true q417; have p418 : 0 ≤ (2 : Int) := (by omega); have q418 : 2 < (t412.length : Int) := dd_; obtain ⟨ad418, e418, hx418_0⟩ := Kd.at_int (Kd.R_reads' HO415.out).2.2 2 p418 q418; obtain rfl : ad416 = ad418 := (by injection e418); (try simp only [show (2 : Int).toNat = 2 from rfl, Nat.reduceMul, Nat.reduceEqDiff, Go.Addr.add, ↓reduceIte] at hx418_0); have qi418 : (2 < t412.length) = True := eq_true (by omega); (try rw [show ((2 : Int)).toNat = 2 from rfl] at hx418_0); replace p418 := eq_true p418; replace q418 := eq_true q418) | (go_at_call 71; (with_reducible refine (spec_l4Row.calls k _ _ l0 (rd t412 0) (rd t412 1) (rd t412 2) t419 _ ?side1 ?side2 A8.out).mono ?_); (case side1 => exact sb_ HR0 HB); (case side2 => exact HC0.out); rintro e w' ⟨rfl, ⟨nd, rfl⟩⟩; (try first | exact ⟨rfl, _, World.drewN_drewN _ _ _⟩ | exact ⟨rfl, _, Eq.trans (World.drewN_drewN _ _ _) (congrArg (World.drewN _) (Nat.add_assoc _ _ _))⟩)))
     repeat (go_quiet (first | (go_at_call 24; (with_reducible refine (spec_TwinPoints.calls k _ _ l0 _ _ l1 t412 true _ ?side1 ?side2 ?side3 ?side4 A3.out).mono ?_); (case side1 => exact ss_ HR0); (case side2 => exact HC0.out); (case side3 => exact ss_ HR1); (case side4 => exact HC1.out); rintro e w9 ⟨v414, rfl, ho0, hb⟩; have n0_ := Aside0.mk (Kd.R_lower ho0 (below_size (bb_ HB))); have n1_ := Aside0.mk (below_step (bb_ HB) hb); clear HB; have HO415 := n0_; have HB := n1_; clear n0_ n1_; (try clear hb); (try clear hb2); (try clear hk); (try clear hi); (try clear ho0); obtain ⟨Ao10, co10, eo10⟩ := Kd.R_slice HO415.out; subst eo10; have p416 : 0 ≤ (0 : Int) := (by omega); have q416 : 0 < (t412.length : Int) := dd_; obtain ⟨ad416, e416, hx416_0⟩ := Kd.at_int (Kd.R_reads' HO415.out).2.2 0 p416 q416; cases e416; have qi416 : (0 < t412.length) = True := eq_true (by omega); (try rw [show ((0 : Int)).toNat = 0 from rfl] at hx416_0); (try rw [Addr.add_zero'] at hx416_0); replace p416 := eq_true p416; replace q416 := eq_true q416; have p417 : 0 ≤ (1 : Int) := (by omega); have q417 : 1 < (t412.length : Int) := dd_; obtain ⟨ad417, e417, hx417_0⟩ := Kd.at_int (Kd.R_reads' HO415.out).2.2 1 p417 q417; obtain rfl : ad416 = ad417 := (by injection e417); (try simp only [show (1 : Int).toNat = 1 from rfl, Nat.reduceMul, Nat.reduceEqDiff, Go.Addr.add, ↓reduceIte] at hx417_0); have qi417 : (1 < t412.length) = True := eq_true (by omega); (try rw [show ((1 : Int)).toNat = 1 from rfl] at hx417_0); replace p417 := eq_true p417; replace q417 := eq_true q417; have p418 : 0 ≤ (2 : Int) := (by omega); have q418 : 2 < (t412.length : Int) := dd_; obtain ⟨ad418, e418, hx418_0⟩ := Kd.at_int (Kd.R_reads' HO415.out).2.2 2 p418 q418; obtain rfl : ad416 = ad418 := (by injection e418); (try simp only [show (2 : Int).toNat = 2 from rfl, Nat.reduceMul, Nat.reduceEqDiff, Go.Addr.add, ↓reduceIte] at hx418_0); have qi418 : (2 < t412.length) = True := eq_true (by omega); (try rw [show ((2 : Int)).toNat = 2 from rfl] at hx418_0); replace p418 := eq_true p418; replace q418 := eq_true q418) | (go_at_call 71; (with_reducible refine (spec_l4Row.calls k _ _ l0 (rd t412 0) (rd t412 1) (rd t412 2) t419 _ ?side1 ?side2 A8.out).mono ?_); (case side1 => exact sb_ HR0 HB); (case side2 => exact HC0.out); rintro e w' ⟨rfl, ⟨nd, rfl⟩⟩; (try first | exact ⟨rfl, _, World.drewN_drewN _ _ _⟩ | exact ⟨rfl, _, Eq.trans (World.drewN_drewN _ _ _) (congrArg (World.drewN _) (Nat.add_assoc _ _ _))⟩))); try go_wp2_with (first | (go_at_call 24; (with_reducible refine (spec_TwinPoints.calls k _ _ l0 _ _ l1 t412 true _ ?side1 ?side2 ?side3 ?side4 A3.out).mono ?_); (case side1 => exact ss_ HR0); (case side2 => exact HC0.out); (case side3 => exact ss_ HR1); (case side4 => exact HC1.out); rintro e w9 ⟨v414, rfl, ho0, hb⟩; have n0_ := Aside0.mk (Kd.R_lower ho0 (below_size (bb_ HB))); have n1_ := Aside0.mk (below_step (bb_ HB) hb); clear HB; have HO415 := n0_; have HB := n1_; clear n0_ n1_; (try clear hb); (try clear hb2); (try clear hk); (try clear hi); (try clear ho0); obtain ⟨Ao10, co10, eo10⟩ := Kd.R_slice HO415.out; subst eo10; have p416 : 0 ≤ (0 : Int) := (by omega); have q416 : 0 < (t412.length : Int) := dd_; obtain ⟨ad416, e416, hx416_0⟩ := Kd.at_int (Kd.R_reads' HO415.out).2.2 0 p416 q416; cases e416; have qi416 : (0 < t412.length) = True := eq_true (by omega); (try rw [show ((0 : Int)).toNat = 0 from rfl] at hx416_0); (try rw [Addr.add_zero'] at hx416_0); replace p416 := eq_true p416; replace q416 := eq_true q416; have p417 : 0 ≤ (1 : Int) := (by omega); have q417 : 1 < (t412.length : Int) := dd_; obtain ⟨ad417, e417, hx417_0⟩ := Kd.at_int (Kd.R_reads' HO415.out).2.2 1 p417 q417; obtain rfl : ad416 = ad417 := (by injection e417); (try simp only [show (1 : Int).toNat = 1 from rfl, Nat.reduceMul, Nat.reduceEqDiff, Go.Addr.add, ↓reduceIte] at hx417_0); have qi417 : (1 < t412.length) = True := eq_true (by omega); (try rw [show ((1 : Int)).toNat = 1 from rfl] at hx417_0); replace p417 := eq_true p417; replace q417 := eq_true q417; have p418 : 0 ≤ (2 : Int) := (by omega); have q418 : 2 < (t412.length : Int) := dd_; obtain ⟨ad418, e418, hx418_0⟩ := Kd.at_int (Kd.R_reads' HO415.out).2.2 2 p418 q418; obtain rfl : ad416 = ad418 := (by injection e418); (try simp only [show (2 : Int).toNat = 2 from rfl, Nat.reduceMul, Nat.reduceEqDiff, Go.Addr.add, ↓reduceIte] at hx418_0); have qi418 : (2 < t412.length) = True := eq_true (by omega); (try rw [show ((2 : Int)).toNat = 2 from rfl] at hx418_0); replace p418 := eq_true p418; replace q418 := eq_true q418) | (go_at_call 71; (with_reducible refine (spec_l4Row.calls k _ _ l0 (rd t412 0) (rd t412 1) (rd t412 2) t419 _ ?side1 ?side2 A8.out).mono ?_); (case side1 => exact sb_ HR0 HB); (case side2 => exact HC0.out); rintro e w' ⟨rfl, ⟨nd, rfl⟩⟩; (try first | exact ⟨rfl, _, World.drewN_drewN _ _ _⟩ | exact ⟨rfl, _, Eq.trans (World.drewN_drewN _ _ _) (congrArg (World.drewN _) (Nat.add_assoc _ _ _))⟩))))
     go_ret
     exact ⟨ee_, bb_ HB⟩
    ·rw [if_neg c7] at H
     exact absurd H (by simp)
   ·rw [if_neg c6] at H
    exact absurd H (by simp)
  ·rw [if_neg c5] at H
   exact absurd H (by simp)
 ·replace c4 := Bool.eq_false_iff.mpr c4
  subst c4
  have H1 : (some false) = some r := by rw [if_neg (show ¬ (false = true) by decide)] at H; exact H
  clear H
  have H := H1
  clear H1
  obtain rfl := Option.some.inj H
  go_enter Try.func22, Try.ntmps22
  go_wp2_with (first | (go_at_call 24; (with_reducible refine (spec_TwinPoints.calls k _ _ l0 _ _ l1 t412 false _ ?side1 ?side2 ?side3 ?side4 A3.out).mono ?_); (case side1 => exact ss_ HR0); (case side2 => exact HC0.out); (case side3 => exact ss_ HR1); (case side4 => exact HC1.out); rintro e w11 ⟨v414, rfl, ho0, hb⟩; have n0_ := Aside0.mk (Kd.R_lower ho0 (below_size (bb_ HB))); have n1_ := Aside0.mk (below_step (bb_ HB) hb); clear HB; have HO415 := n0_; have HB := n1_; clear n0_ n1_; (try clear hb); (try clear hb2); (try clear hk); (try clear hi); (try clear ho0)))
  repeat (go_quiet (first | (go_at_call 24; (with_reducible refine (spec_TwinPoints.calls k _ _ l0 _ _ l1 t412 false _ ?side1 ?side2 ?side3 ?side4 A3.out).mono ?_); (case side1 => exact ss_ HR0); (case side2 => exact HC0.out); (case side3 => exact ss_ HR1); (case side4 => exact HC1.out); rintro e w11 ⟨v414, rfl, ho0, hb⟩; have n0_ := Aside0.mk (Kd.R_lower ho0 (below_size (bb_ HB))); have n1_ := Aside0.mk (below_step (bb_ HB) hb); clear HB; have HO415 := n0_; have HB := n1_; clear n0_ n1_; (try clear hb); (try clear hb2); (try clear hk); (try clear hi); (try clear ho0))); try go_wp2_with (first | (go_at_call 24; (with_reducible refine (spec_TwinPoints.calls k _ _ l0 _ _ l1 t412 false _ ?side1 ?side2 ?side3 ?side4 A3.out).mono ?_); (case side1 => exact ss_ HR0); (case side2 => exact HC0.out); (case side3 => exact ss_ HR1); (case side4 => exact HC1.out); rintro e w11 ⟨v414, rfl, ho0, hb⟩; have n0_ := Aside0.mk (Kd.R_lower ho0 (below_size (bb_ HB))); have n1_ := Aside0.mk (below_step (bb_ HB) hb); clear HB; have HO415 := n0_; have HB := n1_; clear n0_ n1_; (try clear hb); (try clear hb2); (try clear hk); (try clear hi); (try clear ho0))))
  go_ret
  exact ⟨ee_, bb_ HB⟩
end Go.Proofs.Ytcbkoecanldlpaa.P

set_option linter.unusedVariables false
set_option linter.unusedSimpArgs false
namespace Go.Proofs.Ytcbkoecanldlpaa.X
open Go.RowKit Go.Proofs.YtcbkoecanldlpaaW.PrintWords Go.Proofs.YtcbkoecanldlpaaW.PrintLast Go.Proofs.Ytcbkoecanldlpaa.P

theorem w13 : wrap64 (1 + 3) = 4 := w64 (by omega) (by omega)
theorem w11 : wrap64 (1 + 1) = 2 := w64 (by omega) (by omega)
theorem w23 : wrap64 (2 + 3) = 5 := w64 (by omega) (by omega)
theorem w21 : wrap64 (2 + 1) = 3 := w64 (by omega) (by omega)
theorem w33 : wrap64 (3 + 3) = 6 := w64 (by omega) (by omega)
theorem w31 : wrap64 (3 + 1) = 4 := w64 (by omega) (by omega)
theorem three_ev {t : List Int} (hs : sysB t = true) {p q r : Int} (hp : In91 p) (hq : In91 q) (hr : In91 r) (hne : p ≠ q) : Ev (fun k => impl_plane_three.f k t p q r) (threeB t p q r) := by
  have hj := joinI_spec hs hp.1 hp.2 hq.1 hq.2 hne
  unfold impl_plane_three.f
  exact Ev.bind (join_ev (sysB_parts hs).1 hp hq) (Ev.fix (plane_on_eq (sysB_parts hs).1 hr ⟨hj.1, hj.2.1⟩) (Ev.done rfl))
theorem sthree_ev {t : List Int} (hs : sysB t = true) {p q r : Int} (hp : In91 p) (hq : In91 q) (hr : In91 r) (hne : p ≠ q) : Ev (fun k => spec_l3Three.f k t p q r) (threeB t p q r) := by
  have hj := joinI_spec hs hp.1 hp.2 hq.1 hq.2 hne
  unfold spec_l3Three.f
  exact Ev.bind (l3Join_ev hs hp hq hne) (Ev.fix (l3On_eq (sysB_parts hs).1 hr ⟨hj.1, hj.2.1⟩) (Ev.done rfl))
theorem isTwin_ev {t x : List Int} (hs : sysB t = true) (hx : x.length ≤ 1048576) : Ev (fun k => impl_plane_isTwin.f k t x) (twinB t x) := by
  unfold impl_plane_isTwin.f
  have hn := (sysB_parts hs).1
  have no : ∀ r, r = false → Ev (fun k => impl_plane_isTwin.j0 k t x true) r := fun r hr => by
    refine Ev.step (fun k => by rw [impl_plane_isTwin.j0]) ?_
    exact Ev.pos rfl (Ev.done (by rw [hr]))
  by_cases h7 : x.length = 7
  case neg => exact Ev.neg (by omega) (no _ (by unfold twinB; rw [decide_eq_false h7]; simp))
  refine Ev.pos (by omega) (Ev.fix (show impl_areDifferent.f x = some (diffB x) from if_pos hx) ?_)
  by_cases hd : diffB x = true
  case neg => exact Ev.neg hd (no _ (by unfold twinB; rw [Bool.eq_false_iff.2 hd]; simp))
  have P := fun (i : Int) (i0 : 0 ≤ i) (i1 : i < 7) => diffB_pt hd (i := i) i0 (by omega)
  have N := fun (i j : Int) (i0 : 0 ≤ i) (ij : i < j) (j1 : j < 7) => diffB_ne hd (i := i) (j := j) i0 ij (by omega)
  have P0 := P 0 (by omega) (by omega)
  have P1 := P 1 (by omega) (by omega)
  have P2 := P 2 (by omega) (by omega)
  have P3 := P 3 (by omega) (by omega)
  have P4 := P 4 (by omega) (by omega)
  have P5 := P 5 (by omega) (by omega)
  have P6 := P 6 (by omega) (by omega)
  have hln : ∀ i : Int, 1 ≤ i → i < 7 → In91 (joinI t (rd x 0) (rd x i)) := fun i i0 i1 => by
    have h := joinI_spec hs P0.1 P0.2 (P i (by omega) i1).1 (P i (by omega) i1).2 (N 0 i (by omega) (by omega) i1)
    exact ⟨h.1, h.2.1⟩
  have et : twinB t x = (twinC t x && (twinD t x && twinE t x)) := by unfold twinB; rw [hs, decide_eq_true h7, hd]; rfl
  refine Ev.pos hd (Ev.pos (by omega) (Ev.pos (by omega) (Ev.pos (by omega) (Ev.bind (three_ev hs P1 P2 P3 (N 1 2 (by omega) (by omega) (by omega))) ?_))))
  by_cases e1 : threeB t (rd x 1) (rd x 2) (rd x 3) = true
  case pos => exact Ev.pos e1 (no _ (by rw [et]; unfold twinE; rw [e1]; simp))
  refine Ev.neg e1 (Ev.pos (by omega) (Ev.pos (by omega) (Ev.pos (by omega) (Ev.bind (three_ev hs P4 P5 P6 (N 4 5 (by omega) (by omega) (by omega))) ?_))))
  by_cases e2 : threeB t (rd x 4) (rd x 5) (rd x 6) = true
  case pos => rw [e2]; exact no _ (by rw [et]; unfold twinE; rw [e2]; simp)
  have e1 := Bool.eq_false_iff.2 e1
  have e2 := Bool.eq_false_iff.2 e2
  have eE : twinE t x = true := by unfold twinE; rw [e1, e2]; rfl
  rw [e2]
  refine Ev.step (fun k => by rw [impl_plane_isTwin.j0]) ?_
  refine Ev.neg (by decide) ?_
  refine Ev.step (fun k => by rw [impl_plane_isTwin.l0]) ?_
  rw [w13, w11]
  refine Ev.pos (by omega) (Ev.pos (by omega) (Ev.pos (by omega) (Ev.pos (by omega) (Ev.bind (join_ev hn P0 P1) (Ev.pos (by decide) (Ev.pos (by rw [h7]; decide) (Ev.fix (plane_on_eq hn P4 (hln 1 (by omega) (by omega))) ?_)))))))
  by_cases c1 : onB t (rd x 4) (joinI t (rd x 0) (rd x 1)) = true
  case neg => exact Ev.neg c1 (Ev.done (by rw [et]; unfold twinC lnI; rw [Bool.eq_false_iff.2 c1]; rfl))
  refine Ev.pos c1 (Ev.bind (contains_ev [] (by simp) _) (Ev.neg (by simp) (Ev.pos (by simp) ?_)))
  refine Ev.step (fun k => by rw [impl_plane_isTwin.l0]) ?_
  rw [w23, w21]
  refine Ev.pos (by decide) (Ev.pos (by omega) (Ev.pos (by decide) (Ev.pos (by rw [h7]; decide) (Ev.bind (join_ev hn P0 P2) (Ev.pos (by decide) (Ev.pos (by rw [h7]; decide) (Ev.fix (plane_on_eq hn P5 (hln 2 (by omega) (by omega))) ?_)))))))
  by_cases c2 : onB t (rd x 5) (joinI t (rd x 0) (rd x 2)) = true
  case neg => exact Ev.neg c2 (Ev.done (by rw [et]; unfold twinC lnI; rw [Bool.eq_false_iff.2 c2]; simp))
  refine Ev.pos c2 (Ev.bind (contains_ev _ (by simp) _) ?_)
  by_cases d1 : joinI t (rd x 0) (rd x 1) = joinI t (rd x 0) (rd x 2)
  case pos => exact Ev.pos (by simp [d1]) (Ev.done (by rw [et]; unfold twinD lnI; rw [decide_eq_true d1]; simp))
  refine Ev.neg (by simp; exact fun h => d1 h.symm) (Ev.pos (by simp) ?_)
  refine Ev.step (fun k => by rw [impl_plane_isTwin.l0]) ?_
  rw [w33, w31]
  refine Ev.pos (by decide) (Ev.pos (by omega) (Ev.pos (by decide) (Ev.pos (by rw [h7]; decide) (Ev.bind (join_ev hn P0 P3) (Ev.pos (by decide) (Ev.pos (by rw [h7]; decide) (Ev.fix (plane_on_eq hn P6 (hln 3 (by omega) (by omega))) ?_)))))))
  by_cases c3 : onB t (rd x 6) (joinI t (rd x 0) (rd x 3)) = true
  case neg => exact Ev.neg c3 (Ev.done (by rw [et]; unfold twinC lnI; rw [Bool.eq_false_iff.2 c3]; simp))
  refine Ev.pos c3 (Ev.bind (contains_ev _ (by simp) _) ?_)
  by_cases d2 : joinI t (rd x 0) (rd x 1) = joinI t (rd x 0) (rd x 3)
  case pos => exact Ev.pos (by simp [d2]) (Ev.done (by rw [et]; unfold twinD lnI; rw [decide_eq_true d2]; simp))
  by_cases d3 : joinI t (rd x 0) (rd x 2) = joinI t (rd x 0) (rd x 3)
  case pos => exact Ev.pos (by simp [d3]) (Ev.done (by rw [et]; unfold twinD lnI; rw [decide_eq_true d3]; simp))
  refine Ev.neg (by simp; exact ⟨fun h => d2 h.symm, fun h => d3 h.symm⟩) (Ev.pos (by simp) ?_)
  refine Ev.step (fun k => by rw [impl_plane_isTwin.l0]) ?_
  refine Ev.neg (by decide) (Ev.done ?_)
  rw [et, eE]
  unfold twinC twinD lnI
  rw [c1, c2, c3, decide_eq_false d1, decide_eq_false d2, decide_eq_false d3]; rfl
theorem l4Diff_l1 {l : List Int} (hl : l.length ≤ 1048576) {i : Int} (i0 : 0 ≤ i) (i1 : i < l.length) {r : Bool} (hr : (∀ j : Int, 0 ≤ j → j < i → rd l j ≠ rd l i) → Ev (fun n => spec_l4Different.l0 n l (i + 1)) r) (hf : ∀ j : Int, 0 ≤ j → j < i → rd l j = rd l i → r = false) (d : Nat) :
    ∀ j : Int, 0 ≤ j → j + d = i → (∀ y : Int, 0 ≤ y → y < j → rd l y ≠ rd l i) → Ev (fun n => spec_l4Different.l1 n l i j) r := by
  induction d with
  | zero =>
    intro j j0 j1 h
    refine Ev.step (fun n => by rw [spec_l4Different.l1]) ?_
    rw [w64 (x := i + 1) (by omega) (by omega)]
    exact Ev.neg (by omega) (hr fun y y0 y1 => h y y0 (by omega))
  | succ d ih =>
    intro j j0 j1 h
    refine Ev.step (fun n => by rw [spec_l4Different.l1]) ?_
    rw [w64 (x := j + 1) (by omega) (by omega)]
    refine Ev.pos (by omega) (Ev.pos (by omega) (Ev.pos (by omega) (Ev.pos (by omega) (Ev.pos (by omega) ?_))))
    by_cases e : rd l j = rd l i
    · exact Ev.pos e (Ev.done (by rw [hf j j0 (by omega) e]))
    · refine Ev.neg e (ih (j + 1) (by omega) (by omega) fun y y0 y1 => ?_)
      by_cases ey : y = j
      · rw [ey]; exact e
      · exact h y y0 (by omega)
theorem l4Diff_l0 {l : List Int} (hl : l.length ≤ 1048576) (d : Nat) : ∀ i : Int, 0 ≤ i → i + d = l.length → (∀ x : Int, 0 ≤ x → x < i → newB l x = true) → Ev (fun n => spec_l4Different.l0 n l i) (diffB l) := by
  induction d with
  | zero =>
    intro i i0 i1 h
    refine Ev.step (fun n => by rw [spec_l4Different.l0]) ?_
    exact Ev.neg (by omega) (Ev.done (by rw [diffB_all fun x x0 x1 => h x x0 (by omega)]))
  | succ d ih =>
    intro i i0 i1 h
    refine Ev.step (fun n => by rw [spec_l4Different.l0]) ?_
    refine Ev.pos (by omega) (Ev.pos i0 (Ev.fix (l3In_eq (rd l i)) ?_))
    by_cases e : ptB (rd l i) = true
    case neg => exact Ev.neg e (Ev.done (by rw [diffB_hit i0 (by omega) (by unfold newB; rw [Bool.eq_false_iff.2 e]; rfl)]))
    refine Ev.pos e (l4Diff_l1 hl i0 (by omega) (fun hp => ih (i + 1) (by omega) (by omega) fun x x0 x1 => ?_) (fun j j0 ji he => ?_) i.toNat 0 (by omega) (by omega) (fun y y0 y1 => by omega))
    · by_cases ex : x = i
      · rw [ex]; exact (newB_iff i0 (by omega)).2 ⟨ptB_iff.1 e, hp⟩
      · exact h x x0 (by omega)
    · exact diffB_hit i0 (by omega) (Bool.eq_false_iff.2 fun hn => ((newB_iff i0 (by omega)).1 hn).2 j j0 ji he)
theorem l4Diff_ev {l : List Int} (hl : l.length ≤ 1048576) : Ev (fun n => spec_l4Different.f n l) (diffB l) := l4Diff_l0 hl l.length 0 (by omega) (by omega) (fun x x0 x1 => by omega)
theorem specTwin_ev {t x : List Int} (ht : t.length ≤ 1048576) (hx : x.length ≤ 1048576) : Ev (fun k => spec_TwinIn.f k t x) (twinB t x) := by
  unfold spec_TwinIn.f
  have no : ∀ r, r = false → Ev (fun k => spec_TwinIn.j0 k t x true) r := fun r hr => by
    refine Ev.step (fun k => by rw [spec_TwinIn.j0]) ?_
    exact Ev.pos rfl (Ev.done (by rw [hr]))
  refine Ev.bind (SystemIn_ev t ht) ?_
  by_cases hs : sysB t = true
  case neg => exact Ev.neg hs (no _ (by unfold twinB; rw [Bool.eq_false_iff.2 hs]; rfl))
  have hn := (sysB_parts hs).1
  refine Ev.pos hs ?_
  by_cases h7 : x.length = 7
  case neg => exact Ev.neg (by omega) (no _ (by unfold twinB; rw [decide_eq_false h7]; simp))
  refine Ev.pos (by omega) (Ev.bind (l4Diff_ev hx) ?_)
  by_cases hd : diffB x = true
  case neg => rw [Bool.eq_false_iff.2 hd]; exact no _ (by unfold twinB; rw [Bool.eq_false_iff.2 hd]; simp)
  have P := fun (i : Int) (i0 : 0 ≤ i) (i1 : i < 7) => diffB_pt hd (i := i) i0 (by omega)
  have N := fun (i j : Int) (i0 : 0 ≤ i) (ij : i < j) (j1 : j < 7) => diffB_ne hd (i := i) (j := j) i0 ij (by omega)
  have P0 := P 0 (by omega) (by omega)
  have P1 := P 1 (by omega) (by omega)
  have P2 := P 2 (by omega) (by omega)
  have P3 := P 3 (by omega) (by omega)
  have P4 := P 4 (by omega) (by omega)
  have P5 := P 5 (by omega) (by omega)
  have P6 := P 6 (by omega) (by omega)
  have N1 := N 0 1 (by omega) (by omega) (by omega)
  have N2 := N 0 2 (by omega) (by omega) (by omega)
  have N3 := N 0 3 (by omega) (by omega) (by omega)
  have et : twinB t x = (twinC t x && (twinD t x && twinE t x)) := by unfold twinB; rw [hs, decide_eq_true h7, hd]; rfl
  rw [hd]
  refine Ev.step (fun k => by rw [spec_TwinIn.j0]) ?_
  refine Ev.neg (by decide) ?_
  refine Ev.step (fun k => by rw [spec_TwinIn.l0]) ?_
  rw [w13, w11]
  refine Ev.pos (by omega) (Ev.pos (by omega) (Ev.pos (by omega) (Ev.pos (by omega) (Ev.pos (by decide) (Ev.pos (by rw [h7]; decide) (Ev.bind (sthree_ev hs P0 P1 P4 N1) ?_))))))
  by_cases c1 : threeB t (rd x 0) (rd x 1) (rd x 4) = true
  case neg =>
    refine Ev.neg c1 (Ev.done ?_)
    rw [et]; unfold threeB at c1; unfold twinC lnI; rw [Bool.eq_false_iff.2 c1]; rfl
  refine Ev.pos c1 ?_
  refine Ev.step (fun k => by rw [spec_TwinIn.l0]) ?_
  rw [w23, w21]
  refine Ev.pos (by decide) (Ev.pos (by omega) (Ev.pos (by decide) (Ev.pos (by rw [h7]; decide) (Ev.pos (by decide) (Ev.pos (by rw [h7]; decide) (Ev.bind (sthree_ev hs P0 P2 P5 N2) ?_))))))
  by_cases c2 : threeB t (rd x 0) (rd x 2) (rd x 5) = true
  case neg =>
    refine Ev.neg c2 (Ev.done ?_)
    rw [et]; unfold threeB at c2; unfold twinC lnI; rw [Bool.eq_false_iff.2 c2]; simp
  refine Ev.pos c2 ?_
  refine Ev.step (fun k => by rw [spec_TwinIn.l0]) ?_
  rw [w33, w31]
  refine Ev.pos (by decide) (Ev.pos (by omega) (Ev.pos (by decide) (Ev.pos (by rw [h7]; decide) (Ev.pos (by decide) (Ev.pos (by rw [h7]; decide) (Ev.bind (sthree_ev hs P0 P3 P6 N3) ?_))))))
  by_cases c3 : threeB t (rd x 0) (rd x 3) (rd x 6) = true
  case neg =>
    refine Ev.neg c3 (Ev.done ?_)
    rw [et]; unfold threeB at c3; unfold twinC lnI; rw [Bool.eq_false_iff.2 c3]; simp
  refine Ev.pos c3 ?_
  refine Ev.step (fun k => by rw [spec_TwinIn.l0]) ?_
  refine Ev.neg (by decide) (Ev.pos (by omega) (Ev.pos (by omega) (Ev.bind (l3Join_ev hs P0 P1 N1) (Ev.pos (by omega) (Ev.bind (l3Join_ev hs P0 P2 N2) (Ev.pos (by omega) (Ev.bind (l3Join_ev hs P0 P3 N3) ?_)))))))
  by_cases d1 : joinI t (rd x 0) (rd x 1) = joinI t (rd x 0) (rd x 2)
  case pos => exact Ev.pos d1 (Ev.done (by rw [et]; unfold twinD lnI; rw [decide_eq_true d1]; simp))
  by_cases d2 : joinI t (rd x 0) (rd x 1) = joinI t (rd x 0) (rd x 3)
  case pos => exact Ev.neg d1 (Ev.pos d2 (Ev.done (by rw [et]; unfold twinD lnI; rw [decide_eq_true d2]; simp)))
  by_cases d3 : joinI t (rd x 0) (rd x 2) = joinI t (rd x 0) (rd x 3)
  case pos => exact Ev.neg d1 (Ev.neg d2 (Ev.pos d3 (Ev.done (by rw [et]; unfold twinD lnI; rw [decide_eq_true d3]; simp))))
  refine Ev.neg d1 (Ev.neg d2 (Ev.neg d3 (Ev.bind (sthree_ev hs P1 P2 P3 (N 1 2 (by omega) (by omega) (by omega))) ?_)))
  by_cases e1 : threeB t (rd x 1) (rd x 2) (rd x 3) = true
  case pos => exact Ev.pos e1 (Ev.done (by rw [et]; unfold twinE; rw [e1]; simp))
  refine Ev.neg e1 (Ev.pos (by omega) (Ev.pos (by omega) (Ev.pos (by omega) (Ev.bind (sthree_ev hs P4 P5 P6 (N 4 5 (by omega) (by omega) (by omega))) (Ev.done ?_)))))
  have e1 := Bool.eq_false_iff.2 e1
  rw [et]
  unfold threeB at c1 c2 c3
  unfold twinC twinD twinE lnI
  rw [c1, c2, c3, decide_eq_false d1, decide_eq_false d2, decide_eq_false d3, e1]
  simp
theorem cross_ev {t : List Int} (hs : sysB t = true) {p q r s : Int} (hp : In91 p) (hq : In91 q) (hr : In91 r) (hz : In91 s) (h1 : p ≠ q) (h2 : r ≠ s) (h3 : joinI t p q ≠ joinI t r s) : Ev (fun k => spec_l4Cross.f k t p q r s) (crossI t p q r s) := by
  have a := joinI_spec hs hp.1 hp.2 hq.1 hq.2 h1
  have b := joinI_spec hs hr.1 hr.2 hz.1 hz.2 h2
  unfold spec_l4Cross.f
  exact Ev.bind (l3Join_ev hs hp hq h1) (Ev.bind (l3Join_ev hs hr hz h2) (Ev.bind (l3Meet_ev hs ⟨a.1, a.2.1⟩ ⟨b.1, b.2.1⟩ h3) (Ev.done rfl)))
theorem twinPoints_ev {t x : List Int} (T : Twin t x) : Ev (fun k => impl_plane_twinPoints.f k t x) (twinP t x) := by
  have h7 := T.len
  have P := fun (i : Int) (i0 : 0 ≤ i) (i1 : i < 7) => T.pt (i := i) i0 i1
  have N := fun (i j : Int) (i0 : 0 ≤ i) (i1 : i < 7) (j0 : 0 ≤ j) (j1 : j < 7) (h : i ≠ j) => T.ne (i := i) (j := j) i0 i1 j0 j1 h
  have C := fun (a b c d : Int) (a0 : 0 ≤ a) (a1 : a < 7) (b0 : 0 ≤ b) (b1 : b < 7) (c0 : 0 ≤ c) (c1 : c < 7) (d0 : 0 ≤ d) (d1 : d < 7) (h : a ≠ b) (h' : c ≠ d) => crossing_ev T.sys (P a a0 a1) (P b b0 b1) (P c c0 c1) (P d d0 d1) (N a b a0 a1 b0 b1 h) (N c d c0 c1 d0 d1 h')
  unfold impl_plane_twinPoints.f twinP
  refine Ev.pos (by omega) (Ev.pos (by omega) (Ev.pos (by omega) (Ev.pos (by omega) (Ev.bind (C 1 2 4 5 (by omega) (by omega) (by omega) (by omega) (by omega) (by omega) (by omega) (by omega) (by omega) (by omega)) ?_))))
  refine Ev.pos (by omega) (Ev.pos (by omega) (Ev.bind (C 1 3 4 6 (by omega) (by omega) (by omega) (by omega) (by omega) (by omega) (by omega) (by omega) (by omega) (by omega)) ?_))
  exact Ev.bind (C 2 3 5 6 (by omega) (by omega) (by omega) (by omega) (by omega) (by omega) (by omega) (by omega) (by omega) (by omega)) (Ev.done rfl)
theorem l4Twin_ev {t x : List Int} (T : Twin t x) : Ev (fun k => spec_l4Twin.f k t x) (twinP t x) := by
  have h7 := T.len
  have P := fun (i : Int) (i0 : 0 ≤ i) (i1 : i < 7) => T.pt (i := i) i0 i1
  have N := fun (i j : Int) (i0 : 0 ≤ i) (i1 : i < 7) (j0 : 0 ≤ j) (j1 : j < 7) (h : i ≠ j) => T.ne (i := i) (j := j) i0 i1 j0 j1 h
  have C := fun (a b c d : Int) (a0 : 0 ≤ a) (a1 : a < 7) (b0 : 0 ≤ b) (b1 : b < 7) (c0 : 0 ≤ c) (c1 : c < 7) (d0 : 0 ≤ d) (d1 : d < 7) (h : a ≠ b) (h' : c ≠ d) (h3 : joinI t (rd x a) (rd x b) ≠ joinI t (rd x c) (rd x d)) => cross_ev T.sys (P a a0 a1) (P b b0 b1) (P c c0 c1) (P d d0 d1) (N a b a0 a1 b0 b1 h) (N c d c0 c1 d0 d1 h') h3
  unfold spec_l4Twin.f twinP
  refine Ev.pos (by omega) (Ev.pos (by omega) (Ev.pos (by omega) (Ev.pos (by omega) (Ev.bind (C 1 2 4 5 (by omega) (by omega) (by omega) (by omega) (by omega) (by omega) (by omega) (by omega) (by omega) (by omega) (T.apart (i := 1) (j := 2) (by omega) (by omega) (by omega))) ?_))))
  refine Ev.pos (by omega) (Ev.pos (by omega) (Ev.bind (C 1 3 4 6 (by omega) (by omega) (by omega) (by omega) (by omega) (by omega) (by omega) (by omega) (by omega) (by omega) (T.apart (i := 1) (j := 3) (by omega) (by omega) (by omega))) ?_))
  exact Ev.bind (C 2 3 5 6 (by omega) (by omega) (by omega) (by omega) (by omega) (by omega) (by omega) (by omega) (by omega) (by omega) (T.apart (i := 2) (j := 3) (by omega) (by omega) (by omega))) (Ev.done rfl)
def twinR (t x : List Int) : List Int × Bool := if twinB t x = true then (twinP t x, true) else ([], false)
theorem implTwinPoints_ev {t x : List Int} (hx : x.length ≤ 1048576) : Ev (fun k => impl_TwinPoints.f k t x) (twinR t x) := by
  unfold impl_TwinPoints.f twinR
  refine Ev.fix (show impl_isSystem.f t = some (sysB t) from rfl) ?_
  by_cases hs : sysB t = true
  case neg =>
    have : twinB t x = false := by unfold twinB; rw [Bool.eq_false_iff.2 hs]; rfl
    rw [this]
    exact Ev.neg hs (Ev.done rfl)
  refine Ev.pos hs (Ev.bind (isTwin_ev hs hx) ?_)
  by_cases h : twinB t x = true
  · rw [if_pos h]
    exact Ev.pos h (Ev.bind (twinPoints_ev (twinB_iff.1 h)) (Ev.done rfl))
  · rw [if_neg h]
    exact Ev.neg h (Ev.done rfl)
theorem specTwinPoints_ev {t x : List Int} (ht : t.length ≤ 1048576) (hx : x.length ≤ 1048576) : Ev (fun k => spec_TwinPoints.f k t x) (twinR t x) := by
  unfold spec_TwinPoints.f twinR
  refine Ev.bind (specTwin_ev ht hx) ?_
  by_cases h : twinB t x = true
  · rw [if_pos h]
    exact Ev.pos h (Ev.bind (l4Twin_ev (twinB_iff.1 h)) (Ev.done rfl))
  · rw [if_neg h]
    exact Ev.neg h (Ev.done rfl)
end Go.Proofs.Ytcbkoecanldlpaa.X

set_option linter.unusedVariables false
set_option linter.unusedSimpArgs false
namespace Go.Proofs.Ytcbkoecanldlpaa.X
open Go.RowKit Go.Proofs.YtcbkoecanldlpaaW.PrintWords Go.Proofs.YtcbkoecanldlpaaW.PrintLast Go.Proofs.Ytcbkoecanldlpaa.P

def ijoinR (t : List Int) (p q : Int) : Int × Bool := if jokB t p q = true then (joinI t p q, true) else (0, false)
theorem ijoinR_yes {t : List Int} (hs : sysB t = true) {p q : Int} (hp : In91 p) (hq : In91 q) (hne : p ≠ q) : ijoinR t p q = (joinI t p q, true) := if_pos (jokB_iff.2 ⟨hs, hp, hq, hne⟩)
theorem implJoin_ev (t : List Int) (p q : Int) : Ev (fun k => impl_PlaneJoin.f k t p q) (ijoinR t p q) := by
  unfold impl_PlaneJoin.f ijoinR
  refine Ev.fix (show impl_isSystem.f t = some (sysB t) from rfl) ?_
  by_cases hs : sysB t = true
  case neg => rw [if_neg (fun h => hs (jokB_iff.1 h).1)]; exact Ev.neg hs (Ev.done rfl)
  refine Ev.pos hs (Ev.fix (isPoint_eq p) ?_)
  by_cases hp : ptB p = true
  case neg => rw [if_neg (fun h => hp (ptB_iff.2 (jokB_iff.1 h).2.1))]; exact Ev.neg hp (Ev.done rfl)
  refine Ev.pos hp (Ev.fix (isPoint_eq q) ?_)
  by_cases hq : ptB q = true
  case neg => rw [if_neg (fun h => hq (ptB_iff.2 (jokB_iff.1 h).2.2.1))]; exact Ev.neg hq (Ev.done rfl)
  refine Ev.pos hq ?_
  by_cases e : p = q
  case pos => rw [if_neg (fun h => (jokB_iff.1 h).2.2.2 e)]; exact Ev.pos e (Ev.done rfl)
  rw [if_pos (jokB_iff.2 ⟨hs, ptB_iff.1 hp, ptB_iff.1 hq, e⟩)]
  exact Ev.neg e (Ev.bind (join_ev (sysB_parts hs).1 (ptB_iff.1 hp) (ptB_iff.1 hq)) (Ev.done rfl))
def ionB (t : List Int) (p l : Int) : Bool := sysB t && (ptB p && (ptB l && onB t p l))
theorem implOn_eq (t : List Int) (p l : Int) : impl_PlaneOn.f t p l = some (ionB t p l) := by
  unfold impl_PlaneOn.f ionB
  rw [show impl_isSystem.f t = some (sysB t) from rfl, Option.bind_some]
  by_cases hs : sysB t = true
  case neg => rw [if_neg hs, Bool.eq_false_iff.2 hs]; rfl
  rw [if_pos hs, hs, isPoint_eq, Option.bind_some]
  by_cases hp : ptB p = true
  case neg => rw [if_neg hp, Bool.eq_false_iff.2 hp]; rfl
  rw [if_pos hp, hp, isPoint_eq, Option.bind_some]
  by_cases hl : ptB l = true
  case neg => rw [if_neg hl, Bool.eq_false_iff.2 hl]; rfl
  rw [if_pos hl, hl, plane_on_eq (sysB_parts hs).1 (ptB_iff.1 hp) (ptB_iff.1 hl)]; rfl
theorem implOn_yes {t : List Int} (hs : sysB t = true) {p l : Int} (hp : In91 p) (hl : In91 l) (h : onB t p l = true) : impl_PlaneOn.f t p l = some true := by
  rw [implOn_eq]; unfold ionB; rw [hs, ptB_iff.2 hp, ptB_iff.2 hl, h]; rfl
end Go.Proofs.Ytcbkoecanldlpaa.X

set_option linter.unusedVariables false
set_option linter.unusedSimpArgs false
namespace Go.Proofs.Ytcbkoecanldlpaa.X
open Go.RowKit Go.Proofs.YtcbkoecanldlpaaW.PrintWords Go.Proofs.YtcbkoecanldlpaaW.PrintLast Go.Proofs.Ytcbkoecanldlpaa.P

theorem sameInts_loop (a b : List Int) (hl : a.length ≤ 1048576) (hab : a.length = b.length) (d : Nat) : ∀ (i : Int), 0 ≤ i → i + d = a.length → (∀ j : Nat, (j : Int) < i → rd a (j : Int) = rd b (j : Int)) → Ev (fun k => laws_sameInts.l0 k a b i) (decide (a = b)) := by
  induction d with
  | zero =>
    intro i h0 h1 h
    refine Ev.step (fun k => by rw [laws_sameInts.l0]) ?_
    refine Ev.neg (by omega) (Ev.done ?_)
    rw [decide_eq_true (ext_rd hab fun j hj => h j (by omega))]
  | succ d ih =>
    intro i h0 h1 h
    refine Ev.step (fun k => by rw [laws_sameInts.l0]) ?_
    simp (disch := omega) only [w64]
    refine Ev.pos (by omega) (Ev.pos (by omega) (Ev.pos (by omega) ?_))
    by_cases e : rd a i = rd b i
    · refine Ev.pos e (ih (i + 1) (by omega) (by omega) fun j hj => ?_)
      by_cases ej : (j : Int) = i
      · rw [ej]; exact e
      · exact h j (by omega)
    · refine Ev.neg e (Ev.done ?_)
      rw [decide_eq_false (fun hab => e (by rw [hab]))]
theorem sameInts_ev (a b : List Int) (hl : a.length ≤ 1048576) : Ev (fun k => laws_sameInts.f k a b) (decide (a = b)) := by
  unfold laws_sameInts.f
  by_cases h : a.length = b.length
  · exact Ev.pos (by omega) (sameInts_loop a b hl h a.length 0 (by omega) (by omega) fun j hj => by omega)
  · refine Ev.neg (by omega) (Ev.done ?_)
    rw [decide_eq_false (fun hab => h (by rw [hab]))]
end Go.Proofs.Ytcbkoecanldlpaa.X

set_option linter.unusedVariables false
set_option linter.unusedSimpArgs false
namespace Go.Proofs.Ytcbkoecanldlpaa.Pure
open Go.RowKit Go.Proofs.Ytcbkoecanldlpaa.P Go.Proofs.YtcbkoecanldlpaaW.PrintWords Go.Proofs.YtcbkoecanldlpaaW.PrintLast Go.Proofs.Ytcbkoecanldlpaa.X

theorem FnTwinPoints : laws_FnTwinPoints.Pure := by
  intro l0 _ _ hu
  refine Ev.rounds ?_
  unfold laws_FnTwinPoints.f
  by_cases hb : (l0.length : Int) > 1048576
  · exact Ev.pos hb (Ev.done rfl)
  refine Ev.neg hb ?_
  obtain ⟨t, x, ht, hx, e⟩ := dtwin_ev l0 hu
  have htl := ht.len
  refine Ev.bind (Ev.bind e (Ev.done rfl) : Ev (fun k => spec_DrawTwinPoints.f k l0) (t, x)) ?_
  dsimp only
  have hP : (twinP t x).length = 3 := rfl
  have hR : (twinR t x).1.length ≤ 1048576 := by
    unfold twinR
    by_cases h : twinB t x = true
    · rw [if_pos h]; dsimp only; omega
    · rw [if_neg h]; exact Nat.zero_le _
  refine Ev.bind (implTwinPoints_ev (t := t) (x := x) (by omega)) (Ev.bind (specTwinPoints_ev (t := t) (x := x) (by omega) (by omega)) ?_)
  refine Ev.neg (by simp) (Ev.bind (sameInts_ev _ _ hR) (Ev.pos (by simp) ?_))
  refine Ev.step (fun k => by rw [laws_FnTwinPoints.j0]) ?_
  by_cases h : twinB t x = true
  case neg =>
    have eR : twinR t x = ([], false) := if_neg h
    rw [eR]
    exact Ev.pos (by decide) (Ev.pos (by decide) (Ev.bind (sameInts_ev _ _ (by simp)) (Ev.done rfl)))
  have T := twinB_iff.1 h
  have eR : twinR t x = (twinP t x, true) := if_pos h
  have eS : twinR t (swapL x) = (twinP t x, true) := by
    unfold twinR
    rw [if_pos (twinB_iff.2 T.swap), twinP_swap]
  have P := fun (i : Int) (i0 : 0 ≤ i) (i1 : i < 7) => T.pt (i := i) i0 i1
  have a := T.jn (i := 1) (j := 2) (by omega) (by omega) (by omega) (by omega) (by omega)
  have b := T.jn (i := 4) (j := 5) (by omega) (by omega) (by omega) (by omega) (by omega)
  have c := T.cr (i := 1) (j := 2) (by omega) (by omega) (by omega)
  have c2 : onB t (crossI t (rd x 1) (rd x 2) (rd x 4) (rd x 5)) (joinI t (rd x 1) (rd x 2)) = true := c.2.1
  have c3 : onB t (crossI t (rd x 1) (rd x 2) (rd x 4) (rd x 5)) (joinI t (rd x 4) (rd x 5)) = true := c.2.2
  have c1 : In91 (crossI t (rd x 1) (rd x 2) (rd x 4) (rd x 5)) := c.1
  have hr0 : rd (twinP t x) 0 = crossI t (rd x 1) (rd x 2) (rd x 4) (rd x 5) := rfl
  rw [eR]
  refine Ev.neg (by simp) (Ev.pos (by omega) (Ev.pos (by omega) (Ev.bind (implJoin_ev t (rd x 1) (rd x 2)) ?_)))
  rw [ijoinR_yes T.sys (P 1 (by omega) (by omega)) (P 2 (by omega) (by omega)) (T.ne (by omega) (by omega) (by omega) (by omega) (by omega))]
  refine Ev.pos (by omega) (Ev.pos (by omega) (Ev.bind (implJoin_ev t (rd x 4) (rd x 5)) ?_))
  rw [ijoinR_yes T.sys (P 4 (by omega) (by omega)) (P 5 (by omega) (by omega)) (T.ne (by omega) (by omega) (by omega) (by omega) (by omega))]
  refine Ev.pos (by omega) (Ev.pos (by omega) (Ev.pos (by omega) (Ev.bind (implTwinPoints_ev (t := t) (x := swapL x) (show (7 : Nat) ≤ 1048576 by omega)) ?_)))
  rw [eS]
  refine Ev.pos rfl (Ev.pos rfl (Ev.pos rfl (Ev.bind (sameInts_ev _ _ (by rw [hP]; omega)) (Ev.pos (by simp) (Ev.pos (by dsimp only; omega) ?_)))))
  rw [hr0]
  refine Ev.fix (implOn_yes T.sys c1 a.1 c2) (Ev.pos rfl (Ev.fix (implOn_yes T.sys c1 b.1 c3) (Ev.done rfl)))
end Go.Proofs.Ytcbkoecanldlpaa.Pure

namespace Go.Proofs.YtcbkoecanldlpaaW.PrintWords
open Go.ChangeShapes Go.WideShapes
theorem sized_ints {H : Type} {enc : TypeId × Value → H} {P : Program} {W : World} {base : Nat} {spare : Nat → Bool} {held : Bool} {t e : TypeId} {k : IntKind} {a : Option Addr} {len cap : Nat} {d : DataW H} {ps : List MemPlace} {ts : List TypeId} {ds : List (DataW H)} {j : Nat}
    (hsz : (DataW.weightsEach P ts ds).all (· ≤ reachBytes) = true) (ht : ts[j]? = some t) (hd : ds[j]? = some d) (hu : P.underlying t = some (.slice e)) (he : P.underlying e = some (.int k)) (hc : P.cellsOf e = 1) {B : Nat} (hB : P.bytesOf e = B)
    (h : DataW.Trod enc P W base spare held t (.slice a len cap) d ps) : len * B ≤ 140737488351232 := by
  obtain ⟨fuel, hf⟩ := h
  rcases open_ints hu he hc hf with ⟨hcs, _⟩ | ⟨x, l, c, zs, hcs, _, hl, _, hz, hx, _, _⟩
  · simp [Value.cells] at hcs
    obtain ⟨rfl, rfl, rfl⟩ := hcs
    simp
  · simp [Value.cells] at hcs
    obtain ⟨rfl, rfl, rfl⟩ := hcs
    obtain ⟨hx, _⟩ := Prod.mk.inj hx
    subst hx
    have z := sized_slice hsz ht hd hu
    rw [hB] at z
    have hl2 : len ≤ zs.length := by
      rw [hz]
      split
      · exact hl
      · exact Nat.le_refl _
    have h1 : (lits (H := H) k (zs.take len)).length + (lits (H := H) k (zs.drop len)).length = zs.length := by
      simp [lits]
      omega
    rw [h1] at z
    exact Nat.le_trans (Nat.mul_le_mul_right _ hl2) z
end Go.Proofs.YtcbkoecanldlpaaW.PrintWords

namespace Go.Proofs.Ytcbkoecanldlpaa.fnTwinPoints
open Go.ChangeShapes Go.WideShapes Go.ChangeAt Go.RowKit
open Go.ChangeMaps (open_string shut_string)
set_option linter.unusedVariables false
theorem own : ownKnob Try.prog.godebug = none := by kernel_rfl
theorem laidOut : laidOutB Try.prog = true := by kernel_rfl
def IsRow (k : IntKind) (w : World) (a : Option Addr) (len cap : Nat) (zs : List Int) : Prop :=
  (a = none ∧ len = 0 ∧ cap = 0 ∧ zs = []) ∨
  ∃ x, a = some x ∧ len ≤ cap ∧ cap ≤ maxLen ∧ zs.length = cap ∧ (∀ i, i < zs.length → w.cell? (x.add i) = some (.int k (zs.getD i 0))) ∧ ∀ n ∈ zs, (Lit.int k n).wf = true
set_option maxRecDepth 100000 in
theorem lifted (os : Os) (started : os.Started) (H : Type) (enc : TypeId × Value → H) :
    ReturnsInHanded {} Try.checked os 6 .any (Rows.fnTwinPointsSpec.pre6 enc Try.prog Try.f6 Rows.fnTwinPointsRow.domain false) (Rows.fnTwinPointsSpec.post enc Try.prog Try.f6 false true false false) := by
  refine returnsInHanded_of_change_sized (C := Try.checked) own started (by kernel_rfl) Try.func6
    (ChangeSpec.witness6 (enc := enc) (C := Try.checked) false ⟨#[], #[.slice none 0 0], []⟩ 8 (by kernel_rfl) (by kernel_rfl) (by kernel_rfl) (by kernel_rfl)) ?_
  intro W base args ds gs before hval0 hW hcnd hsz0 _
  have hsz : (DataW.weightsEach Try.prog (Try.f6.params.toList ++ Rows.fnTwinPointsSpec.plain.varTypes Try.prog) (ds ++ gs)).all (· ≤ reachBytes) = true := hsz0
  have hval : ∀ (j : Nat) t v, Try.f6.params[j]? = some t → args[j]? = some v → Value.okWide Try.prog W .any base t v := hval0
  have hW' := hW
  obtain ⟨p, q, hA0, hV, rfl, hfz, hnd⟩ := hW
  have hA : DataW.TrodAll enc Try.prog W 0 (fun _ => true) true Try.f6.params.toList args.toList ds p := hA0
  rw [Try.params6] at hA hval hsz
  obtain ⟨v0, vs0, d0, ds0, p0, q0, hargs, rfl, rfl, h0, r0⟩ := trodAll_cons hA
  obtain ⟨rfl, rfl, rfl⟩ := trodAll_nil r0
  obtain rfl : args = #[v0] := by cases args; simp_all
  obtain ⟨rfl, rfl⟩ := trodVars_none hV
  obtain ⟨a0, len0, cap0, rfl⟩ := okWide_slice Try.underlying22 (hval 0 22 v0 rfl rfl)
  have k0 := h0
  have lt0 : ∀ x ∈ p0, x.block < W.heap.size := by obtain ⟨m, hm⟩ := k0; exact DataW.trod_lt m _ _ _ hm
  obtain ⟨z0, w0⟩ : ∃ zs, IsRow .u8 W a0 len0 cap0 zs := by
    obtain ⟨fuel, hf⟩ := h0
    rcases open_ints Try.underlying22 Try.underlying5 (by kernel_rfl) hf with ⟨hcs, _⟩ | ⟨x, l, c, zs, hcs, _, hl, hm, hz, _, hcell, hwz⟩
    · simp [Value.cells] at hcs
      obtain ⟨rfl, rfl, rfl⟩ := hcs
      exact ⟨[], .inl ⟨rfl, rfl, rfl, rfl⟩⟩
    · simp [Value.cells] at hcs
      obtain ⟨rfl, rfl, rfl⟩ := hcs
      exact ⟨zs, .inr ⟨_, rfl, hl, hm, by simpa using hz, hcell, hwz⟩⟩
  have y0 : len0 * 1 ≤ 140737488351232 := Go.Proofs.YtcbkoecanldlpaaW.PrintWords.sized_ints hsz (j := 0) (t := 22) rfl rfl Try.underlying22 Try.underlying5 (by kernel_rfl) (by kernel_rfl) h0
  clear hA0 hval0 hsz0 hsz
  refine (P.laws_FnTwinPoints.walk Pure.FnTwinPoints a0 len0 cap0 z0 W w0 y0).mono fun e W' ⟨he, bel⟩ => ?_
  subst he
  exact ⟨_, rfl, _, _, _, [], _, [], hW', trodAll_mk1 (shut_bool Try.underlying4 _), (trodAll_cons_mk (Below.trod laidOut (by kernel_rfl) (of_decide_eq_true (by kernel_rfl)) k0 bel lt0) trodAll_mk0), rfl, bel.frame _, fun h => by cases h⟩
theorem over : Rows.fnTwinPointsRow.holds Try.pinned (OpenSpec.ofChange Rows.fnTwinPointsSpec) :=
  OpenClaim.holds_of_wide 6 Try.f6 rfl rfl rfl rfl rfl rfl rfl ⟨rfl, rfl, rfl, rfl, rfl⟩ rfl rfl rfl rfl rfl (by kernel_rfl) Try.func6 (by kernel_rfl)
    (of_decide_eq_true (by kernel_rfl)) (by unfold Func.isWrapper; first | (rw [if_pos (by decide +kernel)]; kernel_rfl) | (rw [if_neg (by decide +kernel)]; exact ⟨rfl, rfl⟩))
    (fun os started H enc _ => lifted os started H enc)
theorem proved : Rows.FnTwinPointsSaid := over
#print axioms proved
end Go.Proofs.Ytcbkoecanldlpaa.fnTwinPoints
namespace Go.Proofs.Ytcbkoecanldlpaa
theorem fnTwinPoints_holds : Rows.FnTwinPointsSaid := fnTwinPoints.proved
end Go.Proofs.Ytcbkoecanldlpaa
