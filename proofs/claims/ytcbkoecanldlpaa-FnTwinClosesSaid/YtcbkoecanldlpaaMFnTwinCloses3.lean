/- The law FnTwinCloses of the given program: for every input the call returns true, and each argument reads afterwards as it read before. No conditions. (Part 4 of 4; the last part holds the theorem.) -/
import Derived.Test.YtcbkoecanldlpaaMFnTwinCloses0
import Derived.Test.YtcbkoecanldlpaaMFnTwinCloses2
import Derived.Test.YtcbkoecanldlpaaWRepsOne
import Derived.Test.YtcbkoecanldlpaaMFnTwinCloses1
import Derived.Test.YtcbkoecanldlpaaWApart
import Derived.Test.YtcbkoecanldlpaaWN
import Derived.Test.YtcbkoecanldlpaaWMore
import Derived.Test.YtcbkoecanldlpaaRows
import Derived.WalkKit
import Derived.ProofKit
import Derived.OpenShut
import Derived.ShutString
import Derived.ChangeOld
import Derived.Below
import Derived.SizedLaws
import Derived.Test.YtcbkoecanldlpaaWSized
namespace Go.Proofs.Ytcbkoecanldlpaa.P
open Go.RowKit Go.Proofs.YtcbkoecanldlpaaW.PrintWords Go.Proofs.YtcbkoecanldlpaaW.PrintLast
set_option linter.unusedVariables false
set_option linter.unusedSimpArgs false

def spec_l4Twin.f (k : Nat) (l0 : List Int) (l1 : List Int) : Option (List Int) := if 1 < (l1.length : Int) then (if 2 < (l1.length : Int) then (if 4 < (l1.length : Int) then (if 5 < (l1.length : Int) then ((spec_l4Cross.f k l0 (rd l1 1) (rd l1 2) (rd l1 4) (rd l1 5)).bind fun t390 => (if 3 < (l1.length : Int) then (if 6 < (l1.length : Int) then ((spec_l4Cross.f k l0 (rd l1 1) (rd l1 3) (rd l1 4) (rd l1 6)).bind fun t395 => ((spec_l4Cross.f k l0 (rd l1 2) (rd l1 3) (rd l1 5) (rd l1 6)).bind fun t400 => (some (([t390, t395, t400] : List Int))))) else (none)) else (none))) else (none)) else (none)) else (none)) else (none)
def spec_l4Twin.T1 : Bool × List (List Nat × List Nat) := (true, [([], []), ([], []), ([1], [1]), ([2], [2]), ([], []), ([4], [4]), ([5], [5]), ([], []), ([7], [7]), ([8], [8]), ([], []), ([10], [10]), ([11], [11]), ([0, 3, 6, 9, 12], [0, 3, 6, 9, 12]), ([], []), ([], []), ([15], [15]), ([16], [16]), ([], []), ([18], [18]), ([19], [19]), ([], []), ([21], [21]), ([22], [22]), ([], []), ([24], [24]), ([25], [25]), ([14, 17, 20, 23, 26, 13], [14, 17, 20, 23, 26]), ([], []), ([], []), ([29], [29]), ([30], [30]), ([], []), ([32], [32]), ([33], [33]), ([], []), ([35], [35]), ([36], [36]), ([], []), ([38], [38]), ([39], [39]), ([28, 31, 34, 37, 40, 27], [28, 31, 34, 37, 40]), ([13, 27, 41], [13, 27, 41]), ([42, 41, 0, 1, 2, 3, 4, 5, 6, 7, 8, 9, 10, 11, 12, 13, 14, 15, 16, 17, 18, 19, 20, 21, 22, 23, 24, 25, 26, 27, 28, 29, 30, 31, 32, 33, 34, 35, 36, 37, 38, 39, 40, 41, 42], [42])])
def spec_l4Twin.B1 : List Nat := [0, 0, 2, 6, 0, 16, 48, 0, 128, 384, 0, 1024, 3072, 8191, 0, 0, 32768, 98304, 0, 262144, 786432, 0, 2097152, 6291456, 0, 16777216, 50331648, 134217727, 0, 0, 536870912, 1610612736, 0, 4294967296, 12884901888, 0, 34359738368, 103079215104, 0, 274877906944, 824633720832, 2199023255551, 4398046511103, 8796093022207]
theorem spec_l4Twin.tab1 : rtab .any (opsOf Try.f72 1) = spec_l4Twin.T1 := by kernel_rfl
theorem spec_l4Twin.bits1 : waitsOk spec_l4Twin.T1.2 spec_l4Twin.B1 = true := by kernel_rfl
set_option maxHeartbeats 8000000 in
set_option maxRecDepth 100000 in
theorem spec_l4Twin.calls (k : Nat) (A0 : Option Addr) (c0 : Nat) (l0 : List Int) (A1 : Option Addr) (c1 : Nat) (l1 : List Int) (r : List Int) (w : World) (hr0 : Kd.C (Kd.int .i64) w A0 l0.length l0) (hc0 : l0.length ≤ c0) (hr1 : Kd.C (Kd.int .i64) w A1 l1.length l1) (hc1 : l1.length ≤ c1) (h : spec_l4Twin.f k l0 l1 = some r) :
  Calls Try.prog 72 #[.slice A0 l0.length c0, .slice A1 l1.length c1] w fun e w' => ∃ v0_ : Value, e = .returned (v0_) ∧ Kd.R (Kd.int .i64) 3 w' w.heap.size (fun _ => True) v0_ r ∧ Below w.heap.size w w' := by
 have HR0 := Aside0.mk hr0
 have HC0 := Aside0.mk hc0
 clear hr0 hc0
 have HR1 := Aside0.mk hr1
 have HC1 := Aside0.mk hc1
 clear hr1 hc1
 have HB := Aside0.mk (Below.refl w.heap.size w)
 have H : (if 1 < (l1.length : Int) then (if 2 < (l1.length : Int) then (if 4 < (l1.length : Int) then (if 5 < (l1.length : Int) then ((spec_l4Cross.f k l0 (rd l1 1) (rd l1 2) (rd l1 4) (rd l1 5)).bind fun t390 => (if 3 < (l1.length : Int) then (if 6 < (l1.length : Int) then ((spec_l4Cross.f k l0 (rd l1 1) (rd l1 3) (rd l1 4) (rd l1 6)).bind fun t395 => ((spec_l4Cross.f k l0 (rd l1 2) (rd l1 3) (rd l1 5) (rd l1 6)).bind fun t400 => (some (([t390, t395, t400] : List Int))))) else (none)) else (none))) else (none)) else (none)) else (none)) else (none)) = some r := h
 clear h
 by_cases c3 : 1 < (l1.length : Int)
 ·rw [if_pos c3] at H
  have c3b0 : decide (1 < (l1.length : Int)) = true := decide_eq_true c3
  have c3b1 : decide (1 < l1.length) = true := decide_eq_true (by omega)
  clear c3
  by_cases c4 : 2 < (l1.length : Int)
  ·rw [if_pos c4] at H
   have c4b0 : decide (2 < (l1.length : Int)) = true := decide_eq_true c4
   have c4b1 : decide (2 < l1.length) = true := decide_eq_true (by omega)
   clear c4
   by_cases c5 : 4 < (l1.length : Int)
   ·rw [if_pos c5] at H
    have c5b0 : decide (4 < (l1.length : Int)) = true := decide_eq_true c5
    have c5b1 : decide (4 < l1.length) = true := decide_eq_true (by omega)
    clear c5
    by_cases c6 : 5 < (l1.length : Int)
    ·rw [if_pos c6] at H
     have c6b0 : decide (5 < (l1.length : Int)) = true := decide_eq_true c6
     have c6b1 : decide (5 < l1.length) = true := decide_eq_true (by omega)
     clear c6
     replace H := Option.bind_eq_some_iff.mp H
     obtain ⟨t390, A70, H⟩ := H
     replace H : (if 3 < (l1.length : Int) then (if 6 < (l1.length : Int) then ((spec_l4Cross.f k l0 (rd l1 1) (rd l1 3) (rd l1 4) (rd l1 6)).bind fun t395 => ((spec_l4Cross.f k l0 (rd l1 2) (rd l1 3) (rd l1 5) (rd l1 6)).bind fun t400 => (some (([t390, t395, t400] : List Int))))) else (none)) else (none)) = some r := H
     have A7 := Aside0.mk A70
     clear A70
     by_cases c8 : 3 < (l1.length : Int)
     ·rw [if_pos c8] at H
      have c8b0 : decide (3 < (l1.length : Int)) = true := decide_eq_true c8
      have c8b1 : decide (3 < l1.length) = true := decide_eq_true (by omega)
      clear c8
      by_cases c9 : 6 < (l1.length : Int)
      ·rw [if_pos c9] at H
       have c9b0 : decide (6 < (l1.length : Int)) = true := decide_eq_true c9
       have c9b1 : decide (6 < l1.length) = true := decide_eq_true (by omega)
       clear c9
       replace H := Option.bind_eq_some_iff.mp H
       obtain ⟨t395, A100, H⟩ := H
       replace H : ((spec_l4Cross.f k l0 (rd l1 2) (rd l1 3) (rd l1 5) (rd l1 6)).bind fun t400 => (some (([t390, t395, t400] : List Int)))) = some r := H
       have A10 := Aside0.mk A100
       clear A100
       replace H := Option.bind_eq_some_iff.mp H
       obtain ⟨t400, A110, H⟩ := H
       replace H : (some (([t390, t395, t400] : List Int))) = some r := H
       have A11 := Aside0.mk A110
       clear A110
       obtain ⟨y401, hy401⟩ : ∃ y_ : List Int, y_ = (([t390, t395, t400] : List Int)) := ⟨_, rfl⟩
       replace H : (some y401) = some r := by first | (rw [hy401]; with_reducible exact H) | (have H2_ := (Option.bind_some _ _).symm.trans H; rw [hy401]; with_reducible exact H2_) | (have H2_ := (Option.bind_some _ _).symm.trans H; with_reducible exact H2_) | with_reducible exact H | (rw [hy401]; exact H) | exact H
       have Ny401 := Aside0.mk hy401
       clear hy401
       obtain rfl := Option.some.inj H
       go_enter Try.func72, Try.ntmps72
       try go_wp2
       have n0_ := Aside0.mk (below_drew1 HB.out)
       clear HB
       have HB := n0_
       clear n0_
       have p386 : 0 ≤ (1 : Int) := (by omega)
       have q386 : 1 < (l1.length : Int) := dd_
       obtain ⟨ad386, e386, hx386_0⟩ := Kd.at_int HR1.out 1 p386 q386
       have hw386_0 := hx386_0
       (try rw [show ((1 : Int)).toNat = 1 from rfl] at hw386_0)
       (try rw [show 1 * 1 = 1 from rfl] at hw386_0)
       (try simp only [Nat.reduceMul, Nat.reduceEqDiff, Go.Addr.add, ↓reduceIte] at hw386_0)
       cases e386
       (try simp only [show (1 : Int).toNat = 1 from rfl, Nat.reduceMul, Nat.reduceEqDiff, Go.Addr.add, ↓reduceIte] at hx386_0)
       have qi386 : (1 < l1.length) = True := eq_true (by omega)
       (try rw [show ((1 : Int)).toNat = 1 from rfl] at hx386_0)
       replace hx386_0 := hc_ HB hx386_0
       replace p386 := eq_true p386
       replace q386 := eq_true q386
       have p387 : 0 ≤ (2 : Int) := (by omega)
       have q387 : 2 < (l1.length : Int) := dd_
       obtain ⟨ad387, e387, hx387_0⟩ := Kd.at_int HR1.out 2 p387 q387
       have hw387_0 := hx387_0
       (try rw [show ((2 : Int)).toNat = 2 from rfl] at hw387_0)
       (try rw [show 2 * 1 = 2 from rfl] at hw387_0)
       (try simp only [Nat.reduceMul, Nat.reduceEqDiff, Go.Addr.add, ↓reduceIte] at hw387_0)
       obtain rfl : ad386 = ad387 := (by injection e387)
       (try simp only [show (2 : Int).toNat = 2 from rfl, Nat.reduceMul, Nat.reduceEqDiff, Go.Addr.add, ↓reduceIte] at hx387_0)
       have qi387 : (2 < l1.length) = True := eq_true (by omega)
       (try rw [show ((2 : Int)).toNat = 2 from rfl] at hx387_0)
       replace hx387_0 := hc_ HB hx387_0
       replace p387 := eq_true p387
       replace q387 := eq_true q387
       have p388 : 0 ≤ (4 : Int) := (by omega)
       have q388 : 4 < (l1.length : Int) := dd_
       obtain ⟨ad388, e388, hx388_0⟩ := Kd.at_int HR1.out 4 p388 q388
       have hw388_0 := hx388_0
       (try rw [show ((4 : Int)).toNat = 4 from rfl] at hw388_0)
       (try rw [show 4 * 1 = 4 from rfl] at hw388_0)
       (try simp only [Nat.reduceMul, Nat.reduceEqDiff, Go.Addr.add, ↓reduceIte] at hw388_0)
       obtain rfl : ad386 = ad388 := (by injection e388)
       (try simp only [show (4 : Int).toNat = 4 from rfl, Nat.reduceMul, Nat.reduceEqDiff, Go.Addr.add, ↓reduceIte] at hx388_0)
       have qi388 : (4 < l1.length) = True := eq_true (by omega)
       (try rw [show ((4 : Int)).toNat = 4 from rfl] at hx388_0)
       replace hx388_0 := hc_ HB hx388_0
       replace p388 := eq_true p388
       replace q388 := eq_true q388
       have p389 : 0 ≤ (5 : Int) := (by omega)
       have q389 : 5 < (l1.length : Int) := dd_
       obtain ⟨ad389, e389, hx389_0⟩ := Kd.at_int HR1.out 5 p389 q389
       have hw389_0 := hx389_0
       (try rw [show ((5 : Int)).toNat = 5 from rfl] at hw389_0)
       (try rw [show 5 * 1 = 5 from rfl] at hw389_0)
       (try simp only [Nat.reduceMul, Nat.reduceEqDiff, Go.Addr.add, ↓reduceIte] at hw389_0)
       obtain rfl : ad386 = ad389 := (by injection e389)
       (try simp only [show (5 : Int).toNat = 5 from rfl, Nat.reduceMul, Nat.reduceEqDiff, Go.Addr.add, ↓reduceIte] at hx389_0)
       have qi389 : (5 < l1.length) = True := eq_true (by omega)
       (try rw [show ((5 : Int)).toNat = 5 from rfl] at hx389_0)
       replace hx389_0 := hc_ HB hx389_0
       replace p389 := eq_true p389
       replace q389 := eq_true q389
       have p391 : 0 ≤ (1 : Int) := (by omega)
       have q391 : 1 < (l1.length : Int) := dd_
       obtain ⟨ad391, e391, hx391_0⟩ := Kd.at_int HR1.out 1 p391 q391
       have hw391_0 := hx391_0
       (try rw [show ((1 : Int)).toNat = 1 from rfl] at hw391_0)
       (try rw [show 1 * 1 = 1 from rfl] at hw391_0)
       (try simp only [Nat.reduceMul, Nat.reduceEqDiff, Go.Addr.add, ↓reduceIte] at hw391_0)
       obtain rfl : ad386 = ad391 := (by injection e391)
       (try simp only [show (1 : Int).toNat = 1 from rfl, Nat.reduceMul, Nat.reduceEqDiff, Go.Addr.add, ↓reduceIte] at hx391_0)
       have qi391 : (1 < l1.length) = True := eq_true (by omega)
       (try rw [show ((1 : Int)).toNat = 1 from rfl] at hx391_0)
       replace hx391_0 := hc_ HB hx391_0
       replace p391 := eq_true p391
       replace q391 := eq_true q391
       have p392 : 0 ≤ (3 : Int) := (by omega)
       have q392 : 3 < (l1.length : Int) := dd_
       obtain ⟨ad392, e392, hx392_0⟩ := Kd.at_int HR1.out 3 p392 q392
       have hw392_0 := hx392_0
       (try rw [show ((3 : Int)).toNat = 3 from rfl] at hw392_0)
       (try rw [show 3 * 1 = 3 from rfl] at hw392_0)
       (try simp only [Nat.reduceMul, Nat.reduceEqDiff, Go.Addr.add, ↓reduceIte] at hw392_0)
       obtain rfl : ad386 = ad392 := (by injection e392)
       (try simp only [show (3 : Int).toNat = 3 from rfl, Nat.reduceMul, Nat.reduceEqDiff, Go.Addr.add, ↓reduceIte] at hx392_0)
       have qi392 : (3 < l1.length) = True := eq_true (by omega)
       (try rw [show ((3 : Int)).toNat = 3 from rfl] at hx392_0)
       replace hx392_0 := hc_ HB hx392_0
       replace p392 := eq_true p392
       replace q392 := eq_true q392
       have p393 : 0 ≤ (4 : Int) := (by omega)
       have q393 : 4 < (l1.length : Int) := dd_
       obtain ⟨ad393, e393, hx393_0⟩ := Kd.at_int HR1.out 4 p393 q393
       have hw393_0 := hx393_0
       (try rw [show ((4 : Int)).toNat = 4 from rfl] at hw393_0)
       (try rw [show 4 * 1 = 4 from rfl] at hw393_0)
       (try simp only [Nat.reduceMul, Nat.reduceEqDiff, Go.Addr.add, ↓reduceIte] at hw393_0)
       obtain rfl : ad386 = ad393 := (by injection e393)
       (try simp only [show (4 : Int).toNat = 4 from rfl, Nat.reduceMul, Nat.reduceEqDiff, Go.Addr.add, ↓reduceIte] at hx393_0)
       have qi393 : (4 < l1.length) = True := eq_true (by omega)
       (try rw [show ((4 : Int)).toNat = 4 from rfl] at hx393_0)
       replace hx393_0 := hc_ HB hx393_0
       replace p393 := eq_true p393
       replace q393 := eq_true q393
       have p394 : 0 ≤ (6 : Int) := (by omega)
       have q394 : 6 < (l1.length : Int) := dd_
       obtain ⟨ad394, e394, hx394_0⟩ := Kd.at_int HR1.out 6 p394 q394
       have hw394_0 := hx394_0
       (try rw [show ((6 : Int)).toNat = 6 from rfl] at hw394_0)
       (try rw [show 6 * 1 = 6 from rfl] at hw394_0)
       (try simp only [Nat.reduceMul, Nat.reduceEqDiff, Go.Addr.add, ↓reduceIte] at hw394_0)
       obtain rfl : ad386 = ad394 := (by injection e394)
       (try simp only [show (6 : Int).toNat = 6 from rfl, Nat.reduceMul, Nat.reduceEqDiff, Go.Addr.add, ↓reduceIte] at hx394_0)
       have qi394 : (6 < l1.length) = True := eq_true (by omega)
       (try rw [show ((6 : Int)).toNat = 6 from rfl] at hx394_0)
       replace hx394_0 := hc_ HB hx394_0
       replace p394 := eq_true p394
       replace q394 := eq_true q394
       have p396 : 0 ≤ (2 : Int) := (by omega)
       have q396 : 2 < (l1.length : Int) := dd_
       obtain ⟨ad396, e396, hx396_0⟩ := Kd.at_int HR1.out 2 p396 q396
       have hw396_0 := hx396_0
       (try rw [show ((2 : Int)).toNat = 2 from rfl] at hw396_0)
       (try rw [show 2 * 1 = 2 from rfl] at hw396_0)
       (try simp only [Nat.reduceMul, Nat.reduceEqDiff, Go.Addr.add, ↓reduceIte] at hw396_0)
       obtain rfl : ad386 = ad396 := (by injection e396)
       (try simp only [show (2 : Int).toNat = 2 from rfl, Nat.reduceMul, Nat.reduceEqDiff, Go.Addr.add, ↓reduceIte] at hx396_0)
       have qi396 : (2 < l1.length) = True := eq_true (by omega)
       (try rw [show ((2 : Int)).toNat = 2 from rfl] at hx396_0)
       replace hx396_0 := hc_ HB hx396_0
       replace p396 := eq_true p396
       replace q396 := eq_true q396
       have p397 : 0 ≤ (3 : Int) := (by omega)
       have q397 : 3 < (l1.length : Int) := dd_
       obtain ⟨ad397, e397, hx397_0⟩ := Kd.at_int HR1.out 3 p397 q397
       have hw397_0 := hx397_0
       (try rw [show ((3 : Int)).toNat = 3 from rfl] at hw397_0)
       (try rw [show 3 * 1 = 3 from rfl] at hw397_0)
       (try simp only [Nat.reduceMul, Nat.reduceEqDiff, Go.Addr.add, ↓reduceIte] at hw397_0)
       obtain rfl : ad386 = ad397 := (by injection e397)
       (try simp only [show (3 : Int).toNat = 3 from rfl, Nat.reduceMul, Nat.reduceEqDiff, Go.Addr.add, ↓reduceIte] at hx397_0)
       have qi397 : (3 < l1.length) = True := eq_true (by omega)
       (try rw [show ((3 : Int)).toNat = 3 from rfl] at hx397_0)
       replace hx397_0 := hc_ HB hx397_0
       replace p397 := eq_true p397
       replace q397 := eq_true q397
       have p398 : 0 ≤ (5 : Int) := (by omega)
       have q398 : 5 < (l1.length : Int) := dd_
       obtain ⟨ad398, e398, hx398_0⟩ := Kd.at_int HR1.out 5 p398 q398
       have hw398_0 := hx398_0
       (try rw [show ((5 : Int)).toNat = 5 from rfl] at hw398_0)
       (try rw [show 5 * 1 = 5 from rfl] at hw398_0)
       (try simp only [Nat.reduceMul, Nat.reduceEqDiff, Go.Addr.add, ↓reduceIte] at hw398_0)
       obtain rfl : ad386 = ad398 := (by injection e398)
       (try simp only [show (5 : Int).toNat = 5 from rfl, Nat.reduceMul, Nat.reduceEqDiff, Go.Addr.add, ↓reduceIte] at hx398_0)
       have qi398 : (5 < l1.length) = True := eq_true (by omega)
       (try rw [show ((5 : Int)).toNat = 5 from rfl] at hx398_0)
       replace hx398_0 := hc_ HB hx398_0
       replace p398 := eq_true p398
       replace q398 := eq_true q398
       have p399 : 0 ≤ (6 : Int) := (by omega)
       have q399 : 6 < (l1.length : Int) := dd_
       obtain ⟨ad399, e399, hx399_0⟩ := Kd.at_int HR1.out 6 p399 q399
       have hw399_0 := hx399_0
       (try rw [show ((6 : Int)).toNat = 6 from rfl] at hw399_0)
       (try rw [show 6 * 1 = 6 from rfl] at hw399_0)
       (try simp only [Nat.reduceMul, Nat.reduceEqDiff, Go.Addr.add, ↓reduceIte] at hw399_0)
       obtain rfl : ad386 = ad399 := (by injection e399)
       (try simp only [show (6 : Int).toNat = 6 from rfl, Nat.reduceMul, Nat.reduceEqDiff, Go.Addr.add, ↓reduceIte] at hx399_0)
       have qi399 : (6 < l1.length) = True := eq_true (by omega)
       (try rw [show ((6 : Int)).toNat = 6 from rfl] at hx399_0)
       replace hx399_0 := hc_ HB hx399_0
       replace p399 := eq_true p399
       replace q399 := eq_true q399
       refine start_ (n := 44) (S := fun w' => w'.cell? ⟨ad386.block, ad386.off + 1, none⟩ = some (.int .i64 (rd l1 1)) ∧ w'.cell? ⟨ad386.block, ad386.off + 2, none⟩ = some (.int .i64 (rd l1 2)) ∧ w'.cell? ⟨ad386.block, ad386.off + 4, none⟩ = some (.int .i64 (rd l1 4)) ∧ w'.cell? ⟨ad386.block, ad386.off + 5, none⟩ = some (.int .i64 (rd l1 5)) ∧ w'.cell? ⟨ad386.block, ad386.off + 1, none⟩ = some (.int .i64 (rd l1 1)) ∧ w'.cell? ⟨ad386.block, ad386.off + 3, none⟩ = some (.int .i64 (rd l1 3)) ∧ w'.cell? ⟨ad386.block, ad386.off + 4, none⟩ = some (.int .i64 (rd l1 4)) ∧ w'.cell? ⟨ad386.block, ad386.off + 6, none⟩ = some (.int .i64 (rd l1 6)) ∧ w'.cell? ⟨ad386.block, ad386.off + 2, none⟩ = some (.int .i64 (rd l1 2)) ∧ w'.cell? ⟨ad386.block, ad386.off + 3, none⟩ = some (.int .i64 (rd l1 3)) ∧ w'.cell? ⟨ad386.block, ad386.off + 5, none⟩ = some (.int .i64 (rd l1 5)) ∧ w'.cell? ⟨ad386.block, ad386.off + 6, none⟩ = some (.int .i64 (rd l1 6))) (ds := []) #[F_,F_,F_,F_,F_,F_,F_,F_,F_,F_,F_,F_,F_,F_,F_,F_,F_,F_,F_,F_,F_,F_,F_,F_,F_,F_,F_,F_,F_,F_,F_,F_,F_,F_,F_,F_,F_,F_,F_,F_,F_,F_,F_,F_] (by kernel_rfl) rfl rfl ⟨(hc_ HB hw386_0), (hc_ HB hw387_0), (hc_ HB hw388_0), (hc_ HB hw389_0), (hc_ HB hw391_0), (hc_ HB hw392_0), (hc_ HB hw393_0), (hc_ HB hw394_0), (hc_ HB hw396_0), (hc_ HB hw397_0), (hc_ HB hw398_0), (hc_ HB hw399_0)⟩ (fun hHeld => ?_); refine with_tabW spec_l4Twin.tab1 spec_l4Twin.bits1 (fun HT_ HW_ => ?_)
       generalize w.drew = w12 at HB hx386_0 hx387_0 hx388_0 hx389_0 hx391_0 hx392_0 hx393_0 hx394_0 hx396_0 hx397_0 hx398_0 hx399_0 hHeld ⊢
       refine p_ 0 5 (m_ 44 1) HT_.out ?_
       refine p_ 1 6 (m_ 44 3) HT_.out ?_
       refine p_ 2 7 (m_ 44 7) HT_.out ?_
       refine p_ 4 9 (m_ 44 23) HT_.out ?_
       refine p_ 5 10 (m_ 44 55) HT_.out ?_
       refine p_ 7 12 (m_ 44 183) HT_.out ?_
       refine p_ 8 13 (m_ 44 439) HT_.out ?_
       refine p_ 10 15 (m_ 44 1463) HT_.out ?_
       refine p_ 11 16 (m_ 44 3511) HT_.out ?_
       refine p_ 14 19 (m_ 44 19895) HT_.out ?_
       refine p_ 15 20 (m_ 44 52663) HT_.out ?_
       refine p_ 16 21 (m_ 44 118199) HT_.out ?_
       refine p_ 18 23 (m_ 44 380343) HT_.out ?_
       refine p_ 19 24 (m_ 44 904631) HT_.out ?_
       refine p_ 21 26 (m_ 44 3001783) HT_.out ?_
       refine p_ 22 27 (m_ 44 7196087) HT_.out ?_
       refine p_ 24 29 (m_ 44 23973303) HT_.out ?_
       refine p_ 25 30 (m_ 44 57527735) HT_.out ?_
       refine p_ 28 33 (m_ 44 325963191) HT_.out ?_
       refine p_ 29 34 (m_ 44 862834103) HT_.out ?_
       refine p_ 30 35 (m_ 44 1936575927) HT_.out ?_
       refine p_ 32 37 (m_ 44 6231543223) HT_.out ?_
       refine p_ 33 38 (m_ 44 14821477815) HT_.out ?_
       refine p_ 35 40 (m_ 44 49181216183) HT_.out ?_
       refine p_ 36 41 (m_ 44 117900692919) HT_.out ?_
       refine p_ 38 43 (m_ 44 392778599863) HT_.out ?_
       refine p_ 39 44 (m_ 44 942534413751) HT_.out ?_
       refine take_ (i := 3) (N := some 8) (v := ?_) (a' := ?_) (m_ 44 942534413759) rfl rfl (take_ofW HT_.out HW_.out (by kernel_rfl)) (fun _ _ _ h => h) (Or.inl ⟨by rfl, ?_⟩) hHeld ?_ ?_; rotate_left; (rintro w' ⟨s0, s1, s2, s3, s4, s5, s6, s7, s8, s9, s10, s11⟩; go_simp; with_reducible rfl); rotate_left; (simp only [Act.put, List.setIfInBounds_toArray, List.set_cons_zero, List.set_cons_succ, i64_w, i32_w]; rfl)
       refine take_ (i := 6) (N := some 11) (v := ?_) (a' := ?_) (m_ 44 942534413823) rfl rfl (take_ofW HT_.out HW_.out (by kernel_rfl)) (fun _ _ _ h => h) (Or.inl ⟨by rfl, ?_⟩) hHeld ?_ ?_; rotate_left; (rintro w' ⟨s0, s1, s2, s3, s4, s5, s6, s7, s8, s9, s10, s11⟩; go_simp; with_reducible rfl); rotate_left; (simp only [Act.put, List.setIfInBounds_toArray, List.set_cons_zero, List.set_cons_succ, i64_w, i32_w]; rfl)
       refine take_ (i := 9) (N := some 14) (v := ?_) (a' := ?_) (m_ 44 942534414335) rfl rfl (take_ofW HT_.out HW_.out (by kernel_rfl)) (fun _ _ _ h => h) (Or.inl ⟨by rfl, ?_⟩) hHeld ?_ ?_; rotate_left; (rintro w' ⟨s0, s1, s2, s3, s4, s5, s6, s7, s8, s9, s10, s11⟩; go_simp; with_reducible rfl); rotate_left; (simp only [Act.put, List.setIfInBounds_toArray, List.set_cons_zero, List.set_cons_succ, i64_w, i32_w]; rfl)
       refine take_ (i := 12) (N := some 17) (v := ?_) (a' := ?_) (m_ 44 942534418431) rfl rfl (take_ofW HT_.out HW_.out (by kernel_rfl)) (fun _ _ _ h => h) (Or.inl ⟨by rfl, ?_⟩) hHeld ?_ ?_; rotate_left; (rintro w' ⟨s0, s1, s2, s3, s4, s5, s6, s7, s8, s9, s10, s11⟩; go_simp; with_reducible rfl); rotate_left; (simp only [Act.put, List.setIfInBounds_toArray, List.set_cons_zero, List.set_cons_succ, i64_w, i32_w]; rfl)
       refine take_ (i := 17) (N := some 22) (v := ?_) (a' := ?_) (m_ 44 942534549503) rfl rfl (take_ofW HT_.out HW_.out (by kernel_rfl)) (fun _ _ _ h => h) (Or.inl ⟨by rfl, ?_⟩) hHeld ?_ ?_; rotate_left; (rintro w' ⟨s0, s1, s2, s3, s4, s5, s6, s7, s8, s9, s10, s11⟩; go_simp; with_reducible rfl); rotate_left; (simp only [Act.put, List.setIfInBounds_toArray, List.set_cons_zero, List.set_cons_succ, i64_w, i32_w]; rfl)
       refine take_ (i := 20) (N := some 25) (v := ?_) (a' := ?_) (m_ 44 942535598079) rfl rfl (take_ofW HT_.out HW_.out (by kernel_rfl)) (fun _ _ _ h => h) (Or.inl ⟨by rfl, ?_⟩) hHeld ?_ ?_; rotate_left; (rintro w' ⟨s0, s1, s2, s3, s4, s5, s6, s7, s8, s9, s10, s11⟩; go_simp; with_reducible rfl); rotate_left; (simp only [Act.put, List.setIfInBounds_toArray, List.set_cons_zero, List.set_cons_succ, i64_w, i32_w]; rfl)
       refine take_ (i := 23) (N := some 28) (v := ?_) (a' := ?_) (m_ 44 942543986687) rfl rfl (take_ofW HT_.out HW_.out (by kernel_rfl)) (fun _ _ _ h => h) (Or.inl ⟨by rfl, ?_⟩) hHeld ?_ ?_; rotate_left; (rintro w' ⟨s0, s1, s2, s3, s4, s5, s6, s7, s8, s9, s10, s11⟩; go_simp; with_reducible rfl); rotate_left; (simp only [Act.put, List.setIfInBounds_toArray, List.set_cons_zero, List.set_cons_succ, i64_w, i32_w]; rfl)
       refine take_ (i := 26) (N := some 31) (v := ?_) (a' := ?_) (m_ 44 942611095551) rfl rfl (take_ofW HT_.out HW_.out (by kernel_rfl)) (fun _ _ _ h => h) (Or.inl ⟨by rfl, ?_⟩) hHeld ?_ ?_; rotate_left; (rintro w' ⟨s0, s1, s2, s3, s4, s5, s6, s7, s8, s9, s10, s11⟩; go_simp; with_reducible rfl); rotate_left; (simp only [Act.put, List.setIfInBounds_toArray, List.set_cons_zero, List.set_cons_succ, i64_w, i32_w]; rfl)
       refine take_ (i := 31) (N := some 36) (v := ?_) (a' := ?_) (m_ 44 944758579199) rfl rfl (take_ofW HT_.out HW_.out (by kernel_rfl)) (fun _ _ _ h => h) (Or.inl ⟨by rfl, ?_⟩) hHeld ?_ ?_; rotate_left; (rintro w' ⟨s0, s1, s2, s3, s4, s5, s6, s7, s8, s9, s10, s11⟩; go_simp; with_reducible rfl); rotate_left; (simp only [Act.put, List.setIfInBounds_toArray, List.set_cons_zero, List.set_cons_succ, i64_w, i32_w]; rfl)
       refine take_ (i := 34) (N := some 39) (v := ?_) (a' := ?_) (m_ 44 961938448383) rfl rfl (take_ofW HT_.out HW_.out (by kernel_rfl)) (fun _ _ _ h => h) (Or.inl ⟨by rfl, ?_⟩) hHeld ?_ ?_; rotate_left; (rintro w' ⟨s0, s1, s2, s3, s4, s5, s6, s7, s8, s9, s10, s11⟩; go_simp; with_reducible rfl); rotate_left; (simp only [Act.put, List.setIfInBounds_toArray, List.set_cons_zero, List.set_cons_succ, i64_w, i32_w]; rfl)
       refine take_ (i := 37) (N := some 42) (v := ?_) (a' := ?_) (m_ 44 1099377401855) rfl rfl (take_ofW HT_.out HW_.out (by kernel_rfl)) (fun _ _ _ h => h) (Or.inl ⟨by rfl, ?_⟩) hHeld ?_ ?_; rotate_left; (rintro w' ⟨s0, s1, s2, s3, s4, s5, s6, s7, s8, s9, s10, s11⟩; go_simp; with_reducible rfl); rotate_left; (simp only [Act.put, List.setIfInBounds_toArray, List.set_cons_zero, List.set_cons_succ, i64_w, i32_w]; rfl)
       refine take_ (i := 40) (N := some 45) (v := ?_) (a' := ?_) (m_ 44 2198889029631) rfl rfl (take_ofW HT_.out HW_.out (by kernel_rfl)) (fun _ _ _ h => h) (Or.inl ⟨by rfl, ?_⟩) hHeld ?_ ?_; rotate_left; (rintro w' ⟨s0, s1, s2, s3, s4, s5, s6, s7, s8, s9, s10, s11⟩; go_simp; with_reducible rfl); rotate_left; (simp only [Act.put, List.setIfInBounds_toArray, List.set_cons_zero, List.set_cons_succ, i64_w, i32_w]; rfl)
       refine one_ (i := 13) (N := some 18) (m_ 44 2198889037823) rfl rfl (one_of HT_.out (by kernel_rfl)) (by decide) (fun K hK => ?_)
       refine goes_ Try.func135 (by kernel_rfl) rfl #[.slice A0 l0.length c0, .int .i64 (rd l1 1), .int .i64 (rd l1 2), .int .i64 (rd l1 4), .int .i64 (rd l1 5)] (by rfl) rfl rfl ll_ ?_
       with_reducible refine (spec_l4Cross.calls k _ _ l0 (rd l1 1) (rd l1 2) (rd l1 4) (rd l1 5) t390 _ ?side1 ?side2 A7.out).mono ?_
       (case side1 => exact sb_ HR0 HB)
       (case side2 => exact HC0.out)
       rintro e w' ⟨rfl, ⟨nd, rfl⟩⟩
       refine ⟨_, rfl, ?_⟩
       refine hK.out _ _ ⟨(hc_ HB hw386_0), (hc_ HB hw387_0), (hc_ HB hw388_0), (hc_ HB hw389_0), (hc_ HB hw391_0), (hc_ HB hw392_0), (hc_ HB hw393_0), (hc_ HB hw394_0), (hc_ HB hw396_0), (hc_ HB hw397_0), (hc_ HB hw398_0), (hc_ HB hw399_0)⟩ (fun hHeld => ?_)
       clear hK K
       refine norm_ (a' := ?_) ?_ ?_; rotate_left; (show Act.put _ (some 18) _ = _; simp only [Act.put, List.setIfInBounds_toArray, List.set_cons_zero, List.set_cons_succ, i64_w, i32_w]; rfl)
       refine one_ (i := 27) (N := some 32) (m_ 44 2199023255551) rfl rfl (one_of HT_.out (by kernel_rfl)) (by decide) (fun K hK => ?_)
       refine goes_ Try.func135 (by kernel_rfl) rfl #[.slice A0 l0.length c0, .int .i64 (rd l1 1), .int .i64 (rd l1 3), .int .i64 (rd l1 4), .int .i64 (rd l1 6)] (by rfl) rfl rfl ll_ ?_
       with_reducible refine (spec_l4Cross.calls k _ _ l0 (rd l1 1) (rd l1 3) (rd l1 4) (rd l1 6) t395 _ ?side1 ?side2 A10.out).mono ?_
       (case side1 => repeat (first | exact (Kd.C_below HR0.out (bb_ HB)) | (with_reducible refine Kd.C_alloc ?_ _) | (with_reducible refine Kd.C_drewN ?_ _) | (with_reducible refine Kd.C_drew ?_)))
       (case side2 => exact HC0.out)
       rintro e w' ⟨rfl, ⟨nd, rfl⟩⟩
       refine ⟨_, rfl, ?_⟩
       refine hK.out _ _ ⟨(hc_ HB hw386_0), (hc_ HB hw387_0), (hc_ HB hw388_0), (hc_ HB hw389_0), (hc_ HB hw391_0), (hc_ HB hw392_0), (hc_ HB hw393_0), (hc_ HB hw394_0), (hc_ HB hw396_0), (hc_ HB hw397_0), (hc_ HB hw398_0), (hc_ HB hw399_0)⟩ (fun hHeld => ?_)
       clear hK K
       refine norm_ (a' := ?_) ?_ ?_; rotate_left; (show Act.put _ (some 32) _ = _; simp only [Act.put, List.setIfInBounds_toArray, List.set_cons_zero, List.set_cons_succ, i64_w, i32_w]; rfl)
       refine one_ (i := 41) (N := some 46) (m_ 44 4398046511103) rfl rfl (one_of HT_.out (by kernel_rfl)) (by decide) (fun K hK => ?_)
       refine goes_ Try.func135 (by kernel_rfl) rfl #[.slice A0 l0.length c0, .int .i64 (rd l1 2), .int .i64 (rd l1 3), .int .i64 (rd l1 5), .int .i64 (rd l1 6)] (by rfl) rfl rfl ll_ ?_
       with_reducible refine (spec_l4Cross.calls k _ _ l0 (rd l1 2) (rd l1 3) (rd l1 5) (rd l1 6) t400 _ ?side1 ?side2 A11.out).mono ?_
       (case side1 => repeat (first | exact (Kd.C_below HR0.out (bb_ HB)) | (with_reducible refine Kd.C_alloc ?_ _) | (with_reducible refine Kd.C_drewN ?_ _) | (with_reducible refine Kd.C_drew ?_)))
       (case side2 => exact HC0.out)
       rintro e w' ⟨rfl, ⟨nd, rfl⟩⟩
       refine ⟨_, rfl, ?_⟩
       refine hK.out _ _ ⟨(hc_ HB hw386_0), (hc_ HB hw387_0), (hc_ HB hw388_0), (hc_ HB hw389_0), (hc_ HB hw391_0), (hc_ HB hw392_0), (hc_ HB hw393_0), (hc_ HB hw394_0), (hc_ HB hw396_0), (hc_ HB hw397_0), (hc_ HB hw398_0), (hc_ HB hw399_0)⟩ (fun hHeld => ?_)
       clear hK K
       refine norm_ (a' := ?_) ?_ ?_; rotate_left; (show Act.put _ (some 46) _ = _; simp only [Act.put, List.setIfInBounds_toArray, List.set_cons_zero, List.set_cons_succ, i64_w, i32_w]; rfl)
       refine one_ (i := 42) (N := some 47) (m_ 44 8796093022207) rfl rfl (one_of HT_.out (by kernel_rfl)) (by decide) (fun K hK => ?_)
       refine Kd.R_lit_step (Kd.int .i64) _ 3 ?hg (N := 47) ?hd (xs := ([t390, t395, t400] : List Int)) (inner := [.int .i64 t390, .int .i64 t395, .int .i64 t400]) (ok := fun _ => True) (okp := fun _ => True) ?hr ?hp (fun _ hk => hk) trivial (Below.refl _ _) (Nat.le_refl _) (by simp) ?_; (case hd => rfl); (case hg => rfl); (case hr => first | (go_simp; done) | (go_simp; rfl)); (case hp => exact (Reps.one (show Kd.M (Kd.int .i64) _ _ _ t390 [.int .i64 t390] from rfl) (Reps.one (show Kd.M (Kd.int .i64) _ _ _ t395 [.int .i64 t395] from rfl) (Reps.one (show Kd.M (Kd.int .i64) _ _ _ t400 [.int .i64 t400] from rfl) (Reps.none _ _)))))
       intro v402 w13 ho14 hb hg_ hnew_
       clear hg_ hnew_
       (first | rw [← Ny401.out] at ho14 | (simp only [Int.reduceToNat] at ho14; rw [← Ny401.out] at ho14))
       have n0_ := Aside0.mk (Kd.R_lower ho14 (below_size (bb_ HB)))
       have n1_ := Aside0.mk (below_step (bb_ HB) hb)
       clear HB
       have HO403 := n0_
       have HB := n1_
       clear n0_ n1_
       clear hb ho14
       refine hK.out _ _ ⟨(hc_ HB hw386_0), (hc_ HB hw387_0), (hc_ HB hw388_0), (hc_ HB hw389_0), (hc_ HB hw391_0), (hc_ HB hw392_0), (hc_ HB hw393_0), (hc_ HB hw394_0), (hc_ HB hw396_0), (hc_ HB hw397_0), (hc_ HB hw398_0), (hc_ HB hw399_0)⟩ (fun hHeld => ?_)
       clear hK K
       refine norm_ (a' := ?_) ?_ ?_; rotate_left; (show Act.put _ (some 47) _ = _; simp only [Act.put, List.setIfInBounds_toArray, List.set_cons_zero, List.set_cons_succ, i64_w, i32_w]; rfl)
       refine p_ 43 4 (m_ 44 17592186044415) HT_.out ?_
       refine done_ (done_of HT_.out (by kernel_rfl)) ?_
       try go_wp2
       go_ret
       exact ⟨_, ee_, by (with_reducible repeat (first | apply Kd.R_alloc | apply Kd.R_drewN | apply Kd.R_drew)); exact HO403.out, bb_ HB⟩
      ·rw [if_neg c9] at H
       exact absurd H (by simp)
     ·rw [if_neg c8] at H
      exact absurd H (by simp)
    ·rw [if_neg c6] at H
     exact absurd H (by simp)
   ·rw [if_neg c5] at H
    exact absurd H (by simp)
  ·rw [if_neg c4] at H
   exact absurd H (by simp)
 ·rw [if_neg c3] at H
  exact absurd H (by simp)
end Go.Proofs.Ytcbkoecanldlpaa.P

namespace Go.Proofs.Ytcbkoecanldlpaa.P
open Go.RowKit Go.Proofs.YtcbkoecanldlpaaW.PrintWords Go.Proofs.YtcbkoecanldlpaaW.PrintLast
set_option linter.unusedVariables false
set_option linter.unusedSimpArgs false

def spec_TwinPoints.f (k : Nat) (l0 : List Int) (l1 : List Int) : Option (List Int × Bool) := (spec_TwinIn.f k l0 l1).bind fun t404 => (if t404 = true then ((spec_l4Twin.f k l0 l1).bind fun t405 => (some (t405, true))) else (some ((([] : List Int)), false)))
set_option maxHeartbeats 8000000 in
set_option maxRecDepth 100000 in
theorem spec_TwinPoints.calls (k : Nat) (A0 : Option Addr) (c0 : Nat) (l0 : List Int) (A1 : Option Addr) (c1 : Nat) (l1 : List Int) (r1 : List Int) (r2 : Bool) (w : World) (hr0 : Kd.C (Kd.int .i64) w A0 l0.length l0) (hc0 : l0.length ≤ c0) (hr1 : Kd.C (Kd.int .i64) w A1 l1.length l1) (hc1 : l1.length ≤ c1) (h : spec_TwinPoints.f k l0 l1 = some (r1, r2)) :
  Calls Try.prog 24 #[.slice A0 l0.length c0, .slice A1 l1.length c1] w fun e w' => ∃ v0_ : Value, e = .returned (.tuple #[v0_, .bool r2]) ∧ Kd.R (Kd.int .i64) 3 w' w.heap.size (fun _ => True) v0_ r1 ∧ Below w.heap.size w w' := by
 have HR0 := Aside0.mk hr0
 have HC0 := Aside0.mk hc0
 clear hr0 hc0
 have HR1 := Aside0.mk hr1
 have HC1 := Aside0.mk hc1
 clear hr1 hc1
 have HB := Aside0.mk (Below.refl w.heap.size w)
 have H : ((spec_TwinIn.f k l0 l1).bind fun t404 => (if t404 = true then ((spec_l4Twin.f k l0 l1).bind fun t405 => (some (t405, true))) else (some ((([] : List Int)), false)))) = some (r1, r2) := h
 clear h
 replace H := Option.bind_eq_some_iff.mp H
 obtain ⟨t404, A30, H⟩ := H
 replace H : (if t404 = true then ((spec_l4Twin.f k l0 l1).bind fun t405 => (some (t405, true))) else (some ((([] : List Int)), false))) = some (r1, r2) := H
 have A3 := Aside0.mk A30
 clear A30
 by_cases c4 : t404 = true
 ·subst c4
  have H1 : ((spec_l4Twin.f k l0 l1).bind fun t405 => (some (t405, true))) = some (r1, r2) := by rw [if_pos rfl] at H; exact H
  clear H
  have H := H1
  clear H1
  replace H := Option.bind_eq_some_iff.mp H
  obtain ⟨t405, A50, H⟩ := H
  replace H : (some (t405, true)) = some (r1, r2) := H
  have A5 := Aside0.mk A50
  clear A50
  simp only [Option.some.injEq, Prod.mk.injEq] at H
  obtain ⟨rfl, rfl⟩ := H
  go_enter Try.func24, Try.ntmps24
  go_wp2_with (first | (refine goesL_ (some 8) rfl rfl Try.func17 (by kernel_rfl) rfl #[.slice A0 l0.length c0, .slice A1 l1.length c1] rfl ll_ ?_; (with_reducible refine (spec_TwinIn.calls k _ _ l0 _ _ l1 true _ ?side1 ?side2 ?side3 ?side4 A3.out).mono ?_); (case side1 => exact ss_ HR0); (case side2 => exact HC0.out); (case side3 => exact ss_ HR1); (case side4 => exact HC1.out); rintro e w6 ⟨rfl, hb⟩; refine ⟨_, rfl, ?_⟩; have n0_ := Aside0.mk (below_step (bb_ HB) hb); clear HB; have HB := n0_; clear n0_; (try clear hb); (try clear hb2); (try clear hk); (try clear hi)) | (refine goesL_ (some 13) rfl rfl Try.func72 (by kernel_rfl) rfl #[.slice A0 l0.length c0, .slice A1 l1.length c1] rfl ll_ ?_; (with_reducible refine (spec_l4Twin.calls k _ _ l0 _ _ l1 t405 _ ?side1 ?side2 ?side3 ?side4 A5.out).mono ?_); (case side1 => exact sb_ HR0 HB); (case side2 => exact HC0.out); (case side3 => exact sb_ HR1 HB); (case side4 => exact HC1.out); rintro e w7 ⟨v406, rfl, ho0, hb⟩; refine ⟨_, rfl, ?_⟩; have n0_ := Aside0.mk (Kd.R_lower ho0 (below_size (bb_ HB))); have n1_ := Aside0.mk (below_step (bb_ HB) hb); clear HB; have HO407 := n0_; have HB := n1_; clear n0_ n1_; (try clear hb); (try clear hb2); (try clear hk); (try clear hi); (try clear ho0)))
  go_ret2
  exact ⟨_, ee_, by (with_reducible repeat (first | apply Kd.R_alloc | apply Kd.R_drewN | apply Kd.R_drew)); exact HO407.out, bb_ HB⟩
 ·replace c4 := Bool.eq_false_iff.mpr c4
  subst c4
  have H1 : (some ((([] : List Int)), false)) = some (r1, r2) := by rw [if_neg (show ¬ (false = true) by decide)] at H; exact H
  clear H
  have H := H1
  clear H1
  obtain ⟨y408, hy408⟩ : ∃ y_ : List Int, y_ = (([] : List Int)) := ⟨_, rfl⟩
  replace H : (some (y408, false)) = some (r1, r2) := by first | (rw [hy408]; with_reducible exact H) | (have H2_ := (Option.bind_some _ _).symm.trans H; rw [hy408]; with_reducible exact H2_) | (have H2_ := (Option.bind_some _ _).symm.trans H; with_reducible exact H2_) | with_reducible exact H | (rw [hy408]; exact H) | exact H
  have Ny408 := Aside0.mk hy408
  clear hy408
  simp only [Option.some.injEq, Prod.mk.injEq] at H
  obtain ⟨rfl, rfl⟩ := H
  go_enter Try.func24, Try.ntmps24
  go_wp2_with (first | (refine goesL_ (some 8) rfl rfl Try.func17 (by kernel_rfl) rfl #[.slice A0 l0.length c0, .slice A1 l1.length c1] rfl ll_ ?_; (with_reducible refine (spec_TwinIn.calls k _ _ l0 _ _ l1 false _ ?side1 ?side2 ?side3 ?side4 A3.out).mono ?_); (case side1 => exact ss_ HR0); (case side2 => exact HC0.out); (case side3 => exact ss_ HR1); (case side4 => exact HC1.out); rintro e w8 ⟨rfl, hb⟩; refine ⟨_, rfl, ?_⟩; have n0_ := Aside0.mk (below_step (bb_ HB) hb); clear HB; have HB := n0_; clear n0_; (try clear hb); (try clear hb2); (try clear hk); (try clear hi)) | ((with_reducible refine gate_dst (N := 10) rfl ?_); refine Kd.R_lit (Kd.int .i64) _ 3 ?hg (N := 10) ?hd (xs := ([] : List Int)) (inner := []) (ok := fun _ => True) (okp := fun _ => True) ?hr ?hp (fun _ hk => hk) trivial (Below.refl _ _) (Nat.le_refl _) (by simp) ?_; (case hd => rfl); (case hg => rfl); (case hr => first | (go_simp; done) | (go_simp; rfl)); (case hp => exact (Reps.none _ _)); intro v409 w9 ho10 hb hg_ hnew_; clear hg_ hnew_; (first | rw [← Ny408.out] at ho10 | (simp only [Int.reduceToNat] at ho10; rw [← Ny408.out] at ho10)); have n0_ := Aside0.mk (Kd.R_lower ho10 (below_size (bb_ HB))); have n1_ := Aside0.mk (below_step (bb_ HB) hb); clear HB; have HO410 := n0_; have HB := n1_; clear n0_ n1_; clear hb ho10))
  go_ret2
  exact ⟨_, ee_, by (with_reducible repeat (first | apply Kd.R_alloc | apply Kd.R_drewN | apply Kd.R_drew)); exact HO410.out, bb_ HB⟩
end Go.Proofs.Ytcbkoecanldlpaa.P

namespace Go.Proofs.Ytcbkoecanldlpaa.P
open Go.RowKit Go.Proofs.YtcbkoecanldlpaaW.PrintWords Go.Proofs.YtcbkoecanldlpaaW.PrintLast
set_option linter.unusedVariables false
set_option linter.unusedSimpArgs false

def spec_l4Row.f (k : Nat) (l0 : List Int) (a1 : Int) (a2 : Int) (a3 : Int) : Option (Bool) := if a1 = a2 then (some true) else (if a1 = a3 then (some true) else (if a2 = a3 then (some true) else ((spec_l3Three.f k l0 a1 a2 a3).bind fun t411 => (some t411))))
set_option maxHeartbeats 8000000 in
set_option maxRecDepth 100000 in
theorem spec_l4Row.calls (k : Nat) (A0 : Option Addr) (c0 : Nat) (l0 : List Int) (a1 : Int) (a2 : Int) (a3 : Int) (r : Bool) (w : World) (hr0 : Kd.C (Kd.int .i64) w A0 l0.length l0) (hc0 : l0.length ≤ c0) (h : spec_l4Row.f k l0 a1 a2 a3 = some r) :
  Calls Try.prog 71 #[.slice A0 l0.length c0, .int .i64 a1, .int .i64 a2, .int .i64 a3] w fun e w' => e = .returned (.bool r) ∧ Drawn0 w w' := by
 have HR0 := Aside0.mk hr0
 have HC0 := Aside0.mk hc0
 clear hr0 hc0
 have H : (if a1 = a2 then (some true) else (if a1 = a3 then (some true) else (if a2 = a3 then (some true) else ((spec_l3Three.f k l0 a1 a2 a3).bind fun t411 => (some t411))))) = some r := h
 clear h
 by_cases c5 : a1 = a2
 ·rw [if_pos c5] at H
  have c5b0 : (a1 == a2) = true := beq_iff_eq.mpr c5
  have c5b1 : (a1 != a2) = false := bne_eq_false_iff_eq.mpr c5
  clear c5
  obtain rfl := Option.some.inj H
  go_enter Try.func71, Try.ntmps71
  go_wp2
  go_ret
  exact ⟨by first | rfl | (simp; done) | (simp [*]; done), by repeat (first | exact Drawn0.refl _ | apply Drawn0.step)⟩
 ·rw [if_neg c5] at H
  have c5b0 : (a1 == a2) = false := beq_eq_false_iff_ne.mpr c5
  have c5b1 : (a1 != a2) = true := bne_iff_ne.mpr c5
  by_cases c6 : a1 = a3
  ·rw [if_pos c6] at H
   have c6b0 : (a1 == a3) = true := beq_iff_eq.mpr c6
   have c6b1 : (a1 != a3) = false := bne_eq_false_iff_eq.mpr c6
   clear c6
   obtain rfl := Option.some.inj H
   go_enter Try.func71, Try.ntmps71
   go_wp2
   go_ret
   exact ⟨by first | rfl | (simp; done) | (simp [*]; done), by repeat (first | exact Drawn0.refl _ | apply Drawn0.step)⟩
  ·rw [if_neg c6] at H
   have c6b0 : (a1 == a3) = false := beq_eq_false_iff_ne.mpr c6
   have c6b1 : (a1 != a3) = true := bne_iff_ne.mpr c6
   by_cases c7 : a2 = a3
   ·rw [if_pos c7] at H
    have c7b0 : (a2 == a3) = true := beq_iff_eq.mpr c7
    have c7b1 : (a2 != a3) = false := bne_eq_false_iff_eq.mpr c7
    clear c7
    obtain rfl := Option.some.inj H
    go_enter Try.func71, Try.ntmps71
    go_wp2
    go_ret
    exact ⟨by first | rfl | (simp; done) | (simp [*]; done), by repeat (first | exact Drawn0.refl _ | apply Drawn0.step)⟩
   ·rw [if_neg c7] at H
    have c7b0 : (a2 == a3) = false := beq_eq_false_iff_ne.mpr c7
    have c7b1 : (a2 != a3) = true := bne_iff_ne.mpr c7
    replace H := Option.bind_eq_some_iff.mp H
    obtain ⟨t411, A80, H⟩ := H
    replace H : (some t411) = some r := H
    have A8 := Aside0.mk A80
    clear A80
    obtain rfl := Option.some.inj H
    go_enter Try.func71, Try.ntmps71
    go_wp2_with (first | (go_at_call 65; (with_reducible refine (spec_l3Three.calls k _ _ l0 a1 a2 a3 t411 _ ?side1 ?side2 A8.out).mono ?_); (case side1 => exact ss_ HR0); (case side2 => exact HC0.out); rintro e w' ⟨rfl, ⟨nd, rfl⟩⟩))
    go_ret
    exact ⟨by first | rfl | (simp; done) | (simp [*]; done), by repeat (first | exact Drawn0.refl _ | apply Drawn0.step)⟩
end Go.Proofs.Ytcbkoecanldlpaa.P

namespace Go.Proofs.Ytcbkoecanldlpaa.P
open Go.RowKit Go.Proofs.YtcbkoecanldlpaaW.PrintWords Go.Proofs.YtcbkoecanldlpaaW.PrintLast
set_option linter.unusedVariables false
set_option linter.unusedSimpArgs false

def spec_TwinCloses.f (k : Nat) (l0 : List Int) (l1 : List Int) : Option (Bool) := (spec_TwinPoints.f k l0 l1).bind fun bt412 => (if bt412.2 = true then (if 0 < (bt412.1.length : Int) then (if 1 < (bt412.1.length : Int) then (if 2 < (bt412.1.length : Int) then ((spec_l4Row.f k l0 (rd bt412.1 0) (rd bt412.1 1) (rd bt412.1 2)).bind fun t419 => (some t419)) else (none)) else (none)) else (none)) else (some false))
set_option maxHeartbeats 8000000 in
set_option maxRecDepth 100000 in
theorem spec_TwinCloses.calls (k : Nat) (A0 : Option Addr) (c0 : Nat) (l0 : List Int) (A1 : Option Addr) (c1 : Nat) (l1 : List Int) (r : Bool) (w : World) (hr0 : Kd.C (Kd.int .i64) w A0 l0.length l0) (hc0 : l0.length ≤ c0) (hr1 : Kd.C (Kd.int .i64) w A1 l1.length l1) (hc1 : l1.length ≤ c1) (h : spec_TwinCloses.f k l0 l1 = some r) :
  Calls Try.prog 22 #[.slice A0 l0.length c0, .slice A1 l1.length c1] w fun e w' => e = .returned (.bool r) ∧ Below w.heap.size w w' := by
 have HR0 := Aside0.mk hr0
 have HC0 := Aside0.mk hc0
 clear hr0 hc0
 have HR1 := Aside0.mk hr1
 have HC1 := Aside0.mk hc1
 clear hr1 hc1
 have HB := Aside0.mk (Below.refl w.heap.size w)
 have H : ((spec_TwinPoints.f k l0 l1).bind fun bt412 => (if bt412.2 = true then (if 0 < (bt412.1.length : Int) then (if 1 < (bt412.1.length : Int) then (if 2 < (bt412.1.length : Int) then ((spec_l4Row.f k l0 (rd bt412.1 0) (rd bt412.1 1) (rd bt412.1 2)).bind fun t419 => (some t419)) else (none)) else (none)) else (none)) else (some false))) = some r := h
 clear h
 replace H := Option.bind_eq_some_iff.mp H
 obtain ⟨⟨t412, t413⟩, A30, H⟩ := H
 replace H : (if t413 = true then (if 0 < (t412.length : Int) then (if 1 < (t412.length : Int) then (if 2 < (t412.length : Int) then ((spec_l4Row.f k l0 (rd t412 0) (rd t412 1) (rd t412 2)).bind fun t419 => (some t419)) else (none)) else (none)) else (none)) else (some false)) = some r := H
 have A3 := Aside0.mk A30
 clear A30
 by_cases c4 : t413 = true
 ·subst c4
  have H1 : (if 0 < (t412.length : Int) then (if 1 < (t412.length : Int) then (if 2 < (t412.length : Int) then ((spec_l4Row.f k l0 (rd t412 0) (rd t412 1) (rd t412 2)).bind fun t419 => (some t419)) else (none)) else (none)) else (none)) = some r := by rw [if_pos rfl] at H; exact H
  clear H
  have H := H1
  clear H1
  by_cases c5 : 0 < (t412.length : Int)
  ·rw [if_pos c5] at H
   have c5b0 : decide (0 < (t412.length : Int)) = true := decide_eq_true c5
   have c5b1 : decide (0 < t412.length) = true := decide_eq_true (by omega)
   clear c5
   by_cases c6 : 1 < (t412.length : Int)
   ·rw [if_pos c6] at H
    have c6b0 : decide (1 < (t412.length : Int)) = true := decide_eq_true c6
    have c6b1 : decide (1 < t412.length) = true := decide_eq_true (by omega)
    clear c6
    by_cases c7 : 2 < (t412.length : Int)
    ·rw [if_pos c7] at H
     have c7b0 : decide (2 < (t412.length : Int)) = true := decide_eq_true c7
     have c7b1 : decide (2 < t412.length) = true := decide_eq_true (by omega)
     clear c7
     replace H := Option.bind_eq_some_iff.mp H
     obtain ⟨t419, A80, H⟩ := H
     replace H : (some t419) = some r := H
     have A8 := Aside0.mk A80
     clear A80
     obtain rfl := Option.some.inj H
     go_enter Try.func22, Try.ntmps22
     go_wp2_with (first | (go_at_call 24; (with_reducible refine (spec_TwinPoints.calls k _ _ l0 _ _ l1 t412 true _ ?side1 ?side2 ?side3 ?side4 A3.out).mono ?_); (case side1 => exact ss_ HR0); (case side2 => exact HC0.out); (case side3 => exact ss_ HR1); (case side4 => exact HC1.out); rintro e w9 ⟨v414, rfl, ho0, hb⟩; have n0_ := Aside0.mk (Kd.R_lower ho0 (below_size (bb_ HB))); have n1_ := Aside0.mk (below_step (bb_ HB) hb); clear HB; have HO415 := n0_; have HB := n1_; clear n0_ n1_; (try clear hb); (try clear hb2); (try clear hk); (try clear hi); (try clear ho0); obtain ⟨Ao10, co10, eo10⟩ := Kd.R_slice HO415.out; subst eo10; have p416 : 0 ≤ (0 : Int) := (by omega); have q416 : 0 < (t412.length : Int) := dd_; obtain ⟨ad416, e416, hx416_0⟩ := Kd.at_int (Kd.R_reads' HO415.out).2.2 0 p416 q416; cases e416; have qi416 : (0 < t412.length) = True := eq_true (by omega); (try rw [show ((0 : Int)).toNat = 0 from rfl] at hx416_0); (try rw [Addr.add_zero'] at hx416_0); replace p416 := eq_true p416; replace q416 := eq_true q416; have p417 : 0 ≤ (1 : Int) := (by omega); have q417 : 1 < (t412.length : Int) := dd_; obtain ⟨ad417, e417, hx417_0⟩ := Kd.at_int (Kd.R_reads' HO415.out).2.2 1 p417 q417; obtain rfl : ad416 = ad417 := (by injection e417); (try simp only [show (1 : Int).toNat = 1 from rfl, Nat.reduceMul, Nat.reduceEqDiff, Go.Addr.add, ↓reduceIte] at hx417_0); have qi417 : (1 < t412.length) = True := eq_true (by omega); (try rw [show ((1 : Int)).toNat = 1 from rfl] at hx417_0); replace p417 := eq_true p417; replace q417 := eq_true q417; have p418 : 0 ≤ (2 : Int) := (by omega); have q418 : 2 < (t412.length : Int) := dd_; obtain ⟨ad418, e418, hx418_0⟩ := Kd.at_int (Kd.R_reads' HO415.out).2.2 2 p418 q418; obtain rfl : ad416 = ad418 := (by injection e418); (try simp only [show (2 : Int).toNat = 2 from rfl, Nat.reduceMul, Nat.reduceEqDiff, Go.Addr.add, ↓reduceIte] at hx418_0); have qi418 : (2 < t412.length) = True := eq_true (by omega); (try rw [show ((2 : Int)).toNat = 2 from rfl] at hx418_0); replace p418 := eq_true p418; replace q418 := eq_true q418) | (go_at_call 71; (with_reducible refine (spec_l4Row.calls k _ _ l0 (rd t412 0) (rd t412 1) (rd t412 2) t419 _ ?side1 ?side2 A8.out).mono ?_); (case side1 => exact sb_ HR0 HB); (case side2 => exact HC0.out); rintro e w' ⟨rfl, ⟨nd, rfl⟩⟩; (try first | exact ⟨rfl, _, World.drewN_drewN _ _ _⟩ | exact ⟨rfl, _, Eq.trans (World.drewN_drewN _ _ _) (congrArg (World.drewN _) (Nat.add_assoc _ _ _))⟩)))
     repeat (go_quiet (first | (go_at_call 24; (with_reducible refine (spec_TwinPoints.calls k _ _ l0 _ _ l1 t412 true _ ?side1 ?side2 ?side3 ?side4 A3.out).mono ?_); (case side1 => exact ss_ HR0); (case side2 => exact HC0.out); (case side3 => exact ss_ HR1); (case side4 => exact HC1.out); rintro e w9 ⟨v414, rfl, ho0, hb⟩; have n0_ := Aside0.mk (Kd.R_lower ho0 (below_size (bb_ HB))); have n1_ := Aside0.mk (below_step (bb_ HB) hb); clear HB; have HO415 := n0_; have HB := n1_; clear n0_ n1_; (try clear hb); (try clear hb2); (try clear hk); (try clear hi); (try clear ho0); obtain ⟨Ao10, co10, eo10⟩ := Kd.R_slice HO415.out; subst eo10; have p416 : 0 ≤ (0 : Int) := (by omega); have q416 : 0 < (t412.length : Int) := dd_; obtain ⟨ad416, e416, hx416_0⟩ := Kd.at_int (Kd.R_reads' HO415.out).2.2 0 p416 q416; cases e416; have qi416 : (0 < t412.length) = True := eq_true (by omega); (try rw [show ((0 : Int)).toNat = 0 from rfl] at hx416_0); (try rw [Addr.add_zero'] at hx416_0); replace p416 := eq_true p416; replace q416 := eq_true q416; have p417 : 0 ≤ (1 : Int) := (by omega); have q417 : 1 < (t412.length : Int) := dd_; obtain ⟨ad417, e417, hx417_0⟩ := Kd.at_int (Kd.R_reads' HO415.out).2.2 1 p417 q417; obtain rfl : ad416 = ad417 := (by injection e417); (try simp only [show (1 : Int).toNat = 1 from rfl, Nat.reduceMul, Nat.reduceEqDiff, Go.Addr.add, ↓reduceIte] at hx417_0); have qi417 : (1 < t412.length) = True := eq_true (by omega); (try rw [show ((1 : Int)).toNat = 1 from rfl] at hx417_0); replace p417 := eq_true p417; replace q417 := eq_true q417; have p418 : 0 ≤ (2 : Int) := (by omega); have q418 : 2 < (t412.length : Int) := dd_; obtain ⟨ad418, e418, hx418_0⟩ := Kd.at_int (Kd.R_reads' HO415.out).2.2 2 p418 q418; obtain rfl : ad416 = ad418 := (by injection e418); (try simp only [show (2 : Int).toNat = 2 from rfl, Nat.reduceMul, Nat.reduceEqDiff, Go.Addr.add, ↓reduceIte] at hx418_0); have qi418 : (2 < t412.length) = True := eq_true (by omega); (try rw [show ((2 : Int)).toNat = 2 from rfl] at hx418_0); replace p418 := eq_true p418; replace q418 := eq_true q418) | (go_at_call 71; (with_reducible refine (spec_l4Row.calls k _ _ l0 (rd t412 0) (rd t412 1) (rd t412 2) t419 _ ?side1 ?side2 A8.out).mono ?_); (case side1 => exact sb_ HR0 HB); (case side2 => exact HC0.out); rintro e w' ⟨rfl, ⟨nd, rfl⟩⟩; (try first | exact ⟨rfl, _, World.drewN_drewN _ _ _⟩ | exact ⟨rfl, _, Eq.trans (World.drewN_drewN _ _ _) (congrArg (World.drewN _) (Nat.add_assoc _ _ _))⟩))); try go_wp2_with (first | (go_at_call 24; (with_reducible refine (spec_TwinPoints.calls k _ _ l0 _ _ l1 t412 true _ ?side1 ?side2 ?side3 ?side4 A3.out).mono ?_); (case side1 => exact ss_ HR0); (case side2 => exact HC0.out); (case side3 => exact ss_ HR1); (case side4 => exact HC1.out); rintro e w9 ⟨v414, rfl, ho0, hb⟩; have n0_ := Aside0.mk (Kd.R_lower ho0 (below_size (bb_ HB))); have n1_ := Aside0.mk (below_step (bb_ HB) hb); clear HB; have HO415 := n0_; have HB := n1_; clear n0_ n1_; (try clear hb); (try clear hb2); (try clear hk); (try clear hi); (try clear ho0); obtain ⟨Ao10, co10, eo10⟩ := Kd.R_slice HO415.out; subst eo10; have p416 : 0 ≤ (0 : Int) := (by omega); have q416 : 0 < (t412.length : Int) := dd_; obtain ⟨ad416, e416, hx416_0⟩ := Kd.at_int (Kd.R_reads' HO415.out).2.2 0 p416 q416; cases e416; have qi416 : (0 < t412.length) = True := eq_true (by omega); (try rw [show ((0 : Int)).toNat = 0 from rfl] at hx416_0); (try rw [Addr.add_zero'] at hx416_0); replace p416 := eq_true p416; replace q416 := eq_true q416; have p417 : 0 ≤ (1 : Int) := (by omega); have q417 : 1 < (t412.length : Int) := dd_; obtain ⟨ad417, e417, hx417_0⟩ := Kd.at_int (Kd.R_reads' HO415.out).2.2 1 p417 q417; obtain rfl : ad416 = ad417 := (by injection e417); (try simp only [show (1 : Int).toNat = 1 from rfl, Nat.reduceMul, Nat.reduceEqDiff, Go.Addr.add, ↓reduceIte] at hx417_0); have qi417 : (1 < t412.length) = True := eq_true (by omega); (try rw [show ((1 : Int)).toNat = 1 from rfl] at hx417_0); replace p417 := eq_true p417; replace q417 := eq_true q417; have p418 : 0 ≤ (2 : Int) := (by omega); have q418 : 2 < (t412.length : Int) := dd_; obtain ⟨ad418, e418, hx418_0⟩ := Kd.at_int (Kd.R_reads' HO415.out).2.2 2 p418 q418; obtain rfl : ad416 = ad418 := (by injection e418); (try simp only [show (2 : Int).toNat = 2 from rfl, Nat.reduceMul, Nat.reduceEqDiff, Go.Addr.add, ↓reduceIte] at hx418_0); have qi418 : (2 < t412.length) = True := eq_true (by omega); (try rw [show ((2 : Int)).toNat = 2 from rfl] at hx418_0); replace p418 := eq_true p418; replace q418 := eq_true q418) | (go_at_call 71; (with_reducible refine (spec_l4Row.calls k _ _ l0 (rd t412 0) (rd t412 1) (rd t412 2) t419 _ ?side1 ?side2 A8.out).mono ?_); (case side1 => exact sb_ HR0 HB); (case side2 => exact HC0.out); rintro e w' ⟨rfl, ⟨nd, rfl⟩⟩; (try first | exact ⟨rfl, _, World.drewN_drewN _ _ _⟩ | exact ⟨rfl, _, Eq.trans (World.drewN_drewN _ _ _) (congrArg (World.drewN _) (Nat.add_assoc _ _ _))⟩))))
     go_ret
     exact ⟨ee_, bb_ HB⟩
    ·rw [if_neg c7] at H
     exact absurd H (by simp)
   ·rw [if_neg c6] at H
    exact absurd H (by simp)
  ·rw [if_neg c5] at H
   exact absurd H (by simp)
 ·replace c4 := Bool.eq_false_iff.mpr c4
  subst c4
  have H1 : (some false) = some r := by rw [if_neg (show ¬ (false = true) by decide)] at H; exact H
  clear H
  have H := H1
  clear H1
  obtain rfl := Option.some.inj H
  go_enter Try.func22, Try.ntmps22
  go_wp2_with (first | (go_at_call 24; (with_reducible refine (spec_TwinPoints.calls k _ _ l0 _ _ l1 t412 false _ ?side1 ?side2 ?side3 ?side4 A3.out).mono ?_); (case side1 => exact ss_ HR0); (case side2 => exact HC0.out); (case side3 => exact ss_ HR1); (case side4 => exact HC1.out); rintro e w11 ⟨v414, rfl, ho0, hb⟩; have n0_ := Aside0.mk (Kd.R_lower ho0 (below_size (bb_ HB))); have n1_ := Aside0.mk (below_step (bb_ HB) hb); clear HB; have HO415 := n0_; have HB := n1_; clear n0_ n1_; (try clear hb); (try clear hb2); (try clear hk); (try clear hi); (try clear ho0)))
  repeat (go_quiet (first | (go_at_call 24; (with_reducible refine (spec_TwinPoints.calls k _ _ l0 _ _ l1 t412 false _ ?side1 ?side2 ?side3 ?side4 A3.out).mono ?_); (case side1 => exact ss_ HR0); (case side2 => exact HC0.out); (case side3 => exact ss_ HR1); (case side4 => exact HC1.out); rintro e w11 ⟨v414, rfl, ho0, hb⟩; have n0_ := Aside0.mk (Kd.R_lower ho0 (below_size (bb_ HB))); have n1_ := Aside0.mk (below_step (bb_ HB) hb); clear HB; have HO415 := n0_; have HB := n1_; clear n0_ n1_; (try clear hb); (try clear hb2); (try clear hk); (try clear hi); (try clear ho0))); try go_wp2_with (first | (go_at_call 24; (with_reducible refine (spec_TwinPoints.calls k _ _ l0 _ _ l1 t412 false _ ?side1 ?side2 ?side3 ?side4 A3.out).mono ?_); (case side1 => exact ss_ HR0); (case side2 => exact HC0.out); (case side3 => exact ss_ HR1); (case side4 => exact HC1.out); rintro e w11 ⟨v414, rfl, ho0, hb⟩; have n0_ := Aside0.mk (Kd.R_lower ho0 (below_size (bb_ HB))); have n1_ := Aside0.mk (below_step (bb_ HB) hb); clear HB; have HO415 := n0_; have HB := n1_; clear n0_ n1_; (try clear hb); (try clear hb2); (try clear hk); (try clear hi); (try clear ho0))))
  go_ret
  exact ⟨ee_, bb_ HB⟩
end Go.Proofs.Ytcbkoecanldlpaa.P

namespace Go.Proofs.Ytcbkoecanldlpaa.P
open Go.RowKit Go.Proofs.YtcbkoecanldlpaaW.PrintWords Go.Proofs.YtcbkoecanldlpaaW.PrintLast
set_option linter.unusedVariables false
set_option linter.unusedSimpArgs false

def laws_FnTwinCloses.j0 : Nat → List Int → List Int → Bool → Bool → Bool → Option (Bool)
 | 0, _, _, _, _, _ => none
 | k + 1, x3, x4, x5, x6, x28 => if x28 = true then (some (x5 == x6)) else (if 0 < (x4.length : Int) then (if 4 < (x4.length : Int) then (if 5 < (x4.length : Int) then (if 6 < (x4.length : Int) then (if 1 < (x4.length : Int) then (if 2 < (x4.length : Int) then (if 3 < (x4.length : Int) then ((impl_TwinIn.f k x3 x4).bind fun t438 => (if t438 = true then ((impl_TwinCloses.f k x3 (([rd x4 0, rd x4 4, rd x4 5, rd x4 6, rd x4 1, rd x4 2, rd x4 3] : List Int))).bind fun t439 => (some t439)) else (some false))) else (none)) else (none)) else (none)) else (none)) else (none)) else (none)) else (none))
def laws_FnTwinCloses.f (k : Nat) (l0 : List Int) : Option (Bool) := if (l0.length : Int) > 1048576 then (some true) else ((spec_DrawTwinCloses.f k l0).bind fun bt420 => ((impl_TwinCloses.f k bt420.1 bt420.2).bind fun t426 => ((spec_TwinCloses.f k bt420.1 bt420.2).bind fun t427 => (if (t426 != t427) = true then (laws_FnTwinCloses.j0 k bt420.1 bt420.2 t426 t427 true) else (laws_FnTwinCloses.j0 k bt420.1 bt420.2 t426 t427 (!t426))))))
def laws_FnTwinCloses.T8 : Bool × List (List Nat × List Nat) := (true, [([], []), ([0], [0]), ([1], [1]), ([], []), ([3], [3]), ([4], [4]), ([], []), ([6], [6]), ([7], [7]), ([], []), ([9], [9]), ([10], [10]), ([], []), ([12], [12]), ([13], [13]), ([], []), ([15], [15]), ([16], [16]), ([], []), ([18], [18]), ([19], [19]), ([2, 5, 8, 11, 14, 17, 20], [2, 5, 8, 11, 14, 17, 20]), ([21, 0, 1, 2, 3, 4, 5, 6, 7, 8, 9, 10, 11, 12, 13, 14, 15, 16, 17, 18, 19, 20, 21], [21])])
def laws_FnTwinCloses.B8 : List Nat := [0, 1, 3, 0, 8, 24, 0, 64, 192, 0, 512, 1536, 0, 4096, 12288, 0, 32768, 98304, 0, 262144, 786432, 2097151, 4194303]
theorem laws_FnTwinCloses.tab8 : rtab .any (opsOf Try.f5 8) = laws_FnTwinCloses.T8 := by kernel_rfl
theorem laws_FnTwinCloses.bits8 : waitsOk laws_FnTwinCloses.T8.2 laws_FnTwinCloses.B8 = true := by kernel_rfl
set_option maxHeartbeats 8000000 in
set_option maxRecDepth 100000 in
theorem laws_FnTwinCloses.calls (k : Nat) (A0 : Option Addr) (c0 : Nat) (l0 : List Int) (r : Bool) (w : World) (hr0 : Kd.C (Kd.int .u8) w A0 l0.length l0) (hc0 : l0.length ≤ c0) (h : laws_FnTwinCloses.f k l0 = some r) :
  Calls Try.prog 5 #[.slice A0 l0.length c0] w fun e w' => e = .returned (.bool r) ∧ Below w.heap.size w w' := by
 have HR0 := Aside0.mk hr0
 have HC0 := Aside0.mk hc0
 clear hr0 hc0
 have HB := Aside0.mk (Below.refl w.heap.size w)
 have H : (if (l0.length : Int) > 1048576 then (some true) else ((spec_DrawTwinCloses.f k l0).bind fun bt420 => ((impl_TwinCloses.f k bt420.1 bt420.2).bind fun t426 => ((spec_TwinCloses.f k bt420.1 bt420.2).bind fun t427 => (if (t426 != t427) = true then (laws_FnTwinCloses.j0 k bt420.1 bt420.2 t426 t427 true) else (laws_FnTwinCloses.j0 k bt420.1 bt420.2 t426 t427 (!t426))))))) = some r := h
 clear h
 by_cases c2 : (l0.length : Int) > 1048576
 ·rw [if_pos c2] at H
  have c2b0 : decide (1048576 < (l0.length : Int)) = true := decide_eq_true c2
  have c2b1 : decide (1048576 < l0.length) = true := decide_eq_true (by omega)
  clear c2
  obtain rfl := Option.some.inj H
  go_enter Try.func5, Try.ntmps5
  go_wp2
  go_ret
  exact ⟨ee_, bb_ HB⟩
 ·rw [if_neg c2] at H
  have c2b0 : decide (1048576 < (l0.length : Int)) = false := decide_eq_false c2
  have c2b1 : decide (1048576 < l0.length) = false := decide_eq_false (by omega)
  clear c2
  replace H := Option.bind_eq_some_iff.mp H
  obtain ⟨⟨t420, t421⟩, A30, H⟩ := H
  replace H : ((impl_TwinCloses.f k t420 t421).bind fun t426 => ((spec_TwinCloses.f k t420 t421).bind fun t427 => (if (t426 != t427) = true then (laws_FnTwinCloses.j0 k t420 t421 t426 t427 true) else (laws_FnTwinCloses.j0 k t420 t421 t426 t427 (!t426))))) = some r := H
  have A3 := Aside0.mk A30
  clear A30
  replace H := Option.bind_eq_some_iff.mp H
  obtain ⟨t426, A40, H⟩ := H
  replace H : ((spec_TwinCloses.f k t420 t421).bind fun t427 => (if (t426 != t427) = true then (laws_FnTwinCloses.j0 k t420 t421 t426 t427 true) else (laws_FnTwinCloses.j0 k t420 t421 t426 t427 (!t426)))) = some r := H
  have A4 := Aside0.mk A40
  clear A40
  replace H := Option.bind_eq_some_iff.mp H
  obtain ⟨t427, A50, H⟩ := H
  replace H : (if (t426 != t427) = true then (laws_FnTwinCloses.j0 k t420 t421 t426 t427 true) else (laws_FnTwinCloses.j0 k t420 t421 t426 t427 (!t426))) = some r := H
  have A5 := Aside0.mk A50
  clear A50
  have HC6 := Aside0.mk H
  clear H
  go_enter Try.func5, Try.ntmps5
  go_upto_region 6 with (first | (refine goesL_ (some 13) rfl rfl Try.func21 (by kernel_rfl) rfl #[.slice A0 l0.length c0] rfl ll_ ?_; (with_reducible refine (spec_DrawTwinCloses.calls k _ _ l0 t420 t421 _ ?side1 ?side2 A3.out).mono ?_); (case side1 => exact ss_ HR0); (case side2 => exact HC0.out); rintro e w7 ⟨v422, v424, rfl, ho0, ho1, hb⟩; refine ⟨_, rfl, ?_⟩; have n0_ := Aside0.mk (Kd.R_lower ho0 (below_size (bb_ HB))); have n1_ := Aside0.mk (Kd.R_lower ho1 (below_size (bb_ HB))); have n2_ := Aside0.mk (below_step (bb_ HB) hb); clear HB; have HO423 := n0_; have HO425 := n1_; have HB := n2_; clear n0_ n1_ n2_; (try clear hb); (try clear hb2); (try clear hk); (try clear hi); (try clear ho0); (try clear ho1); obtain ⟨Ao8, co8, eo8⟩ := Kd.R_slice HO423.out; subst eo8; obtain ⟨Ao9, co9, eo9⟩ := Kd.R_slice HO425.out; subst eo9) | (refine goesL_ (some 18) rfl rfl Try.func19 (by kernel_rfl) rfl #[.slice Ao8 t420.length co8, .slice Ao9 t421.length co9] rfl ll_ ?_; (with_reducible refine (impl_TwinCloses.calls k _ _ t420 _ _ t421 t426 _ ?side1 ?side2 ?side3 ?side4 A4.out).mono ?_); (case side1 => exact cc_ HO423); (case side2 => exact (Kd.R_reads' HO423.out).2.1); (case side3 => exact cc_ HO425); (case side4 => exact (Kd.R_reads' HO425.out).2.1); rintro e w10 ⟨rfl, hb⟩; refine ⟨_, rfl, ?_⟩; have n0_ := Aside0.mk (Kd.R_below (rr_ HO423) hb); have n1_ := Aside0.mk (Kd.R_below (rr_ HO425) hb); have n2_ := Aside0.mk (below_step (bb_ HB) hb); clear HO423; clear HO425; clear HB; have HO423 := n0_; have HO425 := n1_; have HB := n2_; clear n0_ n1_ n2_; (try clear hb); (try clear hb2); (try clear hk); (try clear hi)) | (refine goesL_ (some 21) rfl rfl Try.func22 (by kernel_rfl) rfl #[.slice Ao8 t420.length co8, .slice Ao9 t421.length co9] rfl ll_ ?_; (with_reducible refine (spec_TwinCloses.calls k _ _ t420 _ _ t421 t427 _ ?side1 ?side2 ?side3 ?side4 A5.out).mono ?_); (case side1 => exact cc_ HO423); (case side2 => exact (Kd.R_reads' HO423.out).2.1); (case side3 => exact cc_ HO425); (case side4 => exact (Kd.R_reads' HO425.out).2.1); rintro e w11 ⟨rfl, hb⟩; refine ⟨_, rfl, ?_⟩; have n0_ := Aside0.mk (Kd.R_below (rr_ HO423) hb); have n1_ := Aside0.mk (Kd.R_below (rr_ HO425) hb); have n2_ := Aside0.mk (below_step (bb_ HB) hb); clear HO423; clear HO425; clear HB; have HO423 := n0_; have HO425 := n1_; have HB := n2_; clear n0_ n1_ n2_; (try clear hb); (try clear hb2); (try clear hk); (try clear hi)))
  (try simp only [Act.put, List.setIfInBounds_toArray, List.set_cons_zero, List.set_cons_succ])
  go_cut [28] (fun v28 wc => ∃ (kq : Nat) (x28_5 : Bool), v28 = .bool x28_5 ∧ Aside0 (laws_FnTwinCloses.j0 kq t420 t421 t426 t427 x28_5 = some r) ∧ Aside0 (kq ≤ k) ∧ Aside0 (Kd.R (Kd.int .i64) 3 wc w.heap.size (fun k_ => some k_ ≠ ((.slice Ao9 t421.length co9) : Value).ownBlock) (.slice Ao8 t420.length co8) t420) ∧ Aside0 (Kd.R (Kd.int .i64) 3 wc w.heap.size (fun k_ => some k_ ≠ ((.slice Ao8 t420.length co8) : Value).ownBlock) (.slice Ao9 t421.length co9) t421) ∧ Aside0 (Below w.heap.size w wc))
  case first =>
   have H := HC6.out
   clear HC6
   by_cases c12 : (t426 != t427) = true
   ·rw [if_pos c12] at H
    have c12b0 : (t426 != t427) = true := c12
    (try (have c12b1 : decide (t426 = t427) = false := by simpa using c12))
    (try (have c12b2 : (t426 == t427) = false := by simpa using c12))
    (try (have c12b3 : ¬ (t426 = t427) := by simpa using c12))
    clear c12
    (first | rw [c12b0] | (simp only [i64_w, i32_w]; rw [c12b0]) | skip)
    have H' := Aside0.mk H
    clear H
    go_wp2
    go_meet
    case rel => exact ⟨_, (true), (by first | rfl | (simp; done) | (simp [*]; done)), H', ⟨by first | omega | exact Nat.le_refl _⟩, ⟨rr_ HO423⟩, ⟨rr_ HO425⟩, ⟨by repeat (first | (with_reducible first | exact HB.out | apply below_alloc | apply pw_below_drewN | apply below_drew1) | exact HB.out)⟩⟩
   ·rw [if_neg c12] at H
    have c12b0 : (t426 != t427) = false := by simpa using c12
    (try (have c12b1 : decide (t426 = t427) = true := by simpa using c12))
    (try (have c12b2 : (t426 == t427) = true := by simpa using c12))
    clear c12
    (first | rw [c12b0] | (simp only [i64_w, i32_w]; rw [c12b0]) | skip)
    have H' := Aside0.mk H
    clear H
    go_wp2
    go_meet
    case rel => exact ⟨_, (!t426), (by first | rfl | (simp; done) | (simp [*]; done)), H', ⟨by first | omega | exact Nat.le_refl _⟩, ⟨rr_ HO423⟩, ⟨rr_ HO425⟩, ⟨by repeat (first | (with_reducible first | exact HB.out | apply below_alloc | apply pw_below_drewN | apply below_drew1) | exact HB.out)⟩⟩
  case rest =>
   clear HC6
   try clear c1
   try clear c2
   try clear c2b0
   try clear c2b1
   try clear p2
   try clear c5
   try clear c12
   try clear c12b0
   try clear c12b1
   try clear c12b2
   obtain ⟨kq, x28_5, rfl, HA, HJ5, HO_3, HO_4, HB⟩ := hcut
   cases kq with
   | zero => exact absurd HA.out (by simp [laws_FnTwinCloses.j0])
   | succ kj5 =>
    have H := HA.out
    clear HA
    simp only [laws_FnTwinCloses.j0] at H
    by_cases c13 : x28_5 = true
    ·subst c13
     have H1 : (some (t426 == t427)) = some r := by rw [if_pos rfl] at H; exact H
     clear H
     have H := H1
     clear H1
     obtain rfl := Option.some.inj H
     go_wp2
     go_ret
     exact ⟨ee_, bb_ HB⟩
    ·replace c13 := Bool.eq_false_iff.mpr c13
     subst c13
     have H1 : (if 0 < (t421.length : Int) then (if 4 < (t421.length : Int) then (if 5 < (t421.length : Int) then (if 6 < (t421.length : Int) then (if 1 < (t421.length : Int) then (if 2 < (t421.length : Int) then (if 3 < (t421.length : Int) then ((impl_TwinIn.f kj5 t420 t421).bind fun t438 => (if t438 = true then ((impl_TwinCloses.f kj5 t420 (([rd t421 0, rd t421 4, rd t421 5, rd t421 6, rd t421 1, rd t421 2, rd t421 3] : List Int))).bind fun t439 => (some t439)) else (some false))) else (none)) else (none)) else (none)) else (none)) else (none)) else (none)) else (none)) = some r := by rw [if_neg (show ¬ (false = true) by decide)] at H; exact H
     clear H
     have H := H1
     clear H1
     by_cases c14 : 0 < (t421.length : Int)
     ·rw [if_pos c14] at H
      have c14b0 : decide (0 < (t421.length : Int)) = true := decide_eq_true c14
      have c14b1 : decide (0 < t421.length) = true := decide_eq_true (by omega)
      clear c14
      by_cases c15 : 4 < (t421.length : Int)
      ·rw [if_pos c15] at H
       have c15b0 : decide (4 < (t421.length : Int)) = true := decide_eq_true c15
       have c15b1 : decide (4 < t421.length) = true := decide_eq_true (by omega)
       clear c15
       by_cases c16 : 5 < (t421.length : Int)
       ·rw [if_pos c16] at H
        have c16b0 : decide (5 < (t421.length : Int)) = true := decide_eq_true c16
        have c16b1 : decide (5 < t421.length) = true := decide_eq_true (by omega)
        clear c16
        by_cases c17 : 6 < (t421.length : Int)
        ·rw [if_pos c17] at H
         have c17b0 : decide (6 < (t421.length : Int)) = true := decide_eq_true c17
         have c17b1 : decide (6 < t421.length) = true := decide_eq_true (by omega)
         clear c17
         by_cases c18 : 1 < (t421.length : Int)
         ·rw [if_pos c18] at H
          have c18b0 : decide (1 < (t421.length : Int)) = true := decide_eq_true c18
          have c18b1 : decide (1 < t421.length) = true := decide_eq_true (by omega)
          clear c18
          by_cases c19 : 2 < (t421.length : Int)
          ·rw [if_pos c19] at H
           have c19b0 : decide (2 < (t421.length : Int)) = true := decide_eq_true c19
           have c19b1 : decide (2 < t421.length) = true := decide_eq_true (by omega)
           clear c19
           by_cases c20 : 3 < (t421.length : Int)
           ·rw [if_pos c20] at H
            have c20b0 : decide (3 < (t421.length : Int)) = true := decide_eq_true c20
            have c20b1 : decide (3 < t421.length) = true := decide_eq_true (by omega)
            clear c20
            obtain ⟨y435, hy435⟩ : ∃ y_ : List Int, y_ = (([rd t421 0, rd t421 4, rd t421 5, rd t421 6, rd t421 1, rd t421 2, rd t421 3] : List Int)) := ⟨_, rfl⟩
            replace H : ((impl_TwinIn.f kj5 t420 t421).bind fun t438 => (if t438 = true then ((impl_TwinCloses.f kj5 t420 y435).bind fun t439 => (some t439)) else (some false))) = some r := by first | (rw [hy435]; with_reducible exact H) | (have H2_ := (Option.bind_some _ _).symm.trans H; rw [hy435]; with_reducible exact H2_) | (have H2_ := (Option.bind_some _ _).symm.trans H; with_reducible exact H2_) | with_reducible exact H | (rw [hy435]; exact H) | exact H
            have Ny435 := Aside0.mk hy435
            clear hy435
            replace H := Option.bind_eq_some_iff.mp H
            obtain ⟨t438, A210, H⟩ := H
            replace H : (if t438 = true then ((impl_TwinCloses.f kj5 t420 y435).bind fun t439 => (some t439)) else (some false)) = some r := H
            have A21 := Aside0.mk A210
            clear A210
            by_cases c22 : t438 = true
            ·subst c22
             have H1 : ((impl_TwinCloses.f kj5 t420 y435).bind fun t439 => (some t439)) = some r := by rw [if_pos rfl] at H; exact H
             clear H
             have H := H1
             clear H1
             replace H := Option.bind_eq_some_iff.mp H
             obtain ⟨t439, A230, H⟩ := H
             replace H : (some t439) = some r := H
             have A23 := Aside0.mk A230
             clear A230
             obtain rfl := Option.some.inj H
             try go_wp2
             have n0_ := Aside0.mk (Kd.R_drew HO_3.out)
             have n1_ := Aside0.mk (Kd.R_drew HO_4.out)
             have n2_ := Aside0.mk (below_drew1 HB.out)
             clear HO_3
             clear HO_4
             clear HB
             have HO_3 := n0_
             have HO_4 := n1_
             have HB := n2_
             clear n0_ n1_ n2_
             have p428 : 0 ≤ (0 : Int) := (by omega)
             have q428 : 0 < (t421.length : Int) := dd_
             obtain ⟨ad428, e428, hx428_0⟩ := Kd.at_int (Kd.R_reads' HO_4.out).2.2 0 p428 q428
             cases e428
             have qi428 : (0 < t421.length) = True := eq_true (by omega)
             (try rw [show ((0 : Int)).toNat = 0 from rfl] at hx428_0)
             (try rw [Addr.add_zero'] at hx428_0)
             replace p428 := eq_true p428
             replace q428 := eq_true q428
             have p429 : 0 ≤ (4 : Int) := (by omega)
             have q429 : 4 < (t421.length : Int) := dd_
             obtain ⟨ad429, e429, hx429_0⟩ := Kd.at_int (Kd.R_reads' HO_4.out).2.2 4 p429 q429
             obtain rfl : ad428 = ad429 := (by injection e429)
             (try simp only [show (4 : Int).toNat = 4 from rfl, Nat.reduceMul, Nat.reduceEqDiff, Go.Addr.add, ↓reduceIte] at hx429_0)
             have qi429 : (4 < t421.length) = True := eq_true (by omega)
             (try rw [show ((4 : Int)).toNat = 4 from rfl] at hx429_0)
             replace p429 := eq_true p429
             replace q429 := eq_true q429
             have p430 : 0 ≤ (5 : Int) := (by omega)
             have q430 : 5 < (t421.length : Int) := dd_
             obtain ⟨ad430, e430, hx430_0⟩ := Kd.at_int (Kd.R_reads' HO_4.out).2.2 5 p430 q430
             obtain rfl : ad428 = ad430 := (by injection e430)
             (try simp only [show (5 : Int).toNat = 5 from rfl, Nat.reduceMul, Nat.reduceEqDiff, Go.Addr.add, ↓reduceIte] at hx430_0)
             have qi430 : (5 < t421.length) = True := eq_true (by omega)
             (try rw [show ((5 : Int)).toNat = 5 from rfl] at hx430_0)
             replace p430 := eq_true p430
             replace q430 := eq_true q430
             have p431 : 0 ≤ (6 : Int) := (by omega)
             have q431 : 6 < (t421.length : Int) := dd_
             obtain ⟨ad431, e431, hx431_0⟩ := Kd.at_int (Kd.R_reads' HO_4.out).2.2 6 p431 q431
             obtain rfl : ad428 = ad431 := (by injection e431)
             (try simp only [show (6 : Int).toNat = 6 from rfl, Nat.reduceMul, Nat.reduceEqDiff, Go.Addr.add, ↓reduceIte] at hx431_0)
             have qi431 : (6 < t421.length) = True := eq_true (by omega)
             (try rw [show ((6 : Int)).toNat = 6 from rfl] at hx431_0)
             replace p431 := eq_true p431
             replace q431 := eq_true q431
             have p432 : 0 ≤ (1 : Int) := (by omega)
             have q432 : 1 < (t421.length : Int) := dd_
             obtain ⟨ad432, e432, hx432_0⟩ := Kd.at_int (Kd.R_reads' HO_4.out).2.2 1 p432 q432
             obtain rfl : ad428 = ad432 := (by injection e432)
             (try simp only [show (1 : Int).toNat = 1 from rfl, Nat.reduceMul, Nat.reduceEqDiff, Go.Addr.add, ↓reduceIte] at hx432_0)
             have qi432 : (1 < t421.length) = True := eq_true (by omega)
             (try rw [show ((1 : Int)).toNat = 1 from rfl] at hx432_0)
             replace p432 := eq_true p432
             replace q432 := eq_true q432
             have p433 : 0 ≤ (2 : Int) := (by omega)
             have q433 : 2 < (t421.length : Int) := dd_
             obtain ⟨ad433, e433, hx433_0⟩ := Kd.at_int (Kd.R_reads' HO_4.out).2.2 2 p433 q433
             obtain rfl : ad428 = ad433 := (by injection e433)
             (try simp only [show (2 : Int).toNat = 2 from rfl, Nat.reduceMul, Nat.reduceEqDiff, Go.Addr.add, ↓reduceIte] at hx433_0)
             have qi433 : (2 < t421.length) = True := eq_true (by omega)
             (try rw [show ((2 : Int)).toNat = 2 from rfl] at hx433_0)
             replace p433 := eq_true p433
             replace q433 := eq_true q433
             have p434 : 0 ≤ (3 : Int) := (by omega)
             have q434 : 3 < (t421.length : Int) := dd_
             obtain ⟨ad434, e434, hx434_0⟩ := Kd.at_int (Kd.R_reads' HO_4.out).2.2 3 p434 q434
             obtain rfl : ad428 = ad434 := (by injection e434)
             (try simp only [show (3 : Int).toNat = 3 from rfl, Nat.reduceMul, Nat.reduceEqDiff, Go.Addr.add, ↓reduceIte] at hx434_0)
             have qi434 : (3 < t421.length) = True := eq_true (by omega)
             (try rw [show ((3 : Int)).toNat = 3 from rfl] at hx434_0)
             replace p434 := eq_true p434
             replace q434 := eq_true q434
             refine start_ (n := 23) (S := fun w' => w'.cell? ad428 = some (.int .i64 (rd t421 0)) ∧ w'.cell? ⟨ad428.block, ad428.off + 4, none⟩ = some (.int .i64 (rd t421 4)) ∧ w'.cell? ⟨ad428.block, ad428.off + 5, none⟩ = some (.int .i64 (rd t421 5)) ∧ w'.cell? ⟨ad428.block, ad428.off + 6, none⟩ = some (.int .i64 (rd t421 6)) ∧ w'.cell? ⟨ad428.block, ad428.off + 1, none⟩ = some (.int .i64 (rd t421 1)) ∧ w'.cell? ⟨ad428.block, ad428.off + 2, none⟩ = some (.int .i64 (rd t421 2)) ∧ w'.cell? ⟨ad428.block, ad428.off + 3, none⟩ = some (.int .i64 (rd t421 3))) (ds := []) #[F_,F_,F_,F_,F_,F_,F_,F_,F_,F_,F_,F_,F_,F_,F_,F_,F_,F_,F_,F_,F_,F_,F_] (by kernel_rfl) rfl rfl ⟨hx428_0, hx429_0, hx430_0, hx431_0, hx432_0, hx433_0, hx434_0⟩ (fun hHeld => ?_); refine with_tabW laws_FnTwinCloses.tab8 laws_FnTwinCloses.bits8 (fun HT_ HW_ => ?_)
             generalize wc.drew = w24 at HO_3 HO_4 HB hx428_0 hx429_0 hx430_0 hx431_0 hx432_0 hx433_0 hx434_0 hHeld ⊢
             refine p_ 0 32 (m_ 23 1) HT_.out ?_
             refine p_ 1 33 (m_ 23 3) HT_.out ?_
             refine p_ 3 35 (m_ 23 11) HT_.out ?_
             refine p_ 4 36 (m_ 23 27) HT_.out ?_
             refine p_ 6 38 (m_ 23 91) HT_.out ?_
             refine p_ 7 39 (m_ 23 219) HT_.out ?_
             refine p_ 9 41 (m_ 23 731) HT_.out ?_
             refine p_ 10 42 (m_ 23 1755) HT_.out ?_
             refine p_ 12 44 (m_ 23 5851) HT_.out ?_
             refine p_ 13 45 (m_ 23 14043) HT_.out ?_
             refine p_ 15 47 (m_ 23 46811) HT_.out ?_
             refine p_ 16 48 (m_ 23 112347) HT_.out ?_
             refine p_ 18 50 (m_ 23 374491) HT_.out ?_
             refine p_ 19 51 (m_ 23 898779) HT_.out ?_
             refine take_ (i := 2) (N := some 34) (v := ?_) (a' := ?_) (m_ 23 898783) rfl rfl (take_ofW HT_.out HW_.out (by kernel_rfl)) (fun _ _ _ h => h) (Or.inl ⟨by rfl, ?_⟩) hHeld ?_ ?_; rotate_left; (rintro w' ⟨s0, s1, s2, s3, s4, s5, s6⟩; go_simp; with_reducible rfl); rotate_left; (simp only [Act.put, List.setIfInBounds_toArray, List.set_cons_zero, List.set_cons_succ, i64_w, i32_w]; rfl)
             refine take_ (i := 5) (N := some 37) (v := ?_) (a' := ?_) (m_ 23 898815) rfl rfl (take_ofW HT_.out HW_.out (by kernel_rfl)) (fun _ _ _ h => h) (Or.inl ⟨by rfl, ?_⟩) hHeld ?_ ?_; rotate_left; (rintro w' ⟨s0, s1, s2, s3, s4, s5, s6⟩; go_simp; with_reducible rfl); rotate_left; (simp only [Act.put, List.setIfInBounds_toArray, List.set_cons_zero, List.set_cons_succ, i64_w, i32_w]; rfl)
             refine take_ (i := 8) (N := some 40) (v := ?_) (a' := ?_) (m_ 23 899071) rfl rfl (take_ofW HT_.out HW_.out (by kernel_rfl)) (fun _ _ _ h => h) (Or.inl ⟨by rfl, ?_⟩) hHeld ?_ ?_; rotate_left; (rintro w' ⟨s0, s1, s2, s3, s4, s5, s6⟩; go_simp; with_reducible rfl); rotate_left; (simp only [Act.put, List.setIfInBounds_toArray, List.set_cons_zero, List.set_cons_succ, i64_w, i32_w]; rfl)
             refine take_ (i := 11) (N := some 43) (v := ?_) (a' := ?_) (m_ 23 901119) rfl rfl (take_ofW HT_.out HW_.out (by kernel_rfl)) (fun _ _ _ h => h) (Or.inl ⟨by rfl, ?_⟩) hHeld ?_ ?_; rotate_left; (rintro w' ⟨s0, s1, s2, s3, s4, s5, s6⟩; go_simp; with_reducible rfl); rotate_left; (simp only [Act.put, List.setIfInBounds_toArray, List.set_cons_zero, List.set_cons_succ, i64_w, i32_w]; rfl)
             refine take_ (i := 14) (N := some 46) (v := ?_) (a' := ?_) (m_ 23 917503) rfl rfl (take_ofW HT_.out HW_.out (by kernel_rfl)) (fun _ _ _ h => h) (Or.inl ⟨by rfl, ?_⟩) hHeld ?_ ?_; rotate_left; (rintro w' ⟨s0, s1, s2, s3, s4, s5, s6⟩; go_simp; with_reducible rfl); rotate_left; (simp only [Act.put, List.setIfInBounds_toArray, List.set_cons_zero, List.set_cons_succ, i64_w, i32_w]; rfl)
             refine take_ (i := 17) (N := some 49) (v := ?_) (a' := ?_) (m_ 23 1048575) rfl rfl (take_ofW HT_.out HW_.out (by kernel_rfl)) (fun _ _ _ h => h) (Or.inl ⟨by rfl, ?_⟩) hHeld ?_ ?_; rotate_left; (rintro w' ⟨s0, s1, s2, s3, s4, s5, s6⟩; go_simp; with_reducible rfl); rotate_left; (simp only [Act.put, List.setIfInBounds_toArray, List.set_cons_zero, List.set_cons_succ, i64_w, i32_w]; rfl)
             refine take_ (i := 20) (N := some 52) (v := ?_) (a' := ?_) (m_ 23 2097151) rfl rfl (take_ofW HT_.out HW_.out (by kernel_rfl)) (fun _ _ _ h => h) (Or.inl ⟨by rfl, ?_⟩) hHeld ?_ ?_; rotate_left; (rintro w' ⟨s0, s1, s2, s3, s4, s5, s6⟩; go_simp; with_reducible rfl); rotate_left; (simp only [Act.put, List.setIfInBounds_toArray, List.set_cons_zero, List.set_cons_succ, i64_w, i32_w]; rfl)
             refine one_ (i := 21) (N := some 53) (m_ 23 4194303) rfl rfl (one_of HT_.out (by kernel_rfl)) (by decide) (fun K hK => ?_)
             refine Kd.R_lit_step (Kd.int .i64) _ 3 ?hg (N := 53) ?hd (xs := ([rd t421 0, rd t421 4, rd t421 5, rd t421 6, rd t421 1, rd t421 2, rd t421 3] : List Int)) (inner := [.int .i64 (rd t421 0), .int .i64 (rd t421 4), .int .i64 (rd t421 5), .int .i64 (rd t421 6), .int .i64 (rd t421 1), .int .i64 (rd t421 2), .int .i64 (rd t421 3)]) (ok := fun _ => True) (okp := fun _ => True) ?hr ?hp (fun _ hk => hk) trivial (Below.refl _ _) (Nat.le_refl _) (by simp) ?_; (case hd => rfl); (case hg => rfl); (case hr => first | (go_simp; done) | (go_simp; rfl)); (case hp => exact (Reps.one (show Kd.M (Kd.int .i64) _ _ _ (rd t421 0) [.int .i64 (rd t421 0)] from rfl) (Reps.one (show Kd.M (Kd.int .i64) _ _ _ (rd t421 4) [.int .i64 (rd t421 4)] from rfl) (Reps.one (show Kd.M (Kd.int .i64) _ _ _ (rd t421 5) [.int .i64 (rd t421 5)] from rfl) (Reps.one (show Kd.M (Kd.int .i64) _ _ _ (rd t421 6) [.int .i64 (rd t421 6)] from rfl) (Reps.one (show Kd.M (Kd.int .i64) _ _ _ (rd t421 1) [.int .i64 (rd t421 1)] from rfl) (Reps.one (show Kd.M (Kd.int .i64) _ _ _ (rd t421 2) [.int .i64 (rd t421 2)] from rfl) (Reps.one (show Kd.M (Kd.int .i64) _ _ _ (rd t421 3) [.int .i64 (rd t421 3)] from rfl) (Reps.none _ _)))))))))
             intro v436 w25 ho26 hb hg_ hnew_
             have HS0_ := (hb.cell (World.block_lt_of_cell? _ _ (hHeld.1))).trans (hHeld.1)
             have HS1_ := (hb.cell (World.block_lt_of_cell? _ _ (hHeld.2.1))).trans (hHeld.2.1)
             have HS2_ := (hb.cell (World.block_lt_of_cell? _ _ (hHeld.2.2.1))).trans (hHeld.2.2.1)
             have HS3_ := (hb.cell (World.block_lt_of_cell? _ _ (hHeld.2.2.2.1))).trans (hHeld.2.2.2.1)
             have HS4_ := (hb.cell (World.block_lt_of_cell? _ _ (hHeld.2.2.2.2.1))).trans (hHeld.2.2.2.2.1)
             have HS5_ := (hb.cell (World.block_lt_of_cell? _ _ (hHeld.2.2.2.2.2.1))).trans (hHeld.2.2.2.2.2.1)
             have HS6_ := (hb.cell (World.block_lt_of_cell? _ _ (hHeld.2.2.2.2.2.2))).trans (hHeld.2.2.2.2.2.2)
             clear hg_ hnew_
             (first | rw [← Ny435.out] at ho26 | (simp only [Int.reduceToNat] at ho26; rw [← Ny435.out] at ho26))
             have n0_ := Aside0.mk (Kd.R_elder' (rr_ HO_3) (Kd.R_base ho26) hb)
             have n1_ := Aside0.mk (Kd.R_elder' (rr_ HO_4) (Kd.R_base ho26) hb)
             have n2_ := Aside0.mk (Kd.R_lower (Kd.R_new' (Kd.R_new' ho26 (Kd.R_lt (rr_ HO_3))) (Kd.R_lt (rr_ HO_4))) (below_size (bb_ HB)))
             have n3_ := Aside0.mk (below_step (bb_ HB) hb)
             clear HO_3
             clear HO_4
             clear HB
             have HO_3 := n0_
             have HO_4 := n1_
             have HO437 := n2_
             have HB := n3_
             clear n0_ n1_ n2_ n3_
             clear hb ho26
             refine hK.out _ _ ⟨HS0_, HS1_, HS2_, HS3_, HS4_, HS5_, HS6_⟩ (fun hHeld => ?_)
             clear hK K
             refine norm_ (a' := ?_) ?_ ?_; rotate_left; (show Act.put _ (some 53) _ = _; simp only [Act.put, List.setIfInBounds_toArray, List.set_cons_zero, List.set_cons_succ, i64_w, i32_w]; rfl)
             refine p_ 22 7 (m_ 23 8388607) HT_.out ?_
             refine done_ (done_of HT_.out (by kernel_rfl)) ?_
             try go_wp2_with (first | (refine goesL_ (some 56) rfl rfl Try.func16 (by kernel_rfl) rfl #[.slice Ao8 t420.length co8, .slice (some ad428) t421.length co9] rfl ll_ ?_; (with_reducible refine (impl_TwinIn.calls kj5 _ _ t420 _ _ t421 true _ ?side1 ?side2 ?side3 ?side4 A21.out).mono ?_); (case side1 => exact cc_ HO_3); (case side2 => exact (Kd.R_reads' HO_3.out).2.1); (case side3 => exact cc_ HO_4); (case side4 => exact (Kd.R_reads' HO_4.out).2.1); rintro e w27 ⟨rfl, hb⟩; refine ⟨_, rfl, ?_⟩; have n0_ := Aside0.mk (Kd.R_below (rr_ HO_3) hb); have n1_ := Aside0.mk (Kd.R_below (rr_ HO_4) hb); have n2_ := Aside0.mk (Kd.R_below (rr_ HO437) hb); have n3_ := Aside0.mk (below_step (bb_ HB) hb); clear HO_3; clear HO_4; clear HO437; clear HB; have HO_3 := n0_; have HO_4 := n1_; have HO437 := n2_; have HB := n3_; clear n0_ n1_ n2_ n3_; (try clear hb); (try clear hb2); (try clear hk); (try clear hi); obtain ⟨Ao28, co28, eo28⟩ := Kd.R_slice HO437.out; subst eo28) | (go_at_call 19; (with_reducible refine (impl_TwinCloses.calls kj5 _ _ t420 _ _ y435 t439 _ ?side1 ?side2 ?side3 ?side4 A23.out).mono ?_); (case side1 => exact cc_ HO_3); (case side2 => exact (Kd.R_reads' HO_3.out).2.1); (case side3 => exact cc_ HO437); (case side4 => exact (Kd.R_reads' HO437.out).2.1); rintro e w29 ⟨rfl, hb⟩; have n0_ := Aside0.mk (Kd.R_below (rr_ HO_3) hb); have n1_ := Aside0.mk (Kd.R_below (rr_ HO_4) hb); have n2_ := Aside0.mk (Kd.R_below (rr_ HO437) hb); have n3_ := Aside0.mk (below_step (bb_ HB) hb); clear HO_3; clear HO_4; clear HO437; clear HB; have HO_3 := n0_; have HO_4 := n1_; have HO437 := n2_; have HB := n3_; clear n0_ n1_ n2_ n3_; (try clear hb); (try clear hb2); (try clear hk); (try clear hi)))
             go_ret
             exact ⟨ee_, bb_ HB⟩
            ·replace c22 := Bool.eq_false_iff.mpr c22
             subst c22
             have H1 : (some false) = some r := by rw [if_neg (show ¬ (false = true) by decide)] at H; exact H
             clear H
             have H := H1
             clear H1
             obtain rfl := Option.some.inj H
             try go_wp2
             have n0_ := Aside0.mk (Kd.R_drew HO_3.out)
             have n1_ := Aside0.mk (Kd.R_drew HO_4.out)
             have n2_ := Aside0.mk (below_drew1 HB.out)
             clear HO_3
             clear HO_4
             clear HB
             have HO_3 := n0_
             have HO_4 := n1_
             have HB := n2_
             clear n0_ n1_ n2_
             have p428 : 0 ≤ (0 : Int) := (by omega)
             have q428 : 0 < (t421.length : Int) := dd_
             obtain ⟨ad428, e428, hx428_0⟩ := Kd.at_int (Kd.R_reads' HO_4.out).2.2 0 p428 q428
             cases e428
             have qi428 : (0 < t421.length) = True := eq_true (by omega)
             (try rw [show ((0 : Int)).toNat = 0 from rfl] at hx428_0)
             (try rw [Addr.add_zero'] at hx428_0)
             replace p428 := eq_true p428
             replace q428 := eq_true q428
             have p429 : 0 ≤ (4 : Int) := (by omega)
             have q429 : 4 < (t421.length : Int) := dd_
             obtain ⟨ad429, e429, hx429_0⟩ := Kd.at_int (Kd.R_reads' HO_4.out).2.2 4 p429 q429
             obtain rfl : ad428 = ad429 := (by injection e429)
             (try simp only [show (4 : Int).toNat = 4 from rfl, Nat.reduceMul, Nat.reduceEqDiff, Go.Addr.add, ↓reduceIte] at hx429_0)
             have qi429 : (4 < t421.length) = True := eq_true (by omega)
             (try rw [show ((4 : Int)).toNat = 4 from rfl] at hx429_0)
             replace p429 := eq_true p429
             replace q429 := eq_true q429
             have p430 : 0 ≤ (5 : Int) := (by omega)
             have q430 : 5 < (t421.length : Int) := dd_
             obtain ⟨ad430, e430, hx430_0⟩ := Kd.at_int (Kd.R_reads' HO_4.out).2.2 5 p430 q430
             obtain rfl : ad428 = ad430 := (by injection e430)
             (try simp only [show (5 : Int).toNat = 5 from rfl, Nat.reduceMul, Nat.reduceEqDiff, Go.Addr.add, ↓reduceIte] at hx430_0)
             have qi430 : (5 < t421.length) = True := eq_true (by omega)
             (try rw [show ((5 : Int)).toNat = 5 from rfl] at hx430_0)
             replace p430 := eq_true p430
             replace q430 := eq_true q430
             have p431 : 0 ≤ (6 : Int) := (by omega)
             have q431 : 6 < (t421.length : Int) := dd_
             obtain ⟨ad431, e431, hx431_0⟩ := Kd.at_int (Kd.R_reads' HO_4.out).2.2 6 p431 q431
             obtain rfl : ad428 = ad431 := (by injection e431)
             (try simp only [show (6 : Int).toNat = 6 from rfl, Nat.reduceMul, Nat.reduceEqDiff, Go.Addr.add, ↓reduceIte] at hx431_0)
             have qi431 : (6 < t421.length) = True := eq_true (by omega)
             (try rw [show ((6 : Int)).toNat = 6 from rfl] at hx431_0)
             replace p431 := eq_true p431
             replace q431 := eq_true q431
             have p432 : 0 ≤ (1 : Int) := (by omega)
             have q432 : 1 < (t421.length : Int) := dd_
             obtain ⟨ad432, e432, hx432_0⟩ := Kd.at_int (Kd.R_reads' HO_4.out).2.2 1 p432 q432
             obtain rfl : ad428 = ad432 := (by injection e432)
             (try simp only [show (1 : Int).toNat = 1 from rfl, Nat.reduceMul, Nat.reduceEqDiff, Go.Addr.add, ↓reduceIte] at hx432_0)
             have qi432 : (1 < t421.length) = True := eq_true (by omega)
             (try rw [show ((1 : Int)).toNat = 1 from rfl] at hx432_0)
             replace p432 := eq_true p432
             replace q432 := eq_true q432
             have p433 : 0 ≤ (2 : Int) := (by omega)
             have q433 : 2 < (t421.length : Int) := dd_
             obtain ⟨ad433, e433, hx433_0⟩ := Kd.at_int (Kd.R_reads' HO_4.out).2.2 2 p433 q433
             obtain rfl : ad428 = ad433 := (by injection e433)
             (try simp only [show (2 : Int).toNat = 2 from rfl, Nat.reduceMul, Nat.reduceEqDiff, Go.Addr.add, ↓reduceIte] at hx433_0)
             have qi433 : (2 < t421.length) = True := eq_true (by omega)
             (try rw [show ((2 : Int)).toNat = 2 from rfl] at hx433_0)
             replace p433 := eq_true p433
             replace q433 := eq_true q433
             have p434 : 0 ≤ (3 : Int) := (by omega)
             have q434 : 3 < (t421.length : Int) := dd_
             obtain ⟨ad434, e434, hx434_0⟩ := Kd.at_int (Kd.R_reads' HO_4.out).2.2 3 p434 q434
             obtain rfl : ad428 = ad434 := (by injection e434)
             (try simp only [show (3 : Int).toNat = 3 from rfl, Nat.reduceMul, Nat.reduceEqDiff, Go.Addr.add, ↓reduceIte] at hx434_0)
             have qi434 : (3 < t421.length) = True := eq_true (by omega)
             (try rw [show ((3 : Int)).toNat = 3 from rfl] at hx434_0)
             replace p434 := eq_true p434
             replace q434 := eq_true q434
             refine start_ (n := 23) (S := fun w' => w'.cell? ad428 = some (.int .i64 (rd t421 0)) ∧ w'.cell? ⟨ad428.block, ad428.off + 4, none⟩ = some (.int .i64 (rd t421 4)) ∧ w'.cell? ⟨ad428.block, ad428.off + 5, none⟩ = some (.int .i64 (rd t421 5)) ∧ w'.cell? ⟨ad428.block, ad428.off + 6, none⟩ = some (.int .i64 (rd t421 6)) ∧ w'.cell? ⟨ad428.block, ad428.off + 1, none⟩ = some (.int .i64 (rd t421 1)) ∧ w'.cell? ⟨ad428.block, ad428.off + 2, none⟩ = some (.int .i64 (rd t421 2)) ∧ w'.cell? ⟨ad428.block, ad428.off + 3, none⟩ = some (.int .i64 (rd t421 3))) (ds := []) #[F_,F_,F_,F_,F_,F_,F_,F_,F_,F_,F_,F_,F_,F_,F_,F_,F_,F_,F_,F_,F_,F_,F_] (by kernel_rfl) rfl rfl ⟨hx428_0, hx429_0, hx430_0, hx431_0, hx432_0, hx433_0, hx434_0⟩ (fun hHeld => ?_); refine with_tabW laws_FnTwinCloses.tab8 laws_FnTwinCloses.bits8 (fun HT_ HW_ => ?_)
             generalize wc.drew = w30 at HO_3 HO_4 HB hx428_0 hx429_0 hx430_0 hx431_0 hx432_0 hx433_0 hx434_0 hHeld ⊢
             refine p_ 0 32 (m_ 23 1) HT_.out ?_
             refine p_ 1 33 (m_ 23 3) HT_.out ?_
             refine p_ 3 35 (m_ 23 11) HT_.out ?_
             refine p_ 4 36 (m_ 23 27) HT_.out ?_
             refine p_ 6 38 (m_ 23 91) HT_.out ?_
             refine p_ 7 39 (m_ 23 219) HT_.out ?_
             refine p_ 9 41 (m_ 23 731) HT_.out ?_
             refine p_ 10 42 (m_ 23 1755) HT_.out ?_
             refine p_ 12 44 (m_ 23 5851) HT_.out ?_
             refine p_ 13 45 (m_ 23 14043) HT_.out ?_
             refine p_ 15 47 (m_ 23 46811) HT_.out ?_
             refine p_ 16 48 (m_ 23 112347) HT_.out ?_
             refine p_ 18 50 (m_ 23 374491) HT_.out ?_
             refine p_ 19 51 (m_ 23 898779) HT_.out ?_
             refine take_ (i := 2) (N := some 34) (v := ?_) (a' := ?_) (m_ 23 898783) rfl rfl (take_ofW HT_.out HW_.out (by kernel_rfl)) (fun _ _ _ h => h) (Or.inl ⟨by rfl, ?_⟩) hHeld ?_ ?_; rotate_left; (rintro w' ⟨s0, s1, s2, s3, s4, s5, s6⟩; go_simp; with_reducible rfl); rotate_left; (simp only [Act.put, List.setIfInBounds_toArray, List.set_cons_zero, List.set_cons_succ, i64_w, i32_w]; rfl)
             refine take_ (i := 5) (N := some 37) (v := ?_) (a' := ?_) (m_ 23 898815) rfl rfl (take_ofW HT_.out HW_.out (by kernel_rfl)) (fun _ _ _ h => h) (Or.inl ⟨by rfl, ?_⟩) hHeld ?_ ?_; rotate_left; (rintro w' ⟨s0, s1, s2, s3, s4, s5, s6⟩; go_simp; with_reducible rfl); rotate_left; (simp only [Act.put, List.setIfInBounds_toArray, List.set_cons_zero, List.set_cons_succ, i64_w, i32_w]; rfl)
             refine take_ (i := 8) (N := some 40) (v := ?_) (a' := ?_) (m_ 23 899071) rfl rfl (take_ofW HT_.out HW_.out (by kernel_rfl)) (fun _ _ _ h => h) (Or.inl ⟨by rfl, ?_⟩) hHeld ?_ ?_; rotate_left; (rintro w' ⟨s0, s1, s2, s3, s4, s5, s6⟩; go_simp; with_reducible rfl); rotate_left; (simp only [Act.put, List.setIfInBounds_toArray, List.set_cons_zero, List.set_cons_succ, i64_w, i32_w]; rfl)
             refine take_ (i := 11) (N := some 43) (v := ?_) (a' := ?_) (m_ 23 901119) rfl rfl (take_ofW HT_.out HW_.out (by kernel_rfl)) (fun _ _ _ h => h) (Or.inl ⟨by rfl, ?_⟩) hHeld ?_ ?_; rotate_left; (rintro w' ⟨s0, s1, s2, s3, s4, s5, s6⟩; go_simp; with_reducible rfl); rotate_left; (simp only [Act.put, List.setIfInBounds_toArray, List.set_cons_zero, List.set_cons_succ, i64_w, i32_w]; rfl)
             refine take_ (i := 14) (N := some 46) (v := ?_) (a' := ?_) (m_ 23 917503) rfl rfl (take_ofW HT_.out HW_.out (by kernel_rfl)) (fun _ _ _ h => h) (Or.inl ⟨by rfl, ?_⟩) hHeld ?_ ?_; rotate_left; (rintro w' ⟨s0, s1, s2, s3, s4, s5, s6⟩; go_simp; with_reducible rfl); rotate_left; (simp only [Act.put, List.setIfInBounds_toArray, List.set_cons_zero, List.set_cons_succ, i64_w, i32_w]; rfl)
             refine take_ (i := 17) (N := some 49) (v := ?_) (a' := ?_) (m_ 23 1048575) rfl rfl (take_ofW HT_.out HW_.out (by kernel_rfl)) (fun _ _ _ h => h) (Or.inl ⟨by rfl, ?_⟩) hHeld ?_ ?_; rotate_left; (rintro w' ⟨s0, s1, s2, s3, s4, s5, s6⟩; go_simp; with_reducible rfl); rotate_left; (simp only [Act.put, List.setIfInBounds_toArray, List.set_cons_zero, List.set_cons_succ, i64_w, i32_w]; rfl)
             refine take_ (i := 20) (N := some 52) (v := ?_) (a' := ?_) (m_ 23 2097151) rfl rfl (take_ofW HT_.out HW_.out (by kernel_rfl)) (fun _ _ _ h => h) (Or.inl ⟨by rfl, ?_⟩) hHeld ?_ ?_; rotate_left; (rintro w' ⟨s0, s1, s2, s3, s4, s5, s6⟩; go_simp; with_reducible rfl); rotate_left; (simp only [Act.put, List.setIfInBounds_toArray, List.set_cons_zero, List.set_cons_succ, i64_w, i32_w]; rfl)
             refine one_ (i := 21) (N := some 53) (m_ 23 4194303) rfl rfl (one_of HT_.out (by kernel_rfl)) (by decide) (fun K hK => ?_)
             refine Kd.R_lit_step (Kd.int .i64) _ 3 ?hg (N := 53) ?hd (xs := ([rd t421 0, rd t421 4, rd t421 5, rd t421 6, rd t421 1, rd t421 2, rd t421 3] : List Int)) (inner := [.int .i64 (rd t421 0), .int .i64 (rd t421 4), .int .i64 (rd t421 5), .int .i64 (rd t421 6), .int .i64 (rd t421 1), .int .i64 (rd t421 2), .int .i64 (rd t421 3)]) (ok := fun _ => True) (okp := fun _ => True) ?hr ?hp (fun _ hk => hk) trivial (Below.refl _ _) (Nat.le_refl _) (by simp) ?_; (case hd => rfl); (case hg => rfl); (case hr => first | (go_simp; done) | (go_simp; rfl)); (case hp => exact (Reps.one (show Kd.M (Kd.int .i64) _ _ _ (rd t421 0) [.int .i64 (rd t421 0)] from rfl) (Reps.one (show Kd.M (Kd.int .i64) _ _ _ (rd t421 4) [.int .i64 (rd t421 4)] from rfl) (Reps.one (show Kd.M (Kd.int .i64) _ _ _ (rd t421 5) [.int .i64 (rd t421 5)] from rfl) (Reps.one (show Kd.M (Kd.int .i64) _ _ _ (rd t421 6) [.int .i64 (rd t421 6)] from rfl) (Reps.one (show Kd.M (Kd.int .i64) _ _ _ (rd t421 1) [.int .i64 (rd t421 1)] from rfl) (Reps.one (show Kd.M (Kd.int .i64) _ _ _ (rd t421 2) [.int .i64 (rd t421 2)] from rfl) (Reps.one (show Kd.M (Kd.int .i64) _ _ _ (rd t421 3) [.int .i64 (rd t421 3)] from rfl) (Reps.none _ _)))))))))
             intro v436 w31 ho32 hb hg_ hnew_
             have HS0_ := (hb.cell (World.block_lt_of_cell? _ _ (hHeld.1))).trans (hHeld.1)
             have HS1_ := (hb.cell (World.block_lt_of_cell? _ _ (hHeld.2.1))).trans (hHeld.2.1)
             have HS2_ := (hb.cell (World.block_lt_of_cell? _ _ (hHeld.2.2.1))).trans (hHeld.2.2.1)
             have HS3_ := (hb.cell (World.block_lt_of_cell? _ _ (hHeld.2.2.2.1))).trans (hHeld.2.2.2.1)
             have HS4_ := (hb.cell (World.block_lt_of_cell? _ _ (hHeld.2.2.2.2.1))).trans (hHeld.2.2.2.2.1)
             have HS5_ := (hb.cell (World.block_lt_of_cell? _ _ (hHeld.2.2.2.2.2.1))).trans (hHeld.2.2.2.2.2.1)
             have HS6_ := (hb.cell (World.block_lt_of_cell? _ _ (hHeld.2.2.2.2.2.2))).trans (hHeld.2.2.2.2.2.2)
             clear hg_ hnew_
             (first | rw [← Ny435.out] at ho32 | (simp only [Int.reduceToNat] at ho32; rw [← Ny435.out] at ho32))
             have n0_ := Aside0.mk (Kd.R_elder' (rr_ HO_3) (Kd.R_base ho32) hb)
             have n1_ := Aside0.mk (Kd.R_elder' (rr_ HO_4) (Kd.R_base ho32) hb)
             have n2_ := Aside0.mk (Kd.R_lower (Kd.R_new' (Kd.R_new' ho32 (Kd.R_lt (rr_ HO_3))) (Kd.R_lt (rr_ HO_4))) (below_size (bb_ HB)))
             have n3_ := Aside0.mk (below_step (bb_ HB) hb)
             clear HO_3
             clear HO_4
             clear HB
             have HO_3 := n0_
             have HO_4 := n1_
             have HO437 := n2_
             have HB := n3_
             clear n0_ n1_ n2_ n3_
             clear hb ho32
             refine hK.out _ _ ⟨HS0_, HS1_, HS2_, HS3_, HS4_, HS5_, HS6_⟩ (fun hHeld => ?_)
             clear hK K
             refine norm_ (a' := ?_) ?_ ?_; rotate_left; (show Act.put _ (some 53) _ = _; simp only [Act.put, List.setIfInBounds_toArray, List.set_cons_zero, List.set_cons_succ, i64_w, i32_w]; rfl)
             refine p_ 22 7 (m_ 23 8388607) HT_.out ?_
             refine done_ (done_of HT_.out (by kernel_rfl)) ?_
             try go_wp2_with (first | (refine goesL_ (some 56) rfl rfl Try.func16 (by kernel_rfl) rfl #[.slice Ao8 t420.length co8, .slice (some ad428) t421.length co9] rfl ll_ ?_; (with_reducible refine (impl_TwinIn.calls kj5 _ _ t420 _ _ t421 false _ ?side1 ?side2 ?side3 ?side4 A21.out).mono ?_); (case side1 => exact cc_ HO_3); (case side2 => exact (Kd.R_reads' HO_3.out).2.1); (case side3 => exact cc_ HO_4); (case side4 => exact (Kd.R_reads' HO_4.out).2.1); rintro e w33 ⟨rfl, hb⟩; refine ⟨_, rfl, ?_⟩; have n0_ := Aside0.mk (Kd.R_below (rr_ HO_3) hb); have n1_ := Aside0.mk (Kd.R_below (rr_ HO_4) hb); have n2_ := Aside0.mk (Kd.R_below (rr_ HO437) hb); have n3_ := Aside0.mk (below_step (bb_ HB) hb); clear HO_3; clear HO_4; clear HO437; clear HB; have HO_3 := n0_; have HO_4 := n1_; have HO437 := n2_; have HB := n3_; clear n0_ n1_ n2_ n3_; (try clear hb); (try clear hb2); (try clear hk); (try clear hi)))
             go_ret
             exact ⟨ee_, bb_ HB⟩
           ·rw [if_neg c20] at H
            exact absurd H (by simp)
          ·rw [if_neg c19] at H
           exact absurd H (by simp)
         ·rw [if_neg c18] at H
          exact absurd H (by simp)
        ·rw [if_neg c17] at H
         exact absurd H (by simp)
       ·rw [if_neg c16] at H
        exact absurd H (by simp)
      ·rw [if_neg c15] at H
       exact absurd H (by simp)
     ·rw [if_neg c14] at H
      exact absurd H (by simp)
def laws_FnTwinCloses.Pure : Prop := ∀ (l0 : List Int), l0.length ≤ maxLen → l0.length * 1 ≤ 140737488351232 → (∀ x ∈ l0, (Lit.int .u8 x).wf = true) → ∃ k, laws_FnTwinCloses.f k l0 = some true
theorem laws_FnTwinCloses.walk (P : laws_FnTwinCloses.Pure) (a0 : Option Addr) (len0 cap0 : Nat) (z0 : List Int) (w : World) (w0 : (a0 = none ∧ len0 = 0 ∧ cap0 = 0 ∧ z0 = []) ∨ ∃ x, a0 = some x ∧ len0 ≤ cap0 ∧ cap0 ≤ maxLen ∧ z0.length = cap0 ∧ (∀ i, i < z0.length → w.cell? (x.add i) = some (.int .u8 (z0.getD i 0))) ∧ ∀ n ∈ z0, (Lit.int .u8 n).wf = true) (y0 : len0 * 1 ≤ 140737488351232) :
  Calls Try.prog 5 #[.slice a0 len0 cap0] w fun e w' => e = .returned (.bool true) ∧ Below w.heap.size w w' := by
 obtain ⟨l0, rfl, hr0, hm0, hw0, hc0⟩ := ReadsInt.ofRowC w0
 obtain ⟨k, h⟩ := P l0 hm0 y0 hw0
 refine (laws_FnTwinCloses.calls k _ _ l0 true w (Kd.C_of_reads (d := (0 : Int)) (h1 := fun _ => rfl) hr0) hc0 h).mono ?_
 rintro e w' ⟨rfl, hd⟩
 exact ⟨rfl, hd⟩
end Go.Proofs.Ytcbkoecanldlpaa.P

set_option linter.unusedVariables false
set_option linter.unusedSimpArgs false
namespace Go.Proofs.Ytcbkoecanldlpaa.X
open Go.RowKit Go.Proofs.YtcbkoecanldlpaaW.PrintWords Go.Proofs.YtcbkoecanldlpaaW.PrintLast Go.Proofs.Ytcbkoecanldlpaa.P

theorem l6In_eq (a b c : Int) : spec_l6In.f a b c = some (decide (b ≤ a) && decide (a ≤ c)) := by
  unfold spec_l6In.f
  by_cases h : a ≥ b
  · rw [if_pos h, decide_eq_true h]; simp
  · rw [if_neg h, decide_eq_false h]; simp
theorem l1In_eq (a : Int) : spec_l1In.f a = some (isN a) := by
  unfold spec_l1In.f isN
  rw [l6In_eq]
  show some _ = _
  rw [show decide (a ≤ 8) = decide (a < 9) from decide_eq_decide.2 (by omega)]
theorem l2Table_loop (l : List Int) (hl : l.length ≤ 1048576) (d : Nat) : ∀ (i : Int), 0 ≤ i → i + d = l.length → (∀ j : Nat, (j : Int) < i → isN (rd l j) = true) → Ev (fun k => spec_l2Table.l0 k l i) (ninesB l 81) := by
  induction d with
  | zero =>
    intro i h0 h1 h
    refine Ev.step (fun k => by rw [spec_l2Table.l0]) ?_
    refine Ev.neg (by omega) (Ev.done ?_)
    have ha : l.all isN = true := by
      rw [List.all_eq_true]
      intro x hx
      obtain ⟨j, hj, rfl⟩ := List.mem_iff_getElem.1 hx
      rw [← rd_cast l j hj]
      exact h j (by omega)
    unfold ninesB
    rw [ha, Bool.and_true]
    congr 1
    rw [Bool.eq_iff_iff]; simp; omega
  | succ d ih =>
    intro i h0 h1 h
    refine Ev.step (fun k => by rw [spec_l2Table.l0]) ?_
    simp (disch := omega) only [w64, l1In_eq, Option.bind_some]
    refine Ev.pos (by omega) (Ev.pos (by omega) ?_)
    by_cases e : isN (rd l i) = true
    · refine Ev.pos e (ih (i + 1) (by omega) (by omega) fun j hj => ?_)
      by_cases ej : (j : Int) = i
      · rw [ej]; exact e
      · exact h j (by omega)
    · refine Ev.neg e (Ev.done ?_)
      have : l.all isN = false := by
        rw [List.all_eq_false]
        exact ⟨rd l i, rd_mem (by omega) h0, e⟩
      unfold ninesB
      rw [this, Bool.and_false]
theorem l2Table_ev (l : List Int) (hl : l.length ≤ 1048576) : Ev (fun k => spec_l2Table.f k l) (ninesB l 81) :=
  l2Table_loop l hl l.length 0 (by omega) (by omega) (fun j h => by omega)
theorem l2Units_loop (t : List Int) (hl : t.length = 81) (d : Nat) : ∀ (i : Int), 0 ≤ i → i + d = 9 → (∀ x : Int, 0 ≤ x → x < i → unitB t x = true) → Ev (fun k => spec_l2Units.l0 k t i) (unitsB t) := by
  induction d with
  | zero =>
    intro i h0 h1 h
    refine Ev.step (fun k => by rw [spec_l2Units.l0]) ?_
    refine Ev.neg (by omega) (Ev.done ?_)
    rw [unitsB_iff.2 fun x x0 x1 => h x x0 (by omega)]
  | succ d ih =>
    intro i h0 h1 h
    have hu : unitB t i = (decide (rd t i = 0) && decide (rd t (9 * i) = 0) && decide (rd t (9 + i) = i) && decide (rd t (9 * i + 1) = i)) := rfl
    refine Ev.step (fun k => by rw [spec_l2Units.l0]) ?_
    have z1 : wrap64 (9 * i) = 9 * i := w64 (by omega) (by omega)
    have z2 : wrap64 (9 + i) = 9 + i := w64 (by omega) (by omega)
    have z3 : wrap64 (9 * i + 1) = 9 * i + 1 := w64 (by omega) (by omega)
    have z4 : wrap64 (i + 1) = i + 1 := w64 (by omega) (by omega)
    simp only [z1, z2, z3, z4]
    refine Ev.pos (by omega) (Ev.pos (by omega) (Ev.pos (by omega) ?_))
    by_cases e1 : rd t i = 0
    case neg => exact Ev.neg e1 (Ev.done (by rw [unitsB_hit h0 (by omega) (by rw [hu, decide_eq_false e1]; rfl)]))
    refine Ev.pos e1 (Ev.pos (by omega) (Ev.pos (by omega) ?_))
    by_cases e2 : rd t (9 * i) = 0
    case neg => exact Ev.neg e2 (Ev.done (by rw [unitsB_hit h0 (by omega) (by rw [hu, decide_eq_false e2, Bool.and_false]; rfl)]))
    refine Ev.pos e2 (Ev.pos (by omega) (Ev.pos (by omega) ?_))
    by_cases e3 : rd t (9 + i) = i
    case neg => exact Ev.neg e3 (Ev.done (by rw [unitsB_hit h0 (by omega) (by rw [hu, decide_eq_false e3, Bool.and_false]; rfl)]))
    refine Ev.pos e3 (Ev.pos (by omega) (Ev.pos (by omega) ?_))
    by_cases e4 : rd t (9 * i + 1) = i
    case neg => exact Ev.neg e4 (Ev.done (by rw [unitsB_hit h0 (by omega) (by rw [hu, decide_eq_false e4, Bool.and_false])]))
    refine Ev.pos e4 (ih (i + 1) (by omega) (by omega) fun x x0 x1 => ?_)
    by_cases e : x = i
    · rw [e, hu, decide_eq_true e1, decide_eq_true e2, decide_eq_true e3, decide_eq_true e4]; rfl
    · exact h x x0 (by omega)
theorem l2Units_ev (t : List Int) (hl : t.length = 81) : Ev (fun k => spec_l2Units.f k t) (unitsB t) :=
  l2Units_loop t hl 9 0 (by omega) (by omega) (fun x h0 h1 => by omega)
theorem SystemIn_l1 (t : List Int) (hn : ninesB t 81 = true) (c : Int) (hc : In9 c) (hr : (∀ d : Int, 0 ≤ d → d < c → gapsB t c d = true) → Ev (fun k => spec_SystemIn.l0 k t (c + 1)) (solvesB t)) (n : Nat) :
    ∀ (d : Int), 0 ≤ d → d + n = c → (∀ x : Int, 0 ≤ x → x < d → gapsB t c x = true) → Ev (fun k => spec_SystemIn.l1 k t c d) (solvesB t) := by
  obtain ⟨c0, c1⟩ := hc
  induction n with
  | zero =>
    intro d h0 h1 h
    refine Ev.step (fun k => by rw [spec_SystemIn.l1]) ?_
    simp (disch := omega) only [w64]
    exact Ev.neg (by omega) (hr fun x x0 x1 => h x x0 (by omega))
  | succ n ih =>
    intro d h0 h1 h
    refine Ev.step (fun k => by rw [spec_SystemIn.l1]) ?_
    have hs : spec_l2Solves.f t c d = some (gapsB t c d) := by unfold spec_l2Solves.f; exact if_pos ⟨hn, ⟨c0, c1⟩, ⟨h0, by omega⟩⟩
    simp (disch := omega) only [w64, hs, Option.bind_some]
    refine Ev.pos (by omega) ?_
    by_cases e : gapsB t c d = true
    · refine Ev.pos e (ih (d + 1) (by omega) (by omega) fun x x0 x1 => ?_)
      by_cases ex : x = d
      · rw [ex]; exact e
      · exact h x x0 (by omega)
    · refine Ev.neg e (Ev.done ?_)
      rw [solvesB_hit h0 (by omega) c1 (Bool.eq_false_iff.2 e)]
theorem SystemIn_l0 (t : List Int) (hn : ninesB t 81 = true) (n : Nat) : ∀ (c : Int), 0 ≤ c → c + n = 9 → (∀ x y : Int, 0 ≤ y → y < x → x < c → gapsB t x y = true) → Ev (fun k => spec_SystemIn.l0 k t c) (solvesB t) := by
  induction n with
  | zero =>
    intro c h0 h1 h
    refine Ev.step (fun k => by rw [spec_SystemIn.l0]) ?_
    refine Ev.neg (by omega) (Ev.done ?_)
    rw [solvesB_all fun x y y0 yx x9 => h x y y0 yx (by omega)]
  | succ n ih =>
    intro c h0 h1 h
    refine Ev.step (fun k => by rw [spec_SystemIn.l0]) ?_
    refine Ev.pos (by omega) ?_
    refine SystemIn_l1 t hn c ⟨h0, by omega⟩ (fun hg => ih (c + 1) (by omega) (by omega) fun x y y0 yx x1 => ?_) c.toNat 0 (by omega) (by omega) (fun x x0 x1 => by omega)
    by_cases e : x = c
    · subst e; exact hg y y0 yx
    · exact h x y y0 yx (by omega)
theorem SystemIn_ev (t : List Int) (hl : t.length ≤ 1048576) : Ev (fun k => spec_SystemIn.f k t) (sysB t) := by
  unfold spec_SystemIn.f
  refine Ev.bind (l2Table_ev t hl) ?_
  by_cases hn : ninesB t 81 = true
  case neg =>
    refine Ev.neg hn (Ev.step (fun k => by rw [spec_SystemIn.j0]) (Ev.pos rfl (Ev.done ?_)))
    unfold sysB; rw [Bool.eq_false_iff.2 hn]; rfl
  refine Ev.pos hn (Ev.bind (l2Units_ev t (ninesB_iff.1 hn).1) ?_)
  by_cases hu : unitsB t = true
  case neg =>
    refine Ev.neg hu (Ev.step (fun k => by rw [spec_SystemIn.j0]) (Ev.pos rfl (Ev.done ?_)))
    rw [sysB_of hn, Bool.eq_false_iff.2 hu]; rfl
  have hs : spec_l2Shares.f t = some (sharesB t) := by unfold spec_l2Shares.f; exact if_pos hn
  refine Ev.pos hu (Ev.fix hs ?_)
  rw [sysB_of hn, hu]
  by_cases h : sharesB t = true
  · rw [h]
    refine Ev.step (fun k => by rw [spec_SystemIn.j0]) ?_
    refine Ev.neg (by simp) ?_
    exact SystemIn_l0 t hn 9 0 (by omega) (by omega) (fun x y h0 h1 h2 => by omega)
  · rw [Bool.eq_false_iff.2 h]
    refine Ev.step (fun k => by rw [spec_SystemIn.j0]) ?_
    exact Ev.pos rfl (Ev.done rfl)
end Go.Proofs.Ytcbkoecanldlpaa.X

set_option linter.unusedVariables false
set_option linter.unusedSimpArgs false
namespace Go.Proofs.Ytcbkoecanldlpaa.X
open Go.RowKit Go.Proofs.YtcbkoecanldlpaaW.PrintWords Go.Proofs.YtcbkoecanldlpaaW.PrintLast Go.Proofs.Ytcbkoecanldlpaa.P

def RdS (s : List Int) : Prop := s.length ≤ 2000 ∧ ∀ x ∈ s, 0 ≤ x ∧ x ≤ 255
theorem u8_range {x : Int} (h : (Lit.int .u8 x).wf = true) : 0 ≤ x ∧ x ≤ 255 := by
  simp [Lit.wf, IntKind.min, IntKind.max, IntKind.signed, IntKind.bits] at h
  omega
theorem open_ev (l : List Int) (h : ∀ x ∈ l, (Lit.int .u8 x).wf = true) : ∃ s, RdS s ∧ spec_l6Open.f l = some (s, 0) := by
  unfold spec_l6Open.f
  by_cases hl : (l.length : Int) > 2000
  · rw [if_pos hl, if_pos (by omega)]
    exact ⟨_, ⟨by rw [List.length_take]; omega, fun x hx => u8_range (h x (List.mem_of_mem_take hx))⟩, rfl⟩
  · rw [if_neg hl]
    exact ⟨_, ⟨by omega, fun x hx => u8_range (h x hx)⟩, rfl⟩
theorem xor_nn {a b : Int} (h0 : 0 ≤ a) (h1 : a < 9223372036854775808) (h2 : 0 ≤ b) (h3 : b < 9223372036854775808) : 0 ≤ Go.bits .xor .i64 a b := by
  obtain ⟨x, rfl⟩ := Int.eq_ofNat_of_zero_le h0
  obtain ⟨y, rfl⟩ := Int.eq_ofNat_of_zero_le h2
  have hx : x ^^^ y < 2 ^ 63 := Nat.xor_lt_two_pow (by omega) (by omega)
  have e1 : (BitVec.ofInt 64 (x : Int)).toNat = x := by
    rw [BitVec.ofInt_natCast, BitVec.toNat_ofNat]; exact Nat.mod_eq_of_lt (by omega)
  have e2 : (BitVec.ofInt 64 (y : Int)).toNat = y := by
    rw [BitVec.ofInt_natCast, BitVec.toNat_ofNat]; exact Nat.mod_eq_of_lt (by omega)
  have e : Go.bits .xor .i64 (x : Int) (y : Int) = IntKind.i64.wrap ((BitVec.ofInt 64 (x : Int) ^^^ BitVec.ofInt 64 (y : Int)).toNat : Int) := rfl
  rw [e, BitVec.toNat_xor, e1, e2]
  generalize x ^^^ y = z at hx
  simp [IntKind.wrap, IntKind.bits, IntKind.signed]
  omega
theorem tmod_range {a n : Int} (h : 0 ≤ a) (hn : 1 ≤ n) : 0 ≤ Int.tmod a n ∧ Int.tmod a n < n := by
  rw [tmod_nn h]
  exact ⟨Int.emod_nonneg _ (by omega), Int.emod_lt_of_pos _ (by omega)⟩
theorem rd_byte {s : List Int} (hs : RdS s) {i : Int} (h0 : 0 ≤ i) (h1 : i < s.length) : 0 ≤ rd s i ∧ rd s i ≤ 255 := hs.2 _ (rd_mem h1 h0)
theorem pick_j0 (s : List Int) (hs : RdS s) (p : Int) (h0 : 0 ≤ p) (h1 : p ≤ 1099511627776) (n : Int) (n0 : 1 ≤ n) (n1 : n ≤ 1000000) :
    ∃ v, (0 ≤ v ∧ v < n) ∧ Ev (fun k => spec_l6Rd_pick.j0 k n ((s.length : Int) == 0) s (p + 1)) (v, p + 1) := by
  have hl := hs.1
  by_cases e : s.length = 0
  · refine ⟨0, by omega, ?_⟩
    refine Ev.step (fun k => by rw [spec_l6Rd_pick.j0]) ?_
    refine Ev.pos (by rw [e]; rfl) (Ev.done rfl)
  have ez : wrap64 (p + 1 - 1) = p := by rw [w64 (by omega) (by omega)]; omega
  have er : ∀ i : Int, 0 ≤ i → i < s.length → wrap64 (rd s i) = rd s i := fun i i0 i1 => by
    have := rd_byte hs i0 i1; exact w64 (by omega) (by omega)
  by_cases hp : p < s.length
  · obtain ⟨b0, b1⟩ := rd_byte hs h0 hp
    refine ⟨Int.tmod (rd s p) n, tmod_range b0 n0, ?_⟩
    refine Ev.step (fun k => by rw [spec_l6Rd_pick.j0]) ?_
    rw [ez]
    refine Ev.neg (by simp; intro hh; apply e; simp [hh]) (Ev.pos hp (Ev.pos h0 (Ev.neg (by omega) ?_)))
    rw [er p h0 hp]
    exact Ev.done rfl
  · have hL : (1 : Int) ≤ s.length := by omega
    have ha : 0 ≤ p % (s.length : Int) ∧ p % (s.length : Int) < s.length := ⟨Int.emod_nonneg _ (by omega), Int.emod_lt_of_pos _ (by omega)⟩
    have hb : 0 ≤ (p * 7 + 3) % (s.length : Int) ∧ (p * 7 + 3) % (s.length : Int) < s.length := ⟨Int.emod_nonneg _ (by omega), Int.emod_lt_of_pos _ (by omega)⟩
    have hd : 0 ≤ p / (s.length : Int) ∧ p / (s.length : Int) ≤ p := ⟨Int.ediv_nonneg h0 (by omega), Int.ediv_le_self _ h0⟩
    obtain ⟨a0, a1⟩ := rd_byte hs ha.1 ha.2
    obtain ⟨b0, b1⟩ := rd_byte hs hb.1 hb.2
    have ea := er _ ha.1 ha.2
    have eb := er _ hb.1 hb.2
    have e7 : wrap64 (wrap64 (p * 7) + 3) = p * 7 + 3 := by rw [w64 (x := p * 7) (by omega) (by omega), w64 (by omega) (by omega)]
    have em : Int.tmod p (s.length : Int) = p % (s.length : Int) := tmod_nn h0
    have en : Int.tmod (p * 7 + 3) (s.length : Int) = (p * 7 + 3) % (s.length : Int) := tmod_nn (by omega)
    have ed : Int.tdiv p (s.length : Int) = p / (s.length : Int) := tdiv_nn h0
    generalize hA : rd s (p % (s.length : Int)) = A at *
    generalize hB : rd s ((p * 7 + 3) % (s.length : Int)) = B at *
    generalize hD : p / (s.length : Int) = D at *
    have eX : wrap64 (wrap64 (wrap64 (wrap64 (A * 131) + wrap64 (B * 1117)) + wrap64 (p * 29)) + wrap64 (wrap64 D * 53)) = A * 131 + B * 1117 + p * 29 + D * 53 := by
      rw [w64 (x := A * 131) (by omega) (by omega), w64 (x := B * 1117) (by omega) (by omega), w64 (x := A * 131 + B * 1117) (by omega) (by omega), w64 (x := p * 29) (by omega) (by omega), w64 (x := D) (by omega) (by omega), w64 (x := D * 53) (by omega) (by omega), w64 (x := A * 131 + B * 1117 + p * 29) (by omega) (by omega), w64 (by omega) (by omega)]
    have hX0 : 0 ≤ A * 131 + B * 1117 + p * 29 + D * 53 := by omega
    have hX1 : A * 131 + B * 1117 + p * 29 + D * 53 ≤ 9223372036854775807 := by omega
    generalize A * 131 + B * 1117 + p * 29 + D * 53 = X at *
    have eY : wrap64 (Int.tdiv X 64) = X / 64 := by rw [tdiv_nn hX0]; exact w64 (by omega) (by omega)
    refine ⟨Int.tmod (Go.bits .xor .i64 X (X / 64)) n, tmod_range (xor_nn hX0 (by omega) (by omega) (by omega)) n0, ?_⟩
    refine Ev.step (fun k => by rw [spec_l6Rd_pick.j0]) ?_
    rw [ez]
    refine Ev.neg (by simp; intro hh; apply e; simp [hh]) (Ev.neg hp (Ev.neg (by omega) ?_))
    rw [e7, em, en, ed, hA, hB, ea, eb, eX, eY]
    exact Ev.pos ha.1 (Ev.pos ha.2 (Ev.pos hb.1 (Ev.pos hb.2 (Ev.neg (by omega) (Ev.done rfl)))))
theorem pick_ev {s : List Int} (hs : RdS s) {p : Int} (h0 : 0 ≤ p) (h1 : p ≤ 1099511627776) {n : Int} (n0 : 1 ≤ n) (n1 : n ≤ 1000000) :
    ∃ v, (0 ≤ v ∧ v < n) ∧ Ev (fun k => spec_l6Rd_pick.f k s p n) (v, p + 1) := by
  obtain ⟨v, hv, he⟩ := pick_j0 s hs p h0 h1 n n0 n1
  refine ⟨v, hv, ?_⟩
  unfold spec_l6Rd_pick.f
  rw [w64 (by omega) (by omega)]
  exact Ev.neg (by omega) he
def kindL (c : Int) : List Int := (spec_l2Of.f 300 c).getD []
theorem five {P : Int → Prop} (h : ∀ i : Fin 5, P (i.val : Int)) (a : Int) (h0 : 0 ≤ a) (h1 : a < 5) : P a := by
  have := h ⟨a.toNat, by omega⟩
  simpa [Int.toNat_of_nonneg h0] using this
theorem kindL_some : ∀ i : Fin 5, spec_l2Of.f 300 (i.val : Int) = some (kindL (i.val : Int)) := by decide +kernel
theorem kindL_nines : ∀ i : Fin 5, ninesB (kindL (i.val : Int)) 81 = true := by decide +kernel
theorem kind_ev (c : Int) (h0 : 0 ≤ c) (h1 : c < 5) : Ev (fun k => spec_l2Of.f k c) (kindL c) :=
  Ev.of (fun k => spec_l2Of.mono c k) (five (P := fun c => spec_l2Of.f 300 c = some (kindL c)) kindL_some c h0 h1)
theorem kind_nines (c : Int) (h0 : 0 ≤ c) (h1 : c < 5) : ninesB (kindL c) 81 = true := five (P := fun c => ninesB (kindL c) 81 = true) kindL_nines c h0 h1
def DrawnT (t : List Int) : Prop := ∃ c : Int, 0 ≤ c ∧ c < 5 ∧ (t = kindL c ∨ (∃ i v : Int, 0 ≤ i ∧ i < 81 ∧ 0 ≤ v ∧ v < 9 ∧ t = (kindL c).set i.toNat v) ∨ t = (kindL c).take 80)
theorem DrawnT.len {t : List Int} (h : DrawnT t) : t.length ≤ 81 := by
  obtain ⟨c, c0, c1, h⟩ := h
  have hl := (ninesB_iff.1 (kind_nines c c0 c1)).1
  rcases h with rfl | ⟨i, v, _, _, _, _, rfl⟩ | rfl
  · omega
  · rw [List.length_set]; omega
  · rw [List.length_take]; omega
theorem system_ev {s : List Int} (hs : RdS s) {p : Int} (h0 : 0 ≤ p) (h1 : p ≤ 1099511000000) : ∃ t q, DrawnT t ∧ (p ≤ q ∧ q ≤ p + 5) ∧ Ev (fun k => spec_l91System.f k s p) (t, q) := by
  obtain ⟨c, hc, ec⟩ := pick_ev hs h0 (by omega) (n := 5) (by omega) (by omega)
  obtain ⟨a, ha, ea⟩ := pick_ev hs (p := p + 1) (by omega) (by omega) (n := 30) (by omega) (by omega)
  obtain ⟨i, hi, ei⟩ := pick_ev hs (p := p + 1 + 1) (by omega) (by omega) (n := 9) (by omega) (by omega)
  obtain ⟨j, hj, ej⟩ := pick_ev hs (p := p + 1 + 1 + 1) (by omega) (by omega) (n := 9) (by omega) (by omega)
  obtain ⟨v, hv, ev⟩ := pick_ev hs (p := p + 1 + 1 + 1 + 1) (by omega) (by omega) (n := 9) (by omega) (by omega)
  have hl := (ninesB_iff.1 (kind_nines c hc.1 hc.2)).1
  have ew : wrap64 (wrap64 (9 * i) + j) = 9 * i + j := by rw [w64 (x := 9 * i) (by omega) (by omega), w64 (by omega) (by omega)]
  by_cases e : a = 0
  · refine ⟨(kindL c).set (9 * i + j).toNat v, p + 1 + 1 + 1 + 1 + 1, ⟨c, hc.1, hc.2, .inr (.inl ⟨9 * i + j, v, by omega, by omega, hv.1, hv.2, rfl⟩)⟩, by omega, ?_⟩
    unfold spec_l91System.f
    refine Ev.bind ec (Ev.bind (kind_ev c hc.1 hc.2) (Ev.bind ea (Ev.pos e (Ev.bind ei (Ev.bind ej (Ev.bind ev ?_))))))
    dsimp only
    rw [ew]
    exact Ev.pos (by omega) (Ev.pos (by omega) (Ev.done rfl))
  by_cases e1 : a = 1
  · refine ⟨(kindL c).take 80, p + 1 + 1, ⟨c, hc.1, hc.2, .inr (.inr rfl)⟩, by omega, ?_⟩
    unfold spec_l91System.f
    refine Ev.bind ec (Ev.bind (kind_ev c hc.1 hc.2) (Ev.bind ea (Ev.neg e (Ev.pos e1 (Ev.pos ?_ (Ev.done rfl))))))
    omega
  · refine ⟨kindL c, p + 1 + 1, ⟨c, hc.1, hc.2, .inl rfl⟩, by omega, ?_⟩
    unfold spec_l91System.f
    exact Ev.bind ec (Ev.bind (kind_ev c hc.1 hc.2) (Ev.bind ea (Ev.neg e (Ev.neg e1 (Ev.done rfl)))))
end Go.Proofs.Ytcbkoecanldlpaa.X

set_option linter.unusedVariables false
set_option linter.unusedSimpArgs false
namespace Go.Proofs.Ytcbkoecanldlpaa.X
open Go.RowKit Go.Proofs.YtcbkoecanldlpaaW.PrintWords Go.Proofs.YtcbkoecanldlpaaW.PrintLast Go.Proofs.Ytcbkoecanldlpaa.P

theorem point_ev {s : List Int} (hs : RdS s) {p : Int} (h0 : 0 ≤ p) (h1 : p ≤ 1099511000000) : ∃ v q, (-1 ≤ v ∧ v ≤ 91) ∧ (p ≤ q ∧ q ≤ p + 3) ∧ Ev (fun k => spec_l91Point.f k s p) (v, q) := by
  obtain ⟨a, ha, ea⟩ := pick_ev hs h0 (by omega) (n := 30) (by omega) (by omega)
  obtain ⟨b, hb, eb⟩ := pick_ev hs (p := p + 1) (by omega) (by omega) (n := 2) (by omega) (by omega)
  obtain ⟨c, hc, ec⟩ := pick_ev hs (p := p + 1) (by omega) (by omega) (n := 4) (by omega) (by omega)
  obtain ⟨d, hd, ed⟩ := pick_ev hs (p := p + 1 + 1) (by omega) (by omega) (n := 10) (by omega) (by omega)
  obtain ⟨e, he, ee⟩ := pick_ev hs (p := p + 1 + 1) (by omega) (by omega) (n := 81) (by omega) (by omega)
  by_cases h : a = 0
  · refine ⟨rd [-1, 91] b, p + 1 + 1, ?_, by omega, ?_⟩
    · have : b = 0 ∨ b = 1 := by omega
      rcases this with rfl | rfl <;> decide
    · unfold spec_l91Point.f
      refine Ev.bind ea (Ev.pos h (Ev.fix rfl (Ev.bind eb ?_)))
      exact Ev.pos hb.1 (Ev.pos hb.2 (Ev.done rfl))
  by_cases h' : c = 0
  · refine ⟨81 + d, p + 1 + 1 + 1, by omega, by omega, ?_⟩
    unfold spec_l91Point.f
    refine Ev.bind ea (Ev.neg h (Ev.bind ec (Ev.pos h' (Ev.bind ed ?_))))
    dsimp only
    rw [w64 (x := 81 + d) (by omega) (by omega)]
    exact Ev.done rfl
  · refine ⟨e, p + 1 + 1 + 1, by omega, by omega, ?_⟩
    unfold spec_l91Point.f
    exact Ev.bind ea (Ev.neg h (Ev.bind ec (Ev.neg h' (Ev.bind ee (Ev.done rfl)))))
theorem quad_l0 {s : List Int} (hs : RdS s) (d : Nat) : ∀ (i p : Int) (l : List Int), 0 ≤ i → i + d = 4 → 0 ≤ p → p ≤ 1099510000000 + 3 * i → (l.length : Int) = i → (∀ x ∈ l, -1 ≤ x ∧ x ≤ 91) → ∃ l' q, l'.length = 4 ∧ (∀ x ∈ l', -1 ≤ x ∧ x ≤ 91) ∧ (p ≤ q ∧ q ≤ p + 3 * d) ∧ Ev (fun k => spec_l91Quad.l0 k l i s p) (l', q) := by
  induction d with
  | zero =>
    intro i p l i0 i1 p0 p1 hl ha
    refine ⟨l, p, by omega, ha, by omega, ?_⟩
    refine Ev.step (fun k => by rw [spec_l91Quad.l0]) ?_
    exact Ev.neg (by omega) (Ev.done rfl)
  | succ d ih =>
    intro i p l i0 i1 p0 p1 hl ha
    obtain ⟨v, q, hv, hq, ev⟩ := point_ev hs p0 (by omega)
    obtain ⟨l', q', h1, h2, h3, h4⟩ := ih (i + 1) q (l ++ [v]) (by omega) (by omega) (by omega) (by omega) (by rw [List.length_append, List.length_singleton]; omega) (fun x hx => by
      rcases List.mem_append.1 hx with h | h
      · exact ha x h
      · rw [List.mem_singleton.1 h]; exact hv)
    refine ⟨l', q', h1, h2, by omega, ?_⟩
    refine Ev.step (fun k => by rw [spec_l91Quad.l0]) ?_
    rw [w64 (x := i + 1) (by omega) (by omega)]
    exact Ev.pos (by omega) (Ev.bind ev (Ev.pos (by omega) h4))
theorem quad_ev {s : List Int} (hs : RdS s) {p : Int} (h0 : 0 ≤ p) (h1 : p ≤ 1099510000000) : ∃ l q, l.length = 4 ∧ (∀ x ∈ l, -1 ≤ x ∧ x ≤ 91) ∧ (p ≤ q ∧ q ≤ p + 12) ∧ Ev (fun k => spec_l91Quad.f k s p) (l, q) := by
  obtain ⟨l, q, a, b, c, d⟩ := quad_l0 hs 4 0 p [] (by omega) (by omega) h0 (by omega) rfl (fun x hx => by cases hx)
  exact ⟨l, q, a, b, by omega, d⟩
end Go.Proofs.Ytcbkoecanldlpaa.X

set_option linter.unusedVariables false
set_option linter.unusedSimpArgs false
namespace Go.Proofs.Ytcbkoecanldlpaa.X
open Go.RowKit Go.Proofs.YtcbkoecanldlpaaW.PrintWords Go.Proofs.YtcbkoecanldlpaaW.PrintLast Go.Proofs.Ytcbkoecanldlpaa.P

theorem l3In_eq (p : Int) : spec_l3In.f p = some (ptB p) := by
  unfold spec_l3In.f ptB
  rw [l6In_eq]
  show some _ = _
  rw [show decide (p ≤ 90) = decide (p < 91) from decide_eq_decide.2 (by omega)]
theorem l3On_eq {t : List Int} (hn : ninesB t 81 = true) {p l : Int} (hp : In91 p) (hl : In91 l) : spec_l3On.f t p l = some (onB t p l) := by
  obtain ⟨p0, p1⟩ := hp
  obtain ⟨l0, l1⟩ := hl
  have hlen := (ninesB_iff.1 hn).1
  unfold spec_l3On.f onB
  by_cases h90 : l = 90
  · rw [if_pos h90, if_pos h90]
  rw [if_neg h90, if_neg h90]
  by_cases h81 : l ≥ 81
  · rw [if_pos h81, if_pos h81]
    by_cases hp90 : p = 90
    · rw [if_pos hp90, decide_eq_true hp90]; rfl
    · rw [if_neg hp90, decide_eq_false hp90, Bool.false_or]
      by_cases hpn : p < 81
      · rw [if_pos hpn, decide_eq_true hpn, Bool.true_and]
        simp (disch := omega) only [w64, tdiv_nn]
        rfl
      · rw [if_neg hpn, decide_eq_false hpn, Bool.false_and]
  · rw [if_neg h81, if_neg h81]
    by_cases hpf : p ≥ 81
    · rw [if_pos hpf, if_pos hpf]
      simp (disch := omega) only [w64, tdiv_nn]
      refine congrArg some ?_
      rw [show decide (p = 81 + l / 9) = decide (p - 81 = l / 9) from decide_eq_decide.2 (by omega)]
      rfl
    · rw [if_neg hpf, if_neg hpf]
      have hr := nines_rd hn (i := 9 * (p / 9) + l / 9) (by omega) (by omega)
      have ha := spec_l1Add_eq (rd t (9 * (p / 9) + l / 9)) (l % 9) hr ⟨by omega, by omega⟩
      simp (disch := omega) only [w64, tdiv_nn, tmod_nn]
      rw [show p / 9 * 9 = 9 * (p / 9) by omega, if_pos (by omega), if_pos (by omega), ha]
      rfl
theorem l3Points_loop {t : List Int} (hn : ninesB t 81 = true) {l : Int} (hl : In91 l) (d : Nat) : ∀ (i : Nat), i + d = 91 → Ev (fun k => spec_l3Points.l0 k t l (filI i fun p => onB t p l) (i : Int)) (pointsL t l) := by
  induction d with
  | zero =>
    intro i h1
    have e : i = 91 := by omega
    subst e
    refine Ev.step (fun k => by rw [spec_l3Points.l0]) ?_
    exact Ev.neg (by omega) (Ev.done rfl)
  | succ d ih =>
    intro i h1
    have hlen := filI_length_le i fun p => onB t p l
    have e1 := l3On_eq hn (p := (i : Int)) ⟨by omega, by omega⟩ hl
    have nx := ih (i + 1) (by omega)
    rw [filI_succ] at nx
    have z : wrap64 ((i : Int) + 1) = ((i + 1 : Nat) : Int) := by rw [w64 (by omega) (by omega)]; rfl
    refine Ev.step (fun k => by rw [spec_l3Points.l0]) ?_
    rw [z]
    refine Ev.pos (by omega) (Ev.fix e1 ?_)
    by_cases a : onB t (i : Int) l = true
    · rw [if_pos a] at nx
      exact Ev.pos a (Ev.pos (by omega) nx)
    · rw [if_neg a, List.append_nil] at nx
      exact Ev.neg a nx
theorem l3Points_ev {t : List Int} (hn : ninesB t 81 = true) {l : Int} (hl : In91 l) : Ev (fun k => spec_l3Points.f k t l) (pointsL t l) :=
  l3Points_loop hn hl 91 0 (by omega)
theorem l3Join_loop {t : List Int} (hn : ninesB t 81 = true) {p q : Int} (hp : In91 p) (hq : In91 q) (hj : ∃ l : Int, 0 ≤ l ∧ l < 91 ∧ onB t p l = true ∧ onB t q l = true) (d : Nat) : ∀ (i : Int), 0 ≤ i → i + d = 91 → (∀ l : Int, 0 ≤ l → l < i → (onB t p l && onB t q l) = false) → Ev (fun k => spec_l3Join.l0 k t p q i) (joinI t p q) := by
  induction d with
  | zero =>
    intro i h0 h1 h
    obtain ⟨l, l0, l1, a, b⟩ := hj
    have := h l l0 (by omega)
    rw [a, b] at this; exact absurd this (by decide)
  | succ d ih =>
    intro i h0 h1 h
    have e1 := l3On_eq hn hp (l := i) ⟨h0, by omega⟩
    have e2 := l3On_eq hn hq (l := i) ⟨h0, by omega⟩
    refine Ev.step (fun k => by rw [spec_l3Join.l0]) ?_
    simp (disch := omega) only [w64, e1, e2, Option.bind_some]
    refine Ev.pos (by omega) ?_
    have next : (onB t p i && onB t q i) = false → Ev (fun k => spec_l3Join.l0 k t p q (i + 1)) (joinI t p q) := fun hb => ih (i + 1) (by omega) (by omega) fun l l0 l1 => by
      by_cases e : l = i
      · rw [e]; exact hb
      · exact h l l0 (by omega)
    by_cases a : onB t p i = true
    · refine Ev.pos a ?_
      by_cases b : onB t q i = true
      · refine Ev.pos b (Ev.done ?_)
        unfold joinI
        rw [firstI_some i h0 (by omega) (by rw [a, b]; rfl) h]
      · exact Ev.neg b (next (by rw [Bool.eq_false_iff.2 b, Bool.and_false]))
    · exact Ev.neg a (next (by rw [Bool.eq_false_iff.2 a, Bool.false_and]))
theorem l3Join_ev {t : List Int} (h : sysB t = true) {p q : Int} (hp : In91 p) (hq : In91 q) (hne : p ≠ q) : Ev (fun k => spec_l3Join.f k t p q) (joinI t p q) :=
  l3Join_loop (sysB_parts h).1 hp hq (join_ex h hp.1 hp.2 hq.1 hq.2 hne) 91 0 (by omega) (by omega) (fun l h0 h1 => by omega)
end Go.Proofs.Ytcbkoecanldlpaa.X

set_option linter.unusedVariables false
set_option linter.unusedSimpArgs false
namespace Go.Proofs.Ytcbkoecanldlpaa.X
open Go.RowKit Go.Proofs.YtcbkoecanldlpaaW.PrintWords Go.Proofs.YtcbkoecanldlpaaW.PrintLast Go.Proofs.Ytcbkoecanldlpaa.P

def pjoinR (t : List Int) (p q : Int) : Int × Bool := if jokB t p q = true then (joinI t p q, true) else (0, false)
theorem planeJoin_ev {t : List Int} (ht : t.length ≤ 1048576) (p q : Int) : Ev (fun k => spec_PlaneJoin.f k t p q) (pjoinR t p q) := by
  unfold spec_PlaneJoin.f pjoinR
  refine Ev.bind (SystemIn_ev t ht) ?_
  by_cases hs : sysB t = true
  case neg => rw [if_neg (fun h => hs (jokB_iff.1 h).1)]; exact Ev.neg hs (Ev.done rfl)
  refine Ev.pos hs (Ev.fix (l3In_eq p) ?_)
  by_cases hp : ptB p = true
  case neg => rw [if_neg (fun h => hp (ptB_iff.2 (jokB_iff.1 h).2.1))]; exact Ev.neg hp (Ev.done rfl)
  refine Ev.pos hp (Ev.fix (l3In_eq q) ?_)
  by_cases hq : ptB q = true
  case neg => rw [if_neg (fun h => hq (ptB_iff.2 (jokB_iff.1 h).2.2.1))]; exact Ev.neg hq (Ev.done rfl)
  refine Ev.pos hq ?_
  by_cases e : p = q
  case pos => rw [if_neg (fun h => (jokB_iff.1 h).2.2.2 e)]; exact Ev.pos e (Ev.done rfl)
  rw [if_pos (jokB_iff.2 ⟨hs, ptB_iff.1 hp, ptB_iff.1 hq, e⟩)]
  exact Ev.neg e (Ev.bind (l3Join_ev hs (ptB_iff.1 hp) (ptB_iff.1 hq) e) (Ev.done rfl))
theorem on_ev {s : List Int} (hs : RdS s) {p : Int} (h0 : 0 ≤ p) (h1 : p ≤ 1099511000000) {t : List Int} (ht : sysB t = true) {l : Int} (hl : In91 l) : ∃ v q, (p ≤ q ∧ q ≤ p + 1) ∧ Ev (fun k => spec_l91On.f k s p t l) (v, q) := by
  have h2 := pointsL_two ht hl.1 hl.2
  have h3 : (pointsL t l).length ≤ 91 := filI_length_le _ _
  obtain ⟨a, ha, ea⟩ := pick_ev hs h0 (by omega) (n := ((pointsL t l).length : Int)) (by omega) (by omega)
  refine ⟨rd (pointsL t l) a, p + 1, by omega, ?_⟩
  unfold spec_l91On.f
  exact Ev.bind (l3Points_ev (sysB_parts ht).1 hl) (Ev.neg (by omega) (Ev.bind ea (Ev.pos ha.1 (Ev.pos ha.2 (Ev.done rfl)))))
theorem dtwin_l0 {s : List Int} (hs : RdS s) {t : List Int} (ht : t.length ≤ 1048576) (d : Nat) : ∀ (i p : Int) (l : List Int), 1 ≤ i → i + d = 4 → 0 ≤ p → p ≤ 1099510000000 + 4 * i → (l.length : Int) = i + 3 → ∃ l', l'.length = 7 ∧ Ev (fun k => spec_l91Twin.l0 k t l i s p) (t, l') := by
  induction d with
  | zero =>
    intro i p l i0 i1 p0 p1 hl
    refine ⟨l, by omega, ?_⟩
    refine Ev.step (fun k => by rw [spec_l91Twin.l0]) ?_
    exact Ev.neg (by omega) (Ev.done rfl)
  | succ d ih =>
    intro i p l i0 i1 p0 p1 hl
    have pre : ∀ r, Ev (fun k => (spec_PlaneJoin.f k t (rd l 0) (rd l i)).bind fun bt669 => ((spec_l6Rd_pick.f k s p 91).bind fun bt671 => (if bt669.2 = true then ((spec_l6Rd_pick.f k s bt671.2 20).bind fun bt673 => (if bt673.1 > 0 then ((spec_l91On.f k s bt673.2 t bt669.1).bind fun bt675 => (if l.length < 17592186044416 then (spec_l91Twin.l0 k t (l ++ [bt675.1]) (i + 1) s bt675.2) else (none))) else (if l.length < 17592186044416 then (spec_l91Twin.l0 k t (l ++ [bt671.1]) (i + 1) s bt673.2) else (none)))) else (if l.length < 17592186044416 then (spec_l91Twin.l0 k t (l ++ [bt671.1]) (i + 1) s bt671.2) else (none))))) r → Ev (fun k => spec_l91Twin.l0 k t l i s p) r := by
      intro r h
      refine Ev.step (fun k => by rw [spec_l91Twin.l0]) ?_
      rw [w64 (x := i + 1) (by omega) (by omega)]
      exact Ev.pos (by omega) (Ev.pos (by omega) (Ev.pos (by omega) (Ev.pos (by omega) h)))
    obtain ⟨a, ha, ea⟩ := pick_ev hs p0 (by omega) (n := 91) (by omega) (by omega)
    obtain ⟨b, hb, eb⟩ := pick_ev hs (p := p + 1) (by omega) (by omega) (n := 20) (by omega) (by omega)
    have hj := planeJoin_ev ht (rd l 0) (rd l i)
    unfold pjoinR at hj
    have hlen : ∀ v : Int, (((l ++ [v]).length : Nat) : Int) = i + 1 + 3 := fun v => by rw [List.length_append, List.length_singleton]; omega
    by_cases c : jokB t (rd l 0) (rd l i) = true
    case neg =>
      rw [if_neg c] at hj
      obtain ⟨l', h7, h⟩ := ih (i + 1) (p + 1) (l ++ [a]) (by omega) (by omega) (by omega) (by omega) (hlen a)
      exact ⟨l', h7, pre _ (Ev.bind hj (Ev.bind ea (Ev.neg (by decide) (Ev.pos (by omega) h))))⟩
    rw [if_pos c] at hj
    have c := jokB_iff.1 c
    by_cases e : b > 0
    · have hjs := joinI_spec c.1 c.2.1.1 c.2.1.2 c.2.2.1.1 c.2.2.1.2 c.2.2.2
      obtain ⟨v, q, hq, eo⟩ := on_ev hs (p := p + 1 + 1) (by omega) (by omega) c.1 (l := joinI t (rd l 0) (rd l i)) ⟨hjs.1, hjs.2.1⟩
      obtain ⟨l', h7, h⟩ := ih (i + 1) q (l ++ [v]) (by omega) (by omega) (by omega) (by omega) (hlen v)
      exact ⟨l', h7, pre _ (Ev.bind hj (Ev.bind ea (Ev.pos rfl (Ev.bind eb (Ev.pos e (Ev.bind eo (Ev.pos (by omega) h)))))))⟩
    · obtain ⟨l', h7, h⟩ := ih (i + 1) (p + 1 + 1) (l ++ [a]) (by omega) (by omega) (by omega) (by omega) (hlen a)
      exact ⟨l', h7, pre _ (Ev.bind hj (Ev.bind ea (Ev.pos rfl (Ev.bind eb (Ev.neg e (Ev.pos (by omega) h))))))⟩
theorem dtwin_ev (l0 : List Int) (hu : ∀ x ∈ l0, (Lit.int .u8 x).wf = true) : ∃ t x, DrawnT t ∧ x.length = 7 ∧ Ev (fun k => spec_l91Twin.f k l0) (t, x) := by
  obtain ⟨s, hs, eo⟩ := open_ev l0 hu
  obtain ⟨t, q, ht, hq, et⟩ := system_ev hs (p := 0) (by omega) (by omega)
  obtain ⟨l, q1, hl, _, hq1, el⟩ := quad_ev hs (p := q) (by omega) (by omega)
  obtain ⟨a, ha, ea⟩ := pick_ev hs (p := q1) (by omega) (by omega) (n := 4) (by omega) (by omega)
  obtain ⟨b, hb, eb⟩ := pick_ev hs (p := q1 + 1) (by omega) (by omega) (n := 10) (by omega) (by omega)
  have htl := ht.len
  by_cases e : a = 0
  · obtain ⟨x, hx, hev⟩ := dtwin_l0 hs (t := t) (by omega) 3 1 (q1 + 1 + 1) (l.set (0 : Int).toNat (81 + b)) (by omega) (by omega) (by omega) (by omega) (by rw [List.length_set]; omega)
    refine ⟨t, x, ht, hx, ?_⟩
    unfold spec_l91Twin.f
    refine Ev.fix eo (Ev.bind et (Ev.bind el (Ev.bind ea (Ev.pos e (Ev.bind eb (Ev.pos (by dsimp only; omega) ?_))))))
    dsimp only
    rw [w64 (x := 81 + b) (by omega) (by omega)]
    refine Ev.step (fun k => by rw [spec_l91Twin.j0]) ?_
    exact hev
  · obtain ⟨x, hx, hev⟩ := dtwin_l0 hs (t := t) (by omega) 3 1 (q1 + 1) l (by omega) (by omega) (by omega) (by omega) (by omega)
    refine ⟨t, x, ht, hx, ?_⟩
    unfold spec_l91Twin.f
    refine Ev.fix eo (Ev.bind et (Ev.bind el (Ev.bind ea (Ev.neg e ?_))))
    refine Ev.step (fun k => by rw [spec_l91Twin.j0]) ?_
    exact hev
end Go.Proofs.Ytcbkoecanldlpaa.X

set_option linter.unusedVariables false
set_option linter.unusedSimpArgs false
namespace Go.Proofs.Ytcbkoecanldlpaa.X
open Go.RowKit Go.Proofs.YtcbkoecanldlpaaW.PrintWords

def threeB (t : List Int) (p q r : Int) : Bool := onB t r (joinI t p q)
def crossI (t : List Int) (p q r s : Int) : Int := meetI t (joinI t p q) (joinI t r s)
def closeB (t : List Int) (p q r : Int) : Bool := decide (p = q) || (decide (p = r) || (decide (q = r) || threeB t p q r))
def lnI (t x : List Int) (i : Int) : Int := joinI t (rd x 0) (rd x i)
def twinC (t x : List Int) : Bool := onB t (rd x 4) (lnI t x 1) && (onB t (rd x 5) (lnI t x 2) && onB t (rd x 6) (lnI t x 3))
def twinD (t x : List Int) : Bool := !decide (lnI t x 1 = lnI t x 2) && (!decide (lnI t x 1 = lnI t x 3) && !decide (lnI t x 2 = lnI t x 3))
def twinE (t x : List Int) : Bool := !threeB t (rd x 1) (rd x 2) (rd x 3) && !threeB t (rd x 4) (rd x 5) (rd x 6)
def twinB (t x : List Int) : Bool := sysB t && (decide (x.length = 7) && (diffB x && (twinC t x && (twinD t x && twinE t x))))
def twinP (t x : List Int) : List Int := [crossI t (rd x 1) (rd x 2) (rd x 4) (rd x 5), crossI t (rd x 1) (rd x 3) (rd x 4) (rd x 6), crossI t (rd x 2) (rd x 3) (rd x 5) (rd x 6)]
def twinK (t x : List Int) : Bool := closeB t (crossI t (rd x 1) (rd x 2) (rd x 4) (rd x 5)) (crossI t (rd x 1) (rd x 3) (rd x 4) (rd x 6)) (crossI t (rd x 2) (rd x 3) (rd x 5) (rd x 6))
structure Twin (t x : List Int) : Prop where
  sys : sysB t = true
  len : x.length = 7
  df : diffB x = true
  c : ∀ i : Int, 1 ≤ i → i ≤ 3 → onB t (rd x (i + 3)) (lnI t x i) = true
  d : ∀ i j : Int, 1 ≤ i → i < j → j ≤ 3 → lnI t x i ≠ lnI t x j
  e1 : threeB t (rd x 1) (rd x 2) (rd x 3) = false
  e2 : threeB t (rd x 4) (rd x 5) (rd x 6) = false
theorem twinB_iff {t x : List Int} : twinB t x = true ↔ Twin t x := by
  unfold twinB twinC twinD twinE
  simp only [Bool.and_eq_true, Bool.not_eq_true', decide_eq_true_eq, decide_eq_false_iff_not]
  constructor
  · rintro ⟨h1, h2, h3, ⟨h4, h5, h6⟩, ⟨h7, h8, h9⟩, h10, h11⟩
    refine ⟨h1, h2, h3, fun i i0 i1 => ?_, fun i j i0 ij j1 => ?_, h10, h11⟩
    · have : i = 1 ∨ i = 2 ∨ i = 3 := by omega
      rcases this with rfl | rfl | rfl
      · exact h4
      · exact h5
      · exact h6
    · have : (i = 1 ∧ j = 2) ∨ (i = 1 ∧ j = 3) ∨ (i = 2 ∧ j = 3) := by omega
      rcases this with ⟨rfl, rfl⟩ | ⟨rfl, rfl⟩ | ⟨rfl, rfl⟩
      · exact h7
      · exact h8
      · exact h9
  · intro T
    exact ⟨T.sys, T.len, T.df, ⟨T.c 1 (by omega) (by omega), T.c 2 (by omega) (by omega), T.c 3 (by omega) (by omega)⟩, ⟨T.d 1 2 (by omega) (by omega) (by omega), T.d 1 3 (by omega) (by omega) (by omega), T.d 2 3 (by omega) (by omega) (by omega)⟩, T.e1, T.e2⟩
namespace Twin
variable {t x : List Int} (T : Twin t x)
include T
theorem pt {i : Int} (i0 : 0 ≤ i) (i1 : i < 7) : In91 (rd x i) := diffB_pt T.df i0 (by have := T.len; omega)
theorem ne {i j : Int} (i0 : 0 ≤ i) (i1 : i < 7) (j0 : 0 ≤ j) (j1 : j < 7) (h : i ≠ j) : rd x i ≠ rd x j := fun e => h (diffB_inj T.df i0 (by have := T.len; omega) j0 (by have := T.len; omega) e)
theorem ln {i : Int} (i0 : 1 ≤ i) (i1 : i < 7) : In91 (lnI t x i) ∧ onB t (rd x 0) (lnI t x i) = true ∧ onB t (rd x i) (lnI t x i) = true := by
  have a := T.pt (i := 0) (by omega) (by omega)
  have b := T.pt (i := i) (by omega) i1
  have h := joinI_spec T.sys a.1 a.2 b.1 b.2 (T.ne (by omega) (by omega) (by omega) i1 (by omega))
  exact ⟨⟨h.1, h.2.1⟩, h.2.2.1, h.2.2.2⟩
theorem jn {i j : Int} (i0 : 0 ≤ i) (i1 : i < 7) (j0 : 0 ≤ j) (j1 : j < 7) (h : i ≠ j) : In91 (joinI t (rd x i) (rd x j)) ∧ onB t (rd x i) (joinI t (rd x i) (rd x j)) = true ∧ onB t (rd x j) (joinI t (rd x i) (rd x j)) = true := by
  have a := T.pt i0 i1
  have b := T.pt j0 j1
  have h := joinI_spec T.sys a.1 a.2 b.1 b.2 (T.ne i0 i1 j0 j1 h)
  exact ⟨⟨h.1, h.2.1⟩, h.2.2.1, h.2.2.2⟩
theorem ln2 {i : Int} (i0 : 1 ≤ i) (i1 : i ≤ 3) : lnI t x (i + 3) = lnI t x i := by
  have a := T.pt (i := 0) (by omega) (by omega)
  have b := T.pt (i := i + 3) (by omega) (by omega)
  obtain ⟨l, h1, h2⟩ := T.ln i0 (by omega)
  exact joinI_eq T.sys a.1 a.2 b.1 b.2 (T.ne (by omega) (by omega) (by omega) (by omega) (by omega)) l.1 l.2 h1 (T.c i i0 i1)
theorem apart {i j : Int} (i0 : 1 ≤ i) (ij : i < j) (j1 : j ≤ 3) : joinI t (rd x i) (rd x j) ≠ joinI t (rd x (i + 3)) (rd x (j + 3)) := by
  intro e
  obtain ⟨l, h1, h2⟩ := T.jn (i := i) (j := j) (by omega) (by omega) (by omega) (by omega) (by omega)
  obtain ⟨_, h3, h4⟩ := T.jn (i := i + 3) (j := j + 3) (by omega) (by omega) (by omega) (by omega) (by omega)
  rw [← e] at h3 h4
  have key : ∀ k : Int, 1 ≤ k → k ≤ 3 → onB t (rd x k) (joinI t (rd x i) (rd x j)) = true → onB t (rd x (k + 3)) (joinI t (rd x i) (rd x j)) = true → joinI t (rd x i) (rd x j) = lnI t x k := by
    intro k k0 k1 a b
    obtain ⟨m, g1, g2⟩ := T.ln k0 (by omega)
    have p := T.pt (i := k) (by omega) (by omega)
    have q := T.pt (i := k + 3) (by omega) (by omega)
    exact join_uniq T.sys p.1 p.2 q.1 q.2 (T.ne (by omega) (by omega) (by omega) (by omega) (by omega)) l.1 l.2 m.1 m.2 a b g2 (T.c k k0 k1)
  exact T.d i j i0 ij j1 ((key i i0 (by omega) h1 h3).symm.trans (key j (by omega) j1 h2 h4))
theorem cr {i j : Int} (i0 : 1 ≤ i) (ij : i < j) (j1 : j ≤ 3) : In91 (crossI t (rd x i) (rd x j) (rd x (i + 3)) (rd x (j + 3))) ∧ onB t (crossI t (rd x i) (rd x j) (rd x (i + 3)) (rd x (j + 3))) (joinI t (rd x i) (rd x j)) = true ∧ onB t (crossI t (rd x i) (rd x j) (rd x (i + 3)) (rd x (j + 3))) (joinI t (rd x (i + 3)) (rd x (j + 3))) = true := by
  have a := (T.jn (i := i) (j := j) (by omega) (by omega) (by omega) (by omega) (by omega)).1
  have b := (T.jn (i := i + 3) (j := j + 3) (by omega) (by omega) (by omega) (by omega) (by omega)).1
  have h := meetI_spec T.sys a.1 a.2 b.1 b.2 (T.apart i0 ij j1)
  exact ⟨⟨h.1, h.2.1⟩, h.2.2⟩
end Twin
def swapL (x : List Int) : List Int := [rd x 0, rd x 4, rd x 5, rd x 6, rd x 1, rd x 2, rd x 3]
def swapI (i : Int) : Int := if i = 0 then 0 else if i < 4 then i + 3 else i - 3
theorem swapL_rd (x : List Int) {i : Int} (i0 : 0 ≤ i) (i1 : i < 7) : rd (swapL x) i = rd x (swapI i) := by
  have : i = 0 ∨ i = 1 ∨ i = 2 ∨ i = 3 ∨ i = 4 ∨ i = 5 ∨ i = 6 := by omega
  rcases this with rfl | rfl | rfl | rfl | rfl | rfl | rfl <;> rfl
theorem swapI_in {i : Int} (i0 : 0 ≤ i) (i1 : i < 7) : 0 ≤ swapI i ∧ swapI i < 7 := by unfold swapI; split <;> (try split) <;> omega
theorem swapI_ne {i j : Int} (i0 : 0 ≤ i) (ij : i < j) (j1 : j < 7) : swapI i ≠ swapI j := by unfold swapI; split <;> split <;> (try split) <;> (try split) <;> omega
theorem Twin.swap {t x : List Int} (T : Twin t x) : Twin t (swapL x) := by
  have hl : ∀ i : Int, 1 ≤ i → i ≤ 3 → lnI t (swapL x) i = lnI t x i := fun i i0 i1 => by
    have h := T.ln2 i0 i1
    unfold lnI at h ⊢
    rw [swapL_rd x (i := i) (by omega) (by omega), show rd (swapL x) 0 = rd x 0 from rfl]
    have : swapI i = i + 3 := by unfold swapI; rw [if_neg (by omega), if_pos (by omega)]
    rw [this, h]
  refine ⟨T.sys, rfl, ?_, fun i i0 i1 => ?_, fun i j i0 ij j1 => ?_, T.e2, T.e1⟩
  · refine diffB_of (fun i i0 i1 => ?_) fun i j i0 ij j1 => ?_
    · have i1 : i < 7 := i1
      rw [swapL_rd x i0 i1]
      have := swapI_in i0 i1
      exact T.pt this.1 this.2
    · have j1 : j < 7 := j1
      rw [swapL_rd x i0 (by omega), swapL_rd x (by omega) j1]
      have a := swapI_in i0 (by omega)
      have b := swapI_in (i := j) (by omega) j1
      exact T.ne a.1 a.2 b.1 b.2 (swapI_ne i0 ij j1)
  · rw [hl i i0 i1, swapL_rd x (i := i + 3) (by omega) (by omega)]
    have : swapI (i + 3) = i := by unfold swapI; rw [if_neg (by omega), if_neg (by omega)]; omega
    rw [this]
    exact (T.ln i0 (by omega)).2.2
  · rw [hl i i0 (by omega), hl j (by omega) j1]
    exact T.d i j i0 ij j1
theorem crossI_comm (t : List Int) (p q r s : Int) : crossI t p q r s = crossI t r s p q := meetI_comm _ _ _
theorem twinK_swap (t x : List Int) : twinK t (swapL x) = twinK t x := by
  unfold twinK
  show closeB t (crossI t (rd x 4) (rd x 5) (rd x 1) (rd x 2)) (crossI t (rd x 4) (rd x 6) (rd x 1) (rd x 3)) (crossI t (rd x 5) (rd x 6) (rd x 2) (rd x 3)) = _
  rw [crossI_comm t (rd x 4) (rd x 5), crossI_comm t (rd x 4) (rd x 6), crossI_comm t (rd x 5) (rd x 6)]
end Go.Proofs.Ytcbkoecanldlpaa.X

set_option linter.unusedVariables false
set_option linter.unusedSimpArgs false
namespace Go.Proofs.Ytcbkoecanldlpaa.X
open Go.RowKit Go.Proofs.YtcbkoecanldlpaaW.PrintWords Go.Proofs.YtcbkoecanldlpaaW.PrintLast Go.Proofs.Ytcbkoecanldlpaa.P

theorem l3Meet_loop {t : List Int} (hn : ninesB t 81 = true) {l m : Int} (hl : In91 l) (hm : In91 m) (hj : ∃ p : Int, 0 ≤ p ∧ p < 91 ∧ onB t p l = true ∧ onB t p m = true) (d : Nat) : ∀ (i : Int), 0 ≤ i → i + d = 91 → (∀ p : Int, 0 ≤ p → p < i → (onB t p l && onB t p m) = false) → Ev (fun k => spec_l3Meet.l0 k t l m i) (meetI t l m) := by
  induction d with
  | zero =>
    intro i h0 h1 h
    obtain ⟨p, p0, p1, a, b⟩ := hj
    have := h p p0 (by omega)
    rw [a, b] at this; exact absurd this (by decide)
  | succ d ih =>
    intro i h0 h1 h
    have e1 := l3On_eq hn (p := i) ⟨h0, by omega⟩ hl
    have e2 := l3On_eq hn (p := i) ⟨h0, by omega⟩ hm
    refine Ev.step (fun k => by rw [spec_l3Meet.l0]) ?_
    simp (disch := omega) only [w64, e1, e2, Option.bind_some]
    refine Ev.pos (by omega) ?_
    have next : (onB t i l && onB t i m) = false → Ev (fun k => spec_l3Meet.l0 k t l m (i + 1)) (meetI t l m) := fun hb => ih (i + 1) (by omega) (by omega) fun p p0 p1 => by
      by_cases e : p = i
      · rw [e]; exact hb
      · exact h p p0 (by omega)
    by_cases a : onB t i l = true
    · refine Ev.pos a ?_
      by_cases b : onB t i m = true
      · refine Ev.pos b (Ev.done ?_)
        unfold meetI
        rw [firstI_some i h0 (by omega) (by rw [a, b]; rfl) h]
      · exact Ev.neg b (next (by rw [Bool.eq_false_iff.2 b, Bool.and_false]))
    · exact Ev.neg a (next (by rw [Bool.eq_false_iff.2 a, Bool.false_and]))
theorem l3Meet_ev {t : List Int} (h : sysB t = true) {l m : Int} (hl : In91 l) (hm : In91 m) (hne : l ≠ m) : Ev (fun k => spec_l3Meet.f k t l m) (meetI t l m) :=
  l3Meet_loop (sysB_parts h).1 hl hm (meet_ex h hl.1 hl.2 hm.1 hm.2 hne) 91 0 (by omega) (by omega) (fun p h0 h1 => by omega)
end Go.Proofs.Ytcbkoecanldlpaa.X

set_option linter.unusedVariables false
set_option linter.unusedSimpArgs false
namespace Go.Proofs.Ytcbkoecanldlpaa.X
open Go.RowKit Go.Proofs.YtcbkoecanldlpaaW.PrintWords Go.Proofs.YtcbkoecanldlpaaW.PrintLast Go.Proofs.Ytcbkoecanldlpaa.P

theorem meet_loop {t : List Int} (hn : ninesB t 81 = true) {l m : Int} (hl : In91 l) (hm : In91 m) (d : Nat) : ∀ (i : Int), 0 ≤ i → i + d = 91 → (∀ p : Int, 0 ≤ p → p < i → (onB t p l && onB t p m) = false) → Ev (fun k => impl_plane_meet.l0 k t l m i) (meetI t l m) := by
  induction d with
  | zero =>
    intro i h0 h1 h
    refine Ev.step (fun k => by rw [impl_plane_meet.l0]) ?_
    refine Ev.neg (by omega) (Ev.done ?_)
    unfold meetI
    rw [firstI_none fun p p0 p1 => h p p0 (by omega)]
  | succ d ih =>
    intro i h0 h1 h
    have e1 := plane_on_eq hn (p := i) ⟨h0, by omega⟩ hl
    have e2 := plane_on_eq hn (p := i) ⟨h0, by omega⟩ hm
    refine Ev.step (fun k => by rw [impl_plane_meet.l0]) ?_
    simp (disch := omega) only [w64, e1, e2, Option.bind_some]
    refine Ev.pos (by omega) ?_
    have next : (onB t i l && onB t i m) = false → Ev (fun k => impl_plane_meet.l0 k t l m (i + 1)) (meetI t l m) := fun hb => ih (i + 1) (by omega) (by omega) fun p p0 p1 => by
      by_cases e : p = i
      · rw [e]; exact hb
      · exact h p p0 (by omega)
    by_cases a : onB t i l = true
    · refine Ev.pos a ?_
      by_cases b : onB t i m = true
      · refine Ev.pos b (Ev.done ?_)
        unfold meetI
        rw [firstI_some i h0 (by omega) (by rw [a, b]; rfl) h]
      · exact Ev.neg b (next (by rw [Bool.eq_false_iff.2 b, Bool.and_false]))
    · exact Ev.neg a (next (by rw [Bool.eq_false_iff.2 a, Bool.false_and]))
theorem meet_ev {t : List Int} (hn : ninesB t 81 = true) {l m : Int} (hl : In91 l) (hm : In91 m) : Ev (fun k => impl_plane_meet.f k t l m) (meetI t l m) :=
  meet_loop hn hl hm 91 0 (by omega) (by omega) (fun p h0 h1 => by omega)
end Go.Proofs.Ytcbkoecanldlpaa.X

set_option linter.unusedVariables false
set_option linter.unusedSimpArgs false
namespace Go.Proofs.Ytcbkoecanldlpaa.X
open Go.RowKit Go.Proofs.YtcbkoecanldlpaaW.PrintWords Go.Proofs.YtcbkoecanldlpaaW.PrintLast Go.Proofs.Ytcbkoecanldlpaa.P

theorem crossing_ev {t : List Int} (hs : sysB t = true) {p q r s : Int} (hp : In91 p) (hq : In91 q) (hr : In91 r) (hz : In91 s) (h1 : p ≠ q) (h2 : r ≠ s) : Ev (fun k => impl_plane_crossing.f k t p q r s) (crossI t p q r s) := by
  have hn := (sysB_parts hs).1
  have a := joinI_spec hs hp.1 hp.2 hq.1 hq.2 h1
  have b := joinI_spec hs hr.1 hr.2 hz.1 hz.2 h2
  unfold impl_plane_crossing.f
  exact Ev.bind (join_ev hn hp hq) (Ev.bind (join_ev hn hr hz) (Ev.bind (meet_ev hn ⟨a.1, a.2.1⟩ ⟨b.1, b.2.1⟩) (Ev.done rfl)))
end Go.Proofs.Ytcbkoecanldlpaa.X

namespace Go.Proofs.Ytcbkoecanldlpaa.P
open Go.RowKit Go.Proofs.YtcbkoecanldlpaaW.PrintWords Go.Proofs.YtcbkoecanldlpaaW.PrintLast Go.Proofs.YtcbkoecanldlpaaW.PrintMore
set_option linter.unusedVariables false
set_option linter.unusedSimpArgs false

def impl_TwinPoints.f (k : Nat) (l0 : List Int) (l1 : List Int) : Option (List Int × Bool) := (impl_isSystem.f l0).bind fun t323 => (if t323 = true then ((impl_plane_isTwin.f k l0 l1).bind fun t324 => (if t324 = true then ((impl_plane_twinPoints.f k l0 l1).bind fun t325 => (some (t325, true))) else (some (([] : List Int), false)))) else (some (([] : List Int), false)))
set_option maxHeartbeats 8000000 in
set_option maxRecDepth 100000 in
theorem impl_TwinPoints.calls (k : Nat) (A0 : Option Addr) (c0 : Nat) (l0 : List Int) (A1 : Option Addr) (c1 : Nat) (l1 : List Int) (r1 : List Int) (r2 : Bool) (w : World) (hr0 : Kd.C (Kd.int .i64) w A0 l0.length l0) (hc0 : l0.length ≤ c0) (hr1 : Kd.C (Kd.int .i64) w A1 l1.length l1) (hc1 : l1.length ≤ c1) (h : impl_TwinPoints.f k l0 l1 = some (r1, r2)) :
  Calls Try.prog 18 #[.slice A0 l0.length c0, .slice A1 l1.length c1] w fun e w' => ∃ v0_ : Value, e = .returned (.tuple #[v0_, .bool r2]) ∧ Kd.R (Kd.int .i64) 3 w' w.heap.size (fun _ => True) v0_ r1 ∧ Below w.heap.size w w' := by
 have HR0 := Aside0.mk hr0
 have HC0 := Aside0.mk hc0
 clear hr0 hc0
 have HR1 := Aside0.mk hr1
 have HC1 := Aside0.mk hc1
 clear hr1 hc1
 have HB := Aside0.mk (Below.refl w.heap.size w)
 have H : ((impl_isSystem.f l0).bind fun t323 => (if t323 = true then ((impl_plane_isTwin.f k l0 l1).bind fun t324 => (if t324 = true then ((impl_plane_twinPoints.f k l0 l1).bind fun t325 => (some (t325, true))) else (some (([] : List Int), false)))) else (some (([] : List Int), false)))) = some (r1, r2) := h
 clear h
 replace H := Option.bind_eq_some_iff.mp H
 obtain ⟨t323, A30, H⟩ := H
 replace H : (if t323 = true then ((impl_plane_isTwin.f k l0 l1).bind fun t324 => (if t324 = true then ((impl_plane_twinPoints.f k l0 l1).bind fun t325 => (some (t325, true))) else (some (([] : List Int), false)))) else (some (([] : List Int), false))) = some (r1, r2) := H
 have A3 := Aside0.mk A30
 clear A30
 by_cases c4 : t323 = true
 ·subst c4
  have H1 : ((impl_plane_isTwin.f k l0 l1).bind fun t324 => (if t324 = true then ((impl_plane_twinPoints.f k l0 l1).bind fun t325 => (some (t325, true))) else (some (([] : List Int), false)))) = some (r1, r2) := by rw [if_pos rfl] at H; exact H
  clear H
  have H := H1
  clear H1
  replace H := Option.bind_eq_some_iff.mp H
  obtain ⟨t324, A50, H⟩ := H
  replace H : (if t324 = true then ((impl_plane_twinPoints.f k l0 l1).bind fun t325 => (some (t325, true))) else (some (([] : List Int), false))) = some (r1, r2) := H
  have A5 := Aside0.mk A50
  clear A50
  by_cases c6 : t324 = true
  ·subst c6
   have H1 : ((impl_plane_twinPoints.f k l0 l1).bind fun t325 => (some (t325, true))) = some (r1, r2) := by rw [if_pos rfl] at H; exact H
   clear H
   have H := H1
   clear H1
   replace H := Option.bind_eq_some_iff.mp H
   obtain ⟨t325, A70, H⟩ := H
   replace H : (some (t325, true)) = some (r1, r2) := H
   have A7 := Aside0.mk A70
   clear A70
   simp only [Option.some.injEq, Prod.mk.injEq] at H
   obtain ⟨rfl, rfl⟩ := H
   go_enter Try.func18, Try.ntmps18
   go_wp2_with (first | (refine goesL_ (some 7) rfl rfl Try.func61 (by kernel_rfl) rfl #[.slice A0 l0.length c0] rfl ll_ ?_; (with_reducible refine (impl_isSystem.calls _ _ l0 true _ ?side1 ?side2 A3.out).mono ?_); (case side1 => exact ss_ HR0); (case side2 => exact HC0.out); rintro e w8 ⟨rfl, hb⟩; refine ⟨_, rfl, ?_⟩; have n0_ := Aside0.mk (below_step (bb_ HB) hb); clear HB; have HB := n0_; clear n0_; (try clear hb); (try clear hb2); (try clear hk); (try clear hi)) | (go_at_call 62; (with_reducible refine (impl_plane_isTwin.calls k _ _ l0 _ _ l1 true _ ?side1 ?side2 ?side3 ?side4 A5.out).mono ?_); (case side1 => exact sb_ HR0 HB); (case side2 => exact HC0.out); (case side3 => exact sb_ HR1 HB); (case side4 => exact HC1.out); rintro e w9 ⟨rfl, hb⟩; have n0_ := Aside0.mk (below_step (bb_ HB) hb); clear HB; have HB := n0_; clear n0_; (try clear hb); (try clear hb2); (try clear hk); (try clear hi)) | (refine goesL_ (some 17) rfl rfl Try.func67 (by kernel_rfl) rfl #[.slice A0 l0.length c0, .slice A1 l1.length c1] rfl ll_ ?_; (with_reducible refine (impl_plane_twinPoints.calls k _ _ l0 _ _ l1 t325 _ ?side1 ?side2 ?side3 ?side4 A7.out).mono ?_); (case side1 => exact sb_ HR0 HB); (case side2 => exact HC0.out); (case side3 => exact sb_ HR1 HB); (case side4 => exact HC1.out); rintro e w10 ⟨v326, rfl, ho0, hb⟩; refine ⟨_, rfl, ?_⟩; have n0_ := Aside0.mk (Kd.R_lower ho0 (below_size (bb_ HB))); have n1_ := Aside0.mk (below_step (bb_ HB) hb); clear HB; have HO327 := n0_; have HB := n1_; clear n0_ n1_; (try clear hb); (try clear hb2); (try clear hk); (try clear hi); (try clear ho0)))
   go_ret2
   exact ⟨_, ee_, by (with_reducible repeat (first | apply Kd.R_alloc | apply Kd.R_drewN | apply Kd.R_drew)); exact HO327.out, bb_ HB⟩
  ·replace c6 := Bool.eq_false_iff.mpr c6
   subst c6
   have H1 : (some (([] : List Int), false)) = some (r1, r2) := by rw [if_neg (show ¬ (false = true) by decide)] at H; exact H
   clear H
   have H := H1
   clear H1
   simp only [Option.some.injEq, Prod.mk.injEq] at H
   obtain ⟨rfl, rfl⟩ := H
   go_enter Try.func18, Try.ntmps18
   go_wp2_with (first | (refine goesL_ (some 7) rfl rfl Try.func61 (by kernel_rfl) rfl #[.slice A0 l0.length c0] rfl ll_ ?_; (with_reducible refine (impl_isSystem.calls _ _ l0 true _ ?side1 ?side2 A3.out).mono ?_); (case side1 => exact ss_ HR0); (case side2 => exact HC0.out); rintro e w11 ⟨rfl, hb⟩; refine ⟨_, rfl, ?_⟩; have n0_ := Aside0.mk (below_step (bb_ HB) hb); clear HB; have HB := n0_; clear n0_; (try clear hb); (try clear hb2); (try clear hk); (try clear hi)) | (go_at_call 62; (with_reducible refine (impl_plane_isTwin.calls k _ _ l0 _ _ l1 false _ ?side1 ?side2 ?side3 ?side4 A5.out).mono ?_); (case side1 => exact sb_ HR0 HB); (case side2 => exact HC0.out); (case side3 => exact sb_ HR1 HB); (case side4 => exact HC1.out); rintro e w12 ⟨rfl, hb⟩; have n0_ := Aside0.mk (below_step (bb_ HB) hb); clear HB; have HB := n0_; clear n0_; (try clear hb); (try clear hb2); (try clear hk); (try clear hi)))
   go_ret2
   exact ⟨_, ee_, by first | exact Kd.R_nil _ _ _ _ _ | exact Kd.N_nil _ _ _ _ _ | exact Kd.V_nil _ _ _ _ _ | exact Kd.Q_nil _ _ _ _ _ | exact Kd.S_nil _ _ _ _ _, bb_ HB⟩
 ·replace c4 := Bool.eq_false_iff.mpr c4
  subst c4
  have H1 : (some (([] : List Int), false)) = some (r1, r2) := by rw [if_neg (show ¬ (false = true) by decide)] at H; exact H
  clear H
  have H := H1
  clear H1
  simp only [Option.some.injEq, Prod.mk.injEq] at H
  obtain ⟨rfl, rfl⟩ := H
  go_enter Try.func18, Try.ntmps18
  go_wp2_with (first | (refine goesL_ (some 7) rfl rfl Try.func61 (by kernel_rfl) rfl #[.slice A0 l0.length c0] rfl ll_ ?_; (with_reducible refine (impl_isSystem.calls _ _ l0 false _ ?side1 ?side2 A3.out).mono ?_); (case side1 => exact ss_ HR0); (case side2 => exact HC0.out); rintro e w13 ⟨rfl, hb⟩; refine ⟨_, rfl, ?_⟩; have n0_ := Aside0.mk (below_step (bb_ HB) hb); clear HB; have HB := n0_; clear n0_; (try clear hb); (try clear hb2); (try clear hk); (try clear hi)))
  go_ret2
  exact ⟨_, ee_, by first | exact Kd.R_nil _ _ _ _ _ | exact Kd.N_nil _ _ _ _ _ | exact Kd.V_nil _ _ _ _ _ | exact Kd.Q_nil _ _ _ _ _ | exact Kd.S_nil _ _ _ _ _, bb_ HB⟩
end Go.Proofs.Ytcbkoecanldlpaa.P

set_option linter.unusedVariables false
set_option linter.unusedSimpArgs false
namespace Go.Proofs.Ytcbkoecanldlpaa.X
open Go.RowKit Go.Proofs.YtcbkoecanldlpaaW.PrintWords Go.Proofs.YtcbkoecanldlpaaW.PrintLast Go.Proofs.Ytcbkoecanldlpaa.P

theorem w13 : wrap64 (1 + 3) = 4 := w64 (by omega) (by omega)
theorem w11 : wrap64 (1 + 1) = 2 := w64 (by omega) (by omega)
theorem w23 : wrap64 (2 + 3) = 5 := w64 (by omega) (by omega)
theorem w21 : wrap64 (2 + 1) = 3 := w64 (by omega) (by omega)
theorem w33 : wrap64 (3 + 3) = 6 := w64 (by omega) (by omega)
theorem w31 : wrap64 (3 + 1) = 4 := w64 (by omega) (by omega)
theorem three_ev {t : List Int} (hs : sysB t = true) {p q r : Int} (hp : In91 p) (hq : In91 q) (hr : In91 r) (hne : p ≠ q) : Ev (fun k => impl_plane_three.f k t p q r) (threeB t p q r) := by
  have hj := joinI_spec hs hp.1 hp.2 hq.1 hq.2 hne
  unfold impl_plane_three.f
  exact Ev.bind (join_ev (sysB_parts hs).1 hp hq) (Ev.fix (plane_on_eq (sysB_parts hs).1 hr ⟨hj.1, hj.2.1⟩) (Ev.done rfl))
theorem sthree_ev {t : List Int} (hs : sysB t = true) {p q r : Int} (hp : In91 p) (hq : In91 q) (hr : In91 r) (hne : p ≠ q) : Ev (fun k => spec_l3Three.f k t p q r) (threeB t p q r) := by
  have hj := joinI_spec hs hp.1 hp.2 hq.1 hq.2 hne
  unfold spec_l3Three.f
  exact Ev.bind (l3Join_ev hs hp hq hne) (Ev.fix (l3On_eq (sysB_parts hs).1 hr ⟨hj.1, hj.2.1⟩) (Ev.done rfl))
theorem isTwin_ev {t x : List Int} (hs : sysB t = true) (hx : x.length ≤ 1048576) : Ev (fun k => impl_plane_isTwin.f k t x) (twinB t x) := by
  unfold impl_plane_isTwin.f
  have hn := (sysB_parts hs).1
  have no : ∀ r, r = false → Ev (fun k => impl_plane_isTwin.j0 k t x true) r := fun r hr => by
    refine Ev.step (fun k => by rw [impl_plane_isTwin.j0]) ?_
    exact Ev.pos rfl (Ev.done (by rw [hr]))
  by_cases h7 : x.length = 7
  case neg => exact Ev.neg (by omega) (no _ (by unfold twinB; rw [decide_eq_false h7]; simp))
  refine Ev.pos (by omega) (Ev.fix (show impl_areDifferent.f x = some (diffB x) from if_pos hx) ?_)
  by_cases hd : diffB x = true
  case neg => exact Ev.neg hd (no _ (by unfold twinB; rw [Bool.eq_false_iff.2 hd]; simp))
  have P := fun (i : Int) (i0 : 0 ≤ i) (i1 : i < 7) => diffB_pt hd (i := i) i0 (by omega)
  have N := fun (i j : Int) (i0 : 0 ≤ i) (ij : i < j) (j1 : j < 7) => diffB_ne hd (i := i) (j := j) i0 ij (by omega)
  have P0 := P 0 (by omega) (by omega)
  have P1 := P 1 (by omega) (by omega)
  have P2 := P 2 (by omega) (by omega)
  have P3 := P 3 (by omega) (by omega)
  have P4 := P 4 (by omega) (by omega)
  have P5 := P 5 (by omega) (by omega)
  have P6 := P 6 (by omega) (by omega)
  have hln : ∀ i : Int, 1 ≤ i → i < 7 → In91 (joinI t (rd x 0) (rd x i)) := fun i i0 i1 => by
    have h := joinI_spec hs P0.1 P0.2 (P i (by omega) i1).1 (P i (by omega) i1).2 (N 0 i (by omega) (by omega) i1)
    exact ⟨h.1, h.2.1⟩
  have et : twinB t x = (twinC t x && (twinD t x && twinE t x)) := by unfold twinB; rw [hs, decide_eq_true h7, hd]; rfl
  refine Ev.pos hd (Ev.pos (by omega) (Ev.pos (by omega) (Ev.pos (by omega) (Ev.bind (three_ev hs P1 P2 P3 (N 1 2 (by omega) (by omega) (by omega))) ?_))))
  by_cases e1 : threeB t (rd x 1) (rd x 2) (rd x 3) = true
  case pos => exact Ev.pos e1 (no _ (by rw [et]; unfold twinE; rw [e1]; simp))
  refine Ev.neg e1 (Ev.pos (by omega) (Ev.pos (by omega) (Ev.pos (by omega) (Ev.bind (three_ev hs P4 P5 P6 (N 4 5 (by omega) (by omega) (by omega))) ?_))))
  by_cases e2 : threeB t (rd x 4) (rd x 5) (rd x 6) = true
  case pos => rw [e2]; exact no _ (by rw [et]; unfold twinE; rw [e2]; simp)
  have e1 := Bool.eq_false_iff.2 e1
  have e2 := Bool.eq_false_iff.2 e2
  have eE : twinE t x = true := by unfold twinE; rw [e1, e2]; rfl
  rw [e2]
  refine Ev.step (fun k => by rw [impl_plane_isTwin.j0]) ?_
  refine Ev.neg (by decide) ?_
  refine Ev.step (fun k => by rw [impl_plane_isTwin.l0]) ?_
  rw [w13, w11]
  refine Ev.pos (by omega) (Ev.pos (by omega) (Ev.pos (by omega) (Ev.pos (by omega) (Ev.bind (join_ev hn P0 P1) (Ev.pos (by decide) (Ev.pos (by rw [h7]; decide) (Ev.fix (plane_on_eq hn P4 (hln 1 (by omega) (by omega))) ?_)))))))
  by_cases c1 : onB t (rd x 4) (joinI t (rd x 0) (rd x 1)) = true
  case neg => exact Ev.neg c1 (Ev.done (by rw [et]; unfold twinC lnI; rw [Bool.eq_false_iff.2 c1]; rfl))
  refine Ev.pos c1 (Ev.bind (contains_ev [] (by simp) _) (Ev.neg (by simp) (Ev.pos (by simp) ?_)))
  refine Ev.step (fun k => by rw [impl_plane_isTwin.l0]) ?_
  rw [w23, w21]
  refine Ev.pos (by decide) (Ev.pos (by omega) (Ev.pos (by decide) (Ev.pos (by rw [h7]; decide) (Ev.bind (join_ev hn P0 P2) (Ev.pos (by decide) (Ev.pos (by rw [h7]; decide) (Ev.fix (plane_on_eq hn P5 (hln 2 (by omega) (by omega))) ?_)))))))
  by_cases c2 : onB t (rd x 5) (joinI t (rd x 0) (rd x 2)) = true
  case neg => exact Ev.neg c2 (Ev.done (by rw [et]; unfold twinC lnI; rw [Bool.eq_false_iff.2 c2]; simp))
  refine Ev.pos c2 (Ev.bind (contains_ev _ (by simp) _) ?_)
  by_cases d1 : joinI t (rd x 0) (rd x 1) = joinI t (rd x 0) (rd x 2)
  case pos => exact Ev.pos (by simp [d1]) (Ev.done (by rw [et]; unfold twinD lnI; rw [decide_eq_true d1]; simp))
  refine Ev.neg (by simp; exact fun h => d1 h.symm) (Ev.pos (by simp) ?_)
  refine Ev.step (fun k => by rw [impl_plane_isTwin.l0]) ?_
  rw [w33, w31]
  refine Ev.pos (by decide) (Ev.pos (by omega) (Ev.pos (by decide) (Ev.pos (by rw [h7]; decide) (Ev.bind (join_ev hn P0 P3) (Ev.pos (by decide) (Ev.pos (by rw [h7]; decide) (Ev.fix (plane_on_eq hn P6 (hln 3 (by omega) (by omega))) ?_)))))))
  by_cases c3 : onB t (rd x 6) (joinI t (rd x 0) (rd x 3)) = true
  case neg => exact Ev.neg c3 (Ev.done (by rw [et]; unfold twinC lnI; rw [Bool.eq_false_iff.2 c3]; simp))
  refine Ev.pos c3 (Ev.bind (contains_ev _ (by simp) _) ?_)
  by_cases d2 : joinI t (rd x 0) (rd x 1) = joinI t (rd x 0) (rd x 3)
  case pos => exact Ev.pos (by simp [d2]) (Ev.done (by rw [et]; unfold twinD lnI; rw [decide_eq_true d2]; simp))
  by_cases d3 : joinI t (rd x 0) (rd x 2) = joinI t (rd x 0) (rd x 3)
  case pos => exact Ev.pos (by simp [d3]) (Ev.done (by rw [et]; unfold twinD lnI; rw [decide_eq_true d3]; simp))
  refine Ev.neg (by simp; exact ⟨fun h => d2 h.symm, fun h => d3 h.symm⟩) (Ev.pos (by simp) ?_)
  refine Ev.step (fun k => by rw [impl_plane_isTwin.l0]) ?_
  refine Ev.neg (by decide) (Ev.done ?_)
  rw [et, eE]
  unfold twinC twinD lnI
  rw [c1, c2, c3, decide_eq_false d1, decide_eq_false d2, decide_eq_false d3]; rfl
theorem l4Diff_l1 {l : List Int} (hl : l.length ≤ 1048576) {i : Int} (i0 : 0 ≤ i) (i1 : i < l.length) {r : Bool} (hr : (∀ j : Int, 0 ≤ j → j < i → rd l j ≠ rd l i) → Ev (fun n => spec_l4Different.l0 n l (i + 1)) r) (hf : ∀ j : Int, 0 ≤ j → j < i → rd l j = rd l i → r = false) (d : Nat) :
    ∀ j : Int, 0 ≤ j → j + d = i → (∀ y : Int, 0 ≤ y → y < j → rd l y ≠ rd l i) → Ev (fun n => spec_l4Different.l1 n l i j) r := by
  induction d with
  | zero =>
    intro j j0 j1 h
    refine Ev.step (fun n => by rw [spec_l4Different.l1]) ?_
    rw [w64 (x := i + 1) (by omega) (by omega)]
    exact Ev.neg (by omega) (hr fun y y0 y1 => h y y0 (by omega))
  | succ d ih =>
    intro j j0 j1 h
    refine Ev.step (fun n => by rw [spec_l4Different.l1]) ?_
    rw [w64 (x := j + 1) (by omega) (by omega)]
    refine Ev.pos (by omega) (Ev.pos (by omega) (Ev.pos (by omega) (Ev.pos (by omega) (Ev.pos (by omega) ?_))))
    by_cases e : rd l j = rd l i
    · exact Ev.pos e (Ev.done (by rw [hf j j0 (by omega) e]))
    · refine Ev.neg e (ih (j + 1) (by omega) (by omega) fun y y0 y1 => ?_)
      by_cases ey : y = j
      · rw [ey]; exact e
      · exact h y y0 (by omega)
theorem l4Diff_l0 {l : List Int} (hl : l.length ≤ 1048576) (d : Nat) : ∀ i : Int, 0 ≤ i → i + d = l.length → (∀ x : Int, 0 ≤ x → x < i → newB l x = true) → Ev (fun n => spec_l4Different.l0 n l i) (diffB l) := by
  induction d with
  | zero =>
    intro i i0 i1 h
    refine Ev.step (fun n => by rw [spec_l4Different.l0]) ?_
    exact Ev.neg (by omega) (Ev.done (by rw [diffB_all fun x x0 x1 => h x x0 (by omega)]))
  | succ d ih =>
    intro i i0 i1 h
    refine Ev.step (fun n => by rw [spec_l4Different.l0]) ?_
    refine Ev.pos (by omega) (Ev.pos i0 (Ev.fix (l3In_eq (rd l i)) ?_))
    by_cases e : ptB (rd l i) = true
    case neg => exact Ev.neg e (Ev.done (by rw [diffB_hit i0 (by omega) (by unfold newB; rw [Bool.eq_false_iff.2 e]; rfl)]))
    refine Ev.pos e (l4Diff_l1 hl i0 (by omega) (fun hp => ih (i + 1) (by omega) (by omega) fun x x0 x1 => ?_) (fun j j0 ji he => ?_) i.toNat 0 (by omega) (by omega) (fun y y0 y1 => by omega))
    · by_cases ex : x = i
      · rw [ex]; exact (newB_iff i0 (by omega)).2 ⟨ptB_iff.1 e, hp⟩
      · exact h x x0 (by omega)
    · exact diffB_hit i0 (by omega) (Bool.eq_false_iff.2 fun hn => ((newB_iff i0 (by omega)).1 hn).2 j j0 ji he)
theorem l4Diff_ev {l : List Int} (hl : l.length ≤ 1048576) : Ev (fun n => spec_l4Different.f n l) (diffB l) := l4Diff_l0 hl l.length 0 (by omega) (by omega) (fun x x0 x1 => by omega)
theorem specTwin_ev {t x : List Int} (ht : t.length ≤ 1048576) (hx : x.length ≤ 1048576) : Ev (fun k => spec_TwinIn.f k t x) (twinB t x) := by
  unfold spec_TwinIn.f
  have no : ∀ r, r = false → Ev (fun k => spec_TwinIn.j0 k t x true) r := fun r hr => by
    refine Ev.step (fun k => by rw [spec_TwinIn.j0]) ?_
    exact Ev.pos rfl (Ev.done (by rw [hr]))
  refine Ev.bind (SystemIn_ev t ht) ?_
  by_cases hs : sysB t = true
  case neg => exact Ev.neg hs (no _ (by unfold twinB; rw [Bool.eq_false_iff.2 hs]; rfl))
  have hn := (sysB_parts hs).1
  refine Ev.pos hs ?_
  by_cases h7 : x.length = 7
  case neg => exact Ev.neg (by omega) (no _ (by unfold twinB; rw [decide_eq_false h7]; simp))
  refine Ev.pos (by omega) (Ev.bind (l4Diff_ev hx) ?_)
  by_cases hd : diffB x = true
  case neg => rw [Bool.eq_false_iff.2 hd]; exact no _ (by unfold twinB; rw [Bool.eq_false_iff.2 hd]; simp)
  have P := fun (i : Int) (i0 : 0 ≤ i) (i1 : i < 7) => diffB_pt hd (i := i) i0 (by omega)
  have N := fun (i j : Int) (i0 : 0 ≤ i) (ij : i < j) (j1 : j < 7) => diffB_ne hd (i := i) (j := j) i0 ij (by omega)
  have P0 := P 0 (by omega) (by omega)
  have P1 := P 1 (by omega) (by omega)
  have P2 := P 2 (by omega) (by omega)
  have P3 := P 3 (by omega) (by omega)
  have P4 := P 4 (by omega) (by omega)
  have P5 := P 5 (by omega) (by omega)
  have P6 := P 6 (by omega) (by omega)
  have N1 := N 0 1 (by omega) (by omega) (by omega)
  have N2 := N 0 2 (by omega) (by omega) (by omega)
  have N3 := N 0 3 (by omega) (by omega) (by omega)
  have et : twinB t x = (twinC t x && (twinD t x && twinE t x)) := by unfold twinB; rw [hs, decide_eq_true h7, hd]; rfl
  rw [hd]
  refine Ev.step (fun k => by rw [spec_TwinIn.j0]) ?_
  refine Ev.neg (by decide) ?_
  refine Ev.step (fun k => by rw [spec_TwinIn.l0]) ?_
  rw [w13, w11]
  refine Ev.pos (by omega) (Ev.pos (by omega) (Ev.pos (by omega) (Ev.pos (by omega) (Ev.pos (by decide) (Ev.pos (by rw [h7]; decide) (Ev.bind (sthree_ev hs P0 P1 P4 N1) ?_))))))
  by_cases c1 : threeB t (rd x 0) (rd x 1) (rd x 4) = true
  case neg =>
    refine Ev.neg c1 (Ev.done ?_)
    rw [et]; unfold threeB at c1; unfold twinC lnI; rw [Bool.eq_false_iff.2 c1]; rfl
  refine Ev.pos c1 ?_
  refine Ev.step (fun k => by rw [spec_TwinIn.l0]) ?_
  rw [w23, w21]
  refine Ev.pos (by decide) (Ev.pos (by omega) (Ev.pos (by decide) (Ev.pos (by rw [h7]; decide) (Ev.pos (by decide) (Ev.pos (by rw [h7]; decide) (Ev.bind (sthree_ev hs P0 P2 P5 N2) ?_))))))
  by_cases c2 : threeB t (rd x 0) (rd x 2) (rd x 5) = true
  case neg =>
    refine Ev.neg c2 (Ev.done ?_)
    rw [et]; unfold threeB at c2; unfold twinC lnI; rw [Bool.eq_false_iff.2 c2]; simp
  refine Ev.pos c2 ?_
  refine Ev.step (fun k => by rw [spec_TwinIn.l0]) ?_
  rw [w33, w31]
  refine Ev.pos (by decide) (Ev.pos (by omega) (Ev.pos (by decide) (Ev.pos (by rw [h7]; decide) (Ev.pos (by decide) (Ev.pos (by rw [h7]; decide) (Ev.bind (sthree_ev hs P0 P3 P6 N3) ?_))))))
  by_cases c3 : threeB t (rd x 0) (rd x 3) (rd x 6) = true
  case neg =>
    refine Ev.neg c3 (Ev.done ?_)
    rw [et]; unfold threeB at c3; unfold twinC lnI; rw [Bool.eq_false_iff.2 c3]; simp
  refine Ev.pos c3 ?_
  refine Ev.step (fun k => by rw [spec_TwinIn.l0]) ?_
  refine Ev.neg (by decide) (Ev.pos (by omega) (Ev.pos (by omega) (Ev.bind (l3Join_ev hs P0 P1 N1) (Ev.pos (by omega) (Ev.bind (l3Join_ev hs P0 P2 N2) (Ev.pos (by omega) (Ev.bind (l3Join_ev hs P0 P3 N3) ?_)))))))
  by_cases d1 : joinI t (rd x 0) (rd x 1) = joinI t (rd x 0) (rd x 2)
  case pos => exact Ev.pos d1 (Ev.done (by rw [et]; unfold twinD lnI; rw [decide_eq_true d1]; simp))
  by_cases d2 : joinI t (rd x 0) (rd x 1) = joinI t (rd x 0) (rd x 3)
  case pos => exact Ev.neg d1 (Ev.pos d2 (Ev.done (by rw [et]; unfold twinD lnI; rw [decide_eq_true d2]; simp)))
  by_cases d3 : joinI t (rd x 0) (rd x 2) = joinI t (rd x 0) (rd x 3)
  case pos => exact Ev.neg d1 (Ev.neg d2 (Ev.pos d3 (Ev.done (by rw [et]; unfold twinD lnI; rw [decide_eq_true d3]; simp))))
  refine Ev.neg d1 (Ev.neg d2 (Ev.neg d3 (Ev.bind (sthree_ev hs P1 P2 P3 (N 1 2 (by omega) (by omega) (by omega))) ?_)))
  by_cases e1 : threeB t (rd x 1) (rd x 2) (rd x 3) = true
  case pos => exact Ev.pos e1 (Ev.done (by rw [et]; unfold twinE; rw [e1]; simp))
  refine Ev.neg e1 (Ev.pos (by omega) (Ev.pos (by omega) (Ev.pos (by omega) (Ev.bind (sthree_ev hs P4 P5 P6 (N 4 5 (by omega) (by omega) (by omega))) (Ev.done ?_)))))
  have e1 := Bool.eq_false_iff.2 e1
  rw [et]
  unfold threeB at c1 c2 c3
  unfold twinC twinD twinE lnI
  rw [c1, c2, c3, decide_eq_false d1, decide_eq_false d2, decide_eq_false d3, e1]
  simp
theorem implTwin_ev {t x : List Int} (hx : x.length ≤ 1048576) : Ev (fun k => impl_TwinIn.f k t x) (twinB t x) := by
  unfold impl_TwinIn.f
  refine Ev.fix (show impl_isSystem.f t = some (sysB t) from rfl) ?_
  by_cases hs : sysB t = true
  · exact Ev.pos hs (Ev.bind (isTwin_ev hs hx) (Ev.done rfl))
  · refine Ev.neg hs (Ev.done ?_)
    unfold twinB; rw [Bool.eq_false_iff.2 hs]; rfl
theorem cross_ev {t : List Int} (hs : sysB t = true) {p q r s : Int} (hp : In91 p) (hq : In91 q) (hr : In91 r) (hz : In91 s) (h1 : p ≠ q) (h2 : r ≠ s) (h3 : joinI t p q ≠ joinI t r s) : Ev (fun k => spec_l4Cross.f k t p q r s) (crossI t p q r s) := by
  have a := joinI_spec hs hp.1 hp.2 hq.1 hq.2 h1
  have b := joinI_spec hs hr.1 hr.2 hz.1 hz.2 h2
  unfold spec_l4Cross.f
  exact Ev.bind (l3Join_ev hs hp hq h1) (Ev.bind (l3Join_ev hs hr hz h2) (Ev.bind (l3Meet_ev hs ⟨a.1, a.2.1⟩ ⟨b.1, b.2.1⟩ h3) (Ev.done rfl)))
theorem twinPoints_ev {t x : List Int} (T : Twin t x) : Ev (fun k => impl_plane_twinPoints.f k t x) (twinP t x) := by
  have h7 := T.len
  have P := fun (i : Int) (i0 : 0 ≤ i) (i1 : i < 7) => T.pt (i := i) i0 i1
  have N := fun (i j : Int) (i0 : 0 ≤ i) (i1 : i < 7) (j0 : 0 ≤ j) (j1 : j < 7) (h : i ≠ j) => T.ne (i := i) (j := j) i0 i1 j0 j1 h
  have C := fun (a b c d : Int) (a0 : 0 ≤ a) (a1 : a < 7) (b0 : 0 ≤ b) (b1 : b < 7) (c0 : 0 ≤ c) (c1 : c < 7) (d0 : 0 ≤ d) (d1 : d < 7) (h : a ≠ b) (h' : c ≠ d) => crossing_ev T.sys (P a a0 a1) (P b b0 b1) (P c c0 c1) (P d d0 d1) (N a b a0 a1 b0 b1 h) (N c d c0 c1 d0 d1 h')
  unfold impl_plane_twinPoints.f twinP
  refine Ev.pos (by omega) (Ev.pos (by omega) (Ev.pos (by omega) (Ev.pos (by omega) (Ev.bind (C 1 2 4 5 (by omega) (by omega) (by omega) (by omega) (by omega) (by omega) (by omega) (by omega) (by omega) (by omega)) ?_))))
  refine Ev.pos (by omega) (Ev.pos (by omega) (Ev.bind (C 1 3 4 6 (by omega) (by omega) (by omega) (by omega) (by omega) (by omega) (by omega) (by omega) (by omega) (by omega)) ?_))
  exact Ev.bind (C 2 3 5 6 (by omega) (by omega) (by omega) (by omega) (by omega) (by omega) (by omega) (by omega) (by omega) (by omega)) (Ev.done rfl)
theorem l4Twin_ev {t x : List Int} (T : Twin t x) : Ev (fun k => spec_l4Twin.f k t x) (twinP t x) := by
  have h7 := T.len
  have P := fun (i : Int) (i0 : 0 ≤ i) (i1 : i < 7) => T.pt (i := i) i0 i1
  have N := fun (i j : Int) (i0 : 0 ≤ i) (i1 : i < 7) (j0 : 0 ≤ j) (j1 : j < 7) (h : i ≠ j) => T.ne (i := i) (j := j) i0 i1 j0 j1 h
  have C := fun (a b c d : Int) (a0 : 0 ≤ a) (a1 : a < 7) (b0 : 0 ≤ b) (b1 : b < 7) (c0 : 0 ≤ c) (c1 : c < 7) (d0 : 0 ≤ d) (d1 : d < 7) (h : a ≠ b) (h' : c ≠ d) (h3 : joinI t (rd x a) (rd x b) ≠ joinI t (rd x c) (rd x d)) => cross_ev T.sys (P a a0 a1) (P b b0 b1) (P c c0 c1) (P d d0 d1) (N a b a0 a1 b0 b1 h) (N c d c0 c1 d0 d1 h') h3
  unfold spec_l4Twin.f twinP
  refine Ev.pos (by omega) (Ev.pos (by omega) (Ev.pos (by omega) (Ev.pos (by omega) (Ev.bind (C 1 2 4 5 (by omega) (by omega) (by omega) (by omega) (by omega) (by omega) (by omega) (by omega) (by omega) (by omega) (T.apart (i := 1) (j := 2) (by omega) (by omega) (by omega))) ?_))))
  refine Ev.pos (by omega) (Ev.pos (by omega) (Ev.bind (C 1 3 4 6 (by omega) (by omega) (by omega) (by omega) (by omega) (by omega) (by omega) (by omega) (by omega) (by omega) (T.apart (i := 1) (j := 3) (by omega) (by omega) (by omega))) ?_))
  exact Ev.bind (C 2 3 5 6 (by omega) (by omega) (by omega) (by omega) (by omega) (by omega) (by omega) (by omega) (by omega) (by omega) (T.apart (i := 2) (j := 3) (by omega) (by omega) (by omega))) (Ev.done rfl)
def twinR (t x : List Int) : List Int × Bool := if twinB t x = true then (twinP t x, true) else ([], false)
theorem specTwinPoints_ev {t x : List Int} (ht : t.length ≤ 1048576) (hx : x.length ≤ 1048576) : Ev (fun k => spec_TwinPoints.f k t x) (twinR t x) := by
  unfold spec_TwinPoints.f twinR
  refine Ev.bind (specTwin_ev ht hx) ?_
  by_cases h : twinB t x = true
  · rw [if_pos h]
    exact Ev.pos h (Ev.bind (l4Twin_ev (twinB_iff.1 h)) (Ev.done rfl))
  · rw [if_neg h]
    exact Ev.neg h (Ev.done rfl)
theorem closes_ev {t : List Int} (hs : sysB t = true) {p q r : Int} (hp : In91 p) (hq : In91 q) (hr : In91 r) : Ev (fun k => impl_plane_closes.f k t [p, q, r]) (closeB t p q r) := by
  unfold impl_plane_closes.f closeB
  refine Ev.pos (by simp) (Ev.pos (by simp) ?_)
  show Ev (fun k => if p = q then _ else _) _
  by_cases e1 : p = q
  · rw [decide_eq_true e1]; exact Ev.pos e1 (Ev.done rfl)
  rw [decide_eq_false e1]
  refine Ev.neg e1 (Ev.pos (by simp) ?_)
  show Ev (fun k => if p = r then _ else _) _
  by_cases e2 : p = r
  · rw [decide_eq_true e2]; exact Ev.pos e2 (Ev.done rfl)
  rw [decide_eq_false e2]
  refine Ev.neg e2 ?_
  show Ev (fun k => if q = r then _ else _) _
  by_cases e3 : q = r
  · rw [decide_eq_true e3]; exact Ev.pos e3 (Ev.done rfl)
  rw [decide_eq_false e3]
  refine Ev.neg e3 ?_
  show Ev (fun k => (impl_plane_three.f k t p q r).bind fun t => some t) _
  exact Ev.bind (three_ev hs hp hq hr e1) (Ev.done (by simp))
theorem implTwinCloses_ev {t x : List Int} (hx : x.length ≤ 1048576) : Ev (fun k => impl_TwinCloses.f k t x) (twinB t x && twinK t x) := by
  unfold impl_TwinCloses.f
  refine Ev.fix (show impl_isSystem.f t = some (sysB t) from rfl) ?_
  by_cases hs : sysB t = true
  case neg =>
    have : twinB t x = false := by unfold twinB; rw [Bool.eq_false_iff.2 hs]; rfl
    rw [this]
    exact Ev.neg hs (Ev.done rfl)
  refine Ev.pos hs (Ev.bind (isTwin_ev hs hx) ?_)
  by_cases h : twinB t x = true
  case neg => rw [Bool.eq_false_iff.2 h]; exact Ev.neg (by decide) (Ev.done rfl)
  have T := twinB_iff.1 h
  rw [h, Bool.true_and]
  refine Ev.pos rfl (Ev.bind (twinPoints_ev T) ?_)
  exact Ev.bind (closes_ev hs (T.cr (i := 1) (j := 2) (by omega) (by omega) (by omega)).1 (T.cr (i := 1) (j := 3) (by omega) (by omega) (by omega)).1 (T.cr (i := 2) (j := 3) (by omega) (by omega) (by omega)).1) (Ev.done rfl)
theorem l4Row_ev {t : List Int} (hs : sysB t = true) {p q r : Int} (hp : In91 p) (hq : In91 q) (hr : In91 r) : Ev (fun k => spec_l4Row.f k t p q r) (closeB t p q r) := by
  unfold spec_l4Row.f closeB
  by_cases e1 : p = q
  · rw [decide_eq_true e1]; exact Ev.pos e1 (Ev.done rfl)
  rw [decide_eq_false e1]
  refine Ev.neg e1 ?_
  by_cases e2 : p = r
  · rw [decide_eq_true e2]; exact Ev.pos e2 (Ev.done rfl)
  rw [decide_eq_false e2]
  refine Ev.neg e2 ?_
  by_cases e3 : q = r
  · rw [decide_eq_true e3]; exact Ev.pos e3 (Ev.done rfl)
  rw [decide_eq_false e3]
  exact Ev.neg e3 (Ev.bind (sthree_ev hs hp hq hr e1) (Ev.done (by simp)))
theorem specTwinCloses_ev {t x : List Int} (ht : t.length ≤ 1048576) (hx : x.length ≤ 1048576) : Ev (fun k => spec_TwinCloses.f k t x) (twinB t x && twinK t x) := by
  unfold spec_TwinCloses.f
  refine Ev.bind (specTwinPoints_ev ht hx) ?_
  unfold twinR
  by_cases h : twinB t x = true
  case neg => rw [if_neg h, Bool.eq_false_iff.2 h]; exact Ev.neg (by decide) (Ev.done rfl)
  have T := twinB_iff.1 h
  rw [if_pos h, h, Bool.true_and]
  refine Ev.pos rfl (Ev.pos (by unfold twinP; simp) (Ev.pos (by unfold twinP; simp) (Ev.pos (by unfold twinP; simp) ?_)))
  exact Ev.bind (l4Row_ev T.sys (T.cr (i := 1) (j := 2) (by omega) (by omega) (by omega)).1 (T.cr (i := 1) (j := 3) (by omega) (by omega) (by omega)).1 (T.cr (i := 2) (j := 3) (by omega) (by omega) (by omega)).1) (Ev.done rfl)
end Go.Proofs.Ytcbkoecanldlpaa.X

set_option linter.unusedVariables false
set_option linter.unusedSimpArgs false
namespace Go.Proofs.Ytcbkoecanldlpaa.Pure
open Go.RowKit Go.Proofs.Ytcbkoecanldlpaa.P Go.Proofs.YtcbkoecanldlpaaW.PrintWords Go.Proofs.YtcbkoecanldlpaaW.PrintLast Go.Proofs.Ytcbkoecanldlpaa.X

theorem FnTwinCloses : laws_FnTwinCloses.Pure := by
  intro l0 _ _ hu
  refine Ev.rounds ?_
  unfold laws_FnTwinCloses.f
  by_cases hb : (l0.length : Int) > 1048576
  · exact Ev.pos hb (Ev.done rfl)
  refine Ev.neg hb ?_
  obtain ⟨t, x, ht, hx, e⟩ := dtwin_ev l0 hu
  have htl := ht.len
  refine Ev.bind (Ev.bind e (Ev.done rfl) : Ev (fun k => spec_DrawTwinCloses.f k l0) (t, x)) ?_
  dsimp only
  refine Ev.bind (implTwinCloses_ev (t := t) (x := x) (by omega)) (Ev.bind (specTwinCloses_ev (t := t) (x := x) (by omega) (by omega)) ?_)
  refine Ev.neg (by simp) ?_
  refine Ev.step (fun k => by rw [laws_FnTwinCloses.j0]) ?_
  by_cases h : (twinB t x && twinK t x) = true
  case neg =>
    rw [Bool.eq_false_iff.2 h]
    exact Ev.pos (by decide) (Ev.done rfl)
  obtain ⟨h1, h2⟩ := (Bool.and_eq_true _ _ ▸ h : twinB t x = true ∧ twinK t x = true)
  have T := twinB_iff.1 h1
  refine Ev.neg (by rw [h]; decide) (Ev.pos (by omega) (Ev.pos (by omega) (Ev.pos (by omega) (Ev.pos (by omega) (Ev.pos (by omega) (Ev.pos (by omega) (Ev.pos (by omega) ?_)))))))
  refine Ev.bind (implTwin_ev (t := t) (x := x) (by omega)) (Ev.pos h1 ?_)
  refine Ev.bind (implTwinCloses_ev (t := t) (x := swapL x) (show (7 : Nat) ≤ 1048576 by omega)) (Ev.done ?_)
  rw [twinB_iff.2 T.swap, twinK_swap, h2]; rfl
end Go.Proofs.Ytcbkoecanldlpaa.Pure

namespace Go.Proofs.Ytcbkoecanldlpaa.fnTwinCloses
open Go.ChangeShapes Go.WideShapes Go.ChangeAt Go.RowKit
open Go.ChangeMaps (open_string shut_string)
set_option linter.unusedVariables false
theorem own : ownKnob Try.prog.godebug = none := by kernel_rfl
theorem laidOut : laidOutB Try.prog = true := by kernel_rfl
def IsRow (k : IntKind) (w : World) (a : Option Addr) (len cap : Nat) (zs : List Int) : Prop :=
  (a = none ∧ len = 0 ∧ cap = 0 ∧ zs = []) ∨
  ∃ x, a = some x ∧ len ≤ cap ∧ cap ≤ maxLen ∧ zs.length = cap ∧ (∀ i, i < zs.length → w.cell? (x.add i) = some (.int k (zs.getD i 0))) ∧ ∀ n ∈ zs, (Lit.int k n).wf = true
set_option maxRecDepth 100000 in
theorem lifted (os : Os) (started : os.Started) (H : Type) (enc : TypeId × Value → H) :
    ReturnsInHanded {} Try.checked os 5 .any (Rows.fnTwinClosesSpec.pre6 enc Try.prog Try.f5 Rows.fnTwinClosesRow.domain false) (Rows.fnTwinClosesSpec.post enc Try.prog Try.f5 false true false false) := by
  refine returnsInHanded_of_change_sized (C := Try.checked) own started (by kernel_rfl) Try.func5
    (ChangeSpec.witness6 (enc := enc) (C := Try.checked) false ⟨#[], #[.slice none 0 0], []⟩ 8 (by kernel_rfl) (by kernel_rfl) (by kernel_rfl) (by kernel_rfl)) ?_
  intro W base args ds gs before hval0 hW hcnd hsz0 _
  have hsz : (DataW.weightsEach Try.prog (Try.f5.params.toList ++ Rows.fnTwinClosesSpec.plain.varTypes Try.prog) (ds ++ gs)).all (· ≤ reachBytes) = true := hsz0
  have hval : ∀ (j : Nat) t v, Try.f5.params[j]? = some t → args[j]? = some v → Value.okWide Try.prog W .any base t v := hval0
  have hW' := hW
  obtain ⟨p, q, hA0, hV, rfl, hfz, hnd⟩ := hW
  have hA : DataW.TrodAll enc Try.prog W 0 (fun _ => true) true Try.f5.params.toList args.toList ds p := hA0
  rw [Try.params5] at hA hval hsz
  obtain ⟨v0, vs0, d0, ds0, p0, q0, hargs, rfl, rfl, h0, r0⟩ := trodAll_cons hA
  obtain ⟨rfl, rfl, rfl⟩ := trodAll_nil r0
  obtain rfl : args = #[v0] := by cases args; simp_all
  obtain ⟨rfl, rfl⟩ := trodVars_none hV
  obtain ⟨a0, len0, cap0, rfl⟩ := okWide_slice Try.underlying22 (hval 0 22 v0 rfl rfl)
  have k0 := h0
  have lt0 : ∀ x ∈ p0, x.block < W.heap.size := by obtain ⟨m, hm⟩ := k0; exact DataW.trod_lt m _ _ _ hm
  obtain ⟨z0, w0⟩ : ∃ zs, IsRow .u8 W a0 len0 cap0 zs := by
    obtain ⟨fuel, hf⟩ := h0
    rcases open_ints Try.underlying22 Try.underlying5 (by kernel_rfl) hf with ⟨hcs, _⟩ | ⟨x, l, c, zs, hcs, _, hl, hm, hz, _, hcell, hwz⟩
    · simp [Value.cells] at hcs
      obtain ⟨rfl, rfl, rfl⟩ := hcs
      exact ⟨[], .inl ⟨rfl, rfl, rfl, rfl⟩⟩
    · simp [Value.cells] at hcs
      obtain ⟨rfl, rfl, rfl⟩ := hcs
      exact ⟨zs, .inr ⟨_, rfl, hl, hm, by simpa using hz, hcell, hwz⟩⟩
  have y0 : len0 * 1 ≤ 140737488351232 := Go.Proofs.YtcbkoecanldlpaaW.PrintWords.sized_ints hsz (j := 0) (t := 22) rfl rfl Try.underlying22 Try.underlying5 (by kernel_rfl) (by kernel_rfl) h0
  clear hA0 hval0 hsz0 hsz
  refine (P.laws_FnTwinCloses.walk Pure.FnTwinCloses a0 len0 cap0 z0 W w0 y0).mono fun e W' ⟨he, bel⟩ => ?_
  subst he
  exact ⟨_, rfl, _, _, _, [], _, [], hW', trodAll_mk1 (shut_bool Try.underlying4 _), (trodAll_cons_mk (Below.trod laidOut (by kernel_rfl) (of_decide_eq_true (by kernel_rfl)) k0 bel lt0) trodAll_mk0), rfl, bel.frame _, fun h => by cases h⟩
theorem over : Rows.fnTwinClosesRow.holds Try.pinned (OpenSpec.ofChange Rows.fnTwinClosesSpec) :=
  OpenClaim.holds_of_wide 5 Try.f5 rfl rfl rfl rfl rfl rfl rfl ⟨rfl, rfl, rfl, rfl, rfl⟩ rfl rfl rfl rfl rfl (by kernel_rfl) Try.func5 (by kernel_rfl)
    (of_decide_eq_true (by kernel_rfl)) (by unfold Func.isWrapper; first | (rw [if_pos (by decide +kernel)]; kernel_rfl) | (rw [if_neg (by decide +kernel)]; exact ⟨rfl, rfl⟩))
    (fun os started H enc _ => lifted os started H enc)
theorem proved : Rows.FnTwinClosesSaid := over
#print axioms proved
end Go.Proofs.Ytcbkoecanldlpaa.fnTwinCloses
namespace Go.Proofs.Ytcbkoecanldlpaa
theorem fnTwinCloses_holds : Rows.FnTwinClosesSaid := fnTwinCloses.proved
end Go.Proofs.Ytcbkoecanldlpaa
