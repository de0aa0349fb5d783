/- The law FnTwinCloses of the given program: for every input the call returns true, and each argument reads afterwards as it read before. No conditions. (Part 2 of 4; the last part holds the theorem.) -/
import Derived.Test.YtcbkoecanldlpaaMFnTwinCloses0
import Derived.Test.YtcbkoecanldlpaaWRepsOne
import Derived.Test.YtcbkoecanldlpaaWApart
import Derived.Test.YtcbkoecanldlpaaWKept
import Derived.Test.YtcbkoecanldlpaaWN
namespace Go.Proofs.Ytcbkoecanldlpaa.P
open Go.RowKit Go.Proofs.YtcbkoecanldlpaaW.PrintWords Go.Proofs.YtcbkoecanldlpaaW.PrintLast
set_option linter.unusedVariables false
set_option linter.unusedSimpArgs false

mutual
def impl_plane_isTwin.j0 : Nat → List Int → List Int → Bool → Option (Bool)
 | 0, _, _, _ => none
 | k + 1, x0, x1, x41 => if x41 = true then (some false) else (impl_plane_isTwin.l0 k x0 x1 (([] : List Int)) 1)
def impl_plane_isTwin.l0 : Nat → List Int → List Int → List Int → Int → Option (Bool)
 | 0, _, _, _, _ => none
 | k + 1, x0, x1, x5, x6 => if x6 ≤ 3 then (if 0 < (x1.length : Int) then (if 0 ≤ x6 then (if x6 < (x1.length : Int) then ((impl_plane_join.f k x0 (rd x1 0) (rd x1 x6)).bind fun t262 => (if 0 ≤ (wrap64 (x6 + 3)) then (if (wrap64 (x6 + 3)) < (x1.length : Int) then ((impl_plane_on.f x0 (rd x1 (wrap64 (x6 + 3))) t262).bind fun t264 => (if t264 = true then ((slices_Contains_int_int.f k x5 t262).bind fun t265 => (if t265 = true then (some false) else (if x5.length < 17592186044416 then (impl_plane_isTwin.l0 k x0 x1 (x5 ++ [t262]) (wrap64 (x6 + 1))) else (none)))) else (some false))) else (none)) else (none))) else (none)) else (none)) else (none)) else (some true)
end
def impl_plane_isTwin.f (k : Nat) (l0 : List Int) (l1 : List Int) : Option (Bool) := if (l1.length : Int) = 7 then ((impl_areDifferent.f l1).bind fun t248 => (if t248 = true then (if 1 < (l1.length : Int) then (if 2 < (l1.length : Int) then (if 3 < (l1.length : Int) then ((impl_plane_three.f k l0 (rd l1 1) (rd l1 2) (rd l1 3)).bind fun t252 => (if t252 = true then (impl_plane_isTwin.j0 k l0 l1 true) else (if 4 < (l1.length : Int) then (if 5 < (l1.length : Int) then (if 6 < (l1.length : Int) then ((impl_plane_three.f k l0 (rd l1 4) (rd l1 5) (rd l1 6)).bind fun t256 => (impl_plane_isTwin.j0 k l0 l1 t256)) else (none)) else (none)) else (none)))) else (none)) else (none)) else (none)) else (impl_plane_isTwin.j0 k l0 l1 true))) else (impl_plane_isTwin.j0 k l0 l1 true)
def impl_plane_isTwin.T1 : Bool × List (List Nat × List Nat) := (true, [([], []), ([0], [0]), ([1], [1]), ([2], [2]), ([3], [3]), ([4, 3, 3], [3, 4]), ([5, 3], [3, 5]), ([3, 6], [3, 6]), ([7, 5], [7]), ([8], [8]), ([8], [8]), ([10, 8], [8, 10]), ([11, 8], [8, 11]), ([8], [8]), ([13, 8], [8, 13]), ([14, 8], [8, 14]), ([8], [8]), ([16, 8], [8, 16]), ([17, 8], [8, 17]), ([9, 12, 15, 18, 8, 8], [8, 9, 12, 15, 18]), ([8, 19], [8, 19]), ([20, 19], [20]), ([21], [21]), ([21], [21]), ([23, 21], [21, 23]), ([24, 21], [21, 24]), ([21], [21]), ([26, 21], [21, 26]), ([27, 21], [21, 27]), ([21], [21]), ([29, 21], [21, 29]), ([30, 21], [21, 30]), ([22, 25, 28, 31, 21, 21], [21, 22, 25, 28, 31]), ([21, 32], [21, 32])])
def impl_plane_isTwin.B1 : List Nat := [0, 1, 3, 7, 15, 31, 63, 127, 255, 511, 511, 1535, 3583, 511, 8703, 25087, 511, 66047, 197119, 524287, 1048575, 2097151, 4194303, 4194303, 12582911, 29360127, 4194303, 71303167, 205520895, 4194303, 541065215, 1614807039, 4294967295, 8589934591]
theorem impl_plane_isTwin.tab1 : rtab .any (opsOf Try.f62 1) = impl_plane_isTwin.T1 := by kernel_rfl
theorem impl_plane_isTwin.bits1 : waitsOk impl_plane_isTwin.T1.2 impl_plane_isTwin.B1 = true := by kernel_rfl
def impl_plane_isTwin.T7 : Bool × List (List Nat × List Nat) := (true, [([], []), ([], []), ([1], [1]), ([2], [2]), ([], []), ([], []), ([4, 5], [4, 5]), ([6], [6]), ([0, 3, 7], [0, 3, 7]), ([8, 8, 0, 1, 2, 3, 4, 5, 6, 7, 8], [8])])
def impl_plane_isTwin.B7 : List Nat := [0, 0, 2, 6, 0, 0, 48, 112, 255, 511]
theorem impl_plane_isTwin.tab7 : rtab .any (opsOf Try.f62 7) = impl_plane_isTwin.T7 := by kernel_rfl
theorem impl_plane_isTwin.bits7 : waitsOk impl_plane_isTwin.T7.2 impl_plane_isTwin.B7 = true := by kernel_rfl
set_option maxHeartbeats 8000000 in
set_option maxRecDepth 100000 in
theorem impl_plane_isTwin.calls (k : Nat) (A0 : Option Addr) (c0 : Nat) (l0 : List Int) (A1 : Option Addr) (c1 : Nat) (l1 : List Int) (r : Bool) (w : World) (hr0 : Kd.C (Kd.int .i64) w A0 l0.length l0) (hc0 : l0.length ≤ c0) (hr1 : Kd.C (Kd.int .i64) w A1 l1.length l1) (hc1 : l1.length ≤ c1) (h : impl_plane_isTwin.f k l0 l1 = some r) :
  Calls Try.prog 62 #[.slice A0 l0.length c0, .slice A1 l1.length c1] w fun e w' => e = .returned (.bool r) ∧ Below w.heap.size w w' := by
 have HR0 := Aside0.mk hr0
 have HC0 := Aside0.mk hc0
 clear hr0 hc0
 have HR1 := Aside0.mk hr1
 have HC1 := Aside0.mk hc1
 clear hr1 hc1
 have HB := Aside0.mk (Below.refl w.heap.size w)
 have H : (if (l1.length : Int) = 7 then ((impl_areDifferent.f l1).bind fun t248 => (if t248 = true then (if 1 < (l1.length : Int) then (if 2 < (l1.length : Int) then (if 3 < (l1.length : Int) then ((impl_plane_three.f k l0 (rd l1 1) (rd l1 2) (rd l1 3)).bind fun t252 => (if t252 = true then (impl_plane_isTwin.j0 k l0 l1 true) else (if 4 < (l1.length : Int) then (if 5 < (l1.length : Int) then (if 6 < (l1.length : Int) then ((impl_plane_three.f k l0 (rd l1 4) (rd l1 5) (rd l1 6)).bind fun t256 => (impl_plane_isTwin.j0 k l0 l1 t256)) else (none)) else (none)) else (none)))) else (none)) else (none)) else (none)) else (impl_plane_isTwin.j0 k l0 l1 true))) else (impl_plane_isTwin.j0 k l0 l1 true)) = some r := h
 clear h
 have HC3 := Aside0.mk H
 clear H
 go_enter Try.func62, Try.ntmps62
 go_upto_region 1 with (fail)
 go_cut [41] (fun v41 wc => ∃ (kq : Nat) (x41_2 : Bool), v41 = .bool x41_2 ∧ Aside0 (impl_plane_isTwin.j0 kq l0 l1 x41_2 = some r) ∧ Aside0 (kq ≤ k) ∧ Aside0 (Below w.heap.size w wc))
 case first =>
  have H := HC3.out
  clear HC3
  by_cases c4 : (l1.length : Int) = 7
  ·rw [if_pos c4] at H
   have c4b0 : ((l1.length : Int) == 7) = true := beq_iff_eq.mpr c4
   have c4b1 : ((l1.length : Int) != 7) = false := bne_eq_false_iff_eq.mpr c4
   clear c4
   (first | rw [c4b0] | (simp only [i64_w, i32_w]; rw [c4b0]) | skip)
   replace H := Option.bind_eq_some_iff.mp H
   obtain ⟨t248, A50, H⟩ := H
   replace H : (if t248 = true then (if 1 < (l1.length : Int) then (if 2 < (l1.length : Int) then (if 3 < (l1.length : Int) then ((impl_plane_three.f k l0 (rd l1 1) (rd l1 2) (rd l1 3)).bind fun t252 => (if t252 = true then (impl_plane_isTwin.j0 k l0 l1 true) else (if 4 < (l1.length : Int) then (if 5 < (l1.length : Int) then (if 6 < (l1.length : Int) then ((impl_plane_three.f k l0 (rd l1 4) (rd l1 5) (rd l1 6)).bind fun t256 => (impl_plane_isTwin.j0 k l0 l1 t256)) else (none)) else (none)) else (none)))) else (none)) else (none)) else (none)) else (impl_plane_isTwin.j0 k l0 l1 true)) = some r := H
   have A5 := Aside0.mk A50
   clear A50
   by_cases c6 : t248 = true
   ·subst c6
    have H1 : (if 1 < (l1.length : Int) then (if 2 < (l1.length : Int) then (if 3 < (l1.length : Int) then ((impl_plane_three.f k l0 (rd l1 1) (rd l1 2) (rd l1 3)).bind fun t252 => (if t252 = true then (impl_plane_isTwin.j0 k l0 l1 true) else (if 4 < (l1.length : Int) then (if 5 < (l1.length : Int) then (if 6 < (l1.length : Int) then ((impl_plane_three.f k l0 (rd l1 4) (rd l1 5) (rd l1 6)).bind fun t256 => (impl_plane_isTwin.j0 k l0 l1 t256)) else (none)) else (none)) else (none)))) else (none)) else (none)) else (none)) = some r := by rw [if_pos rfl] at H; exact H
    clear H
    have H := H1
    clear H1
    by_cases c7 : 1 < (l1.length : Int)
    ·rw [if_pos c7] at H
     have c7b0 : decide (1 < (l1.length : Int)) = true := decide_eq_true c7
     have c7b1 : decide (1 < l1.length) = true := decide_eq_true (by omega)
     clear c7
     by_cases c8 : 2 < (l1.length : Int)
     ·rw [if_pos c8] at H
      have c8b0 : decide (2 < (l1.length : Int)) = true := decide_eq_true c8
      have c8b1 : decide (2 < l1.length) = true := decide_eq_true (by omega)
      clear c8
      by_cases c9 : 3 < (l1.length : Int)
      ·rw [if_pos c9] at H
       have c9b0 : decide (3 < (l1.length : Int)) = true := decide_eq_true c9
       have c9b1 : decide (3 < l1.length) = true := decide_eq_true (by omega)
       clear c9
       replace H := Option.bind_eq_some_iff.mp H
       obtain ⟨t252, A100, H⟩ := H
       replace H : (if t252 = true then (impl_plane_isTwin.j0 k l0 l1 true) else (if 4 < (l1.length : Int) then (if 5 < (l1.length : Int) then (if 6 < (l1.length : Int) then ((impl_plane_three.f k l0 (rd l1 4) (rd l1 5) (rd l1 6)).bind fun t256 => (impl_plane_isTwin.j0 k l0 l1 t256)) else (none)) else (none)) else (none))) = some r := H
       have A10 := Aside0.mk A100
       clear A100
       by_cases c11 : t252 = true
       ·subst c11
        have H1 : (impl_plane_isTwin.j0 k l0 l1 true) = some r := by rw [if_pos rfl] at H; exact H
        clear H
        have H := H1
        clear H1
        have H' := Aside0.mk H
        clear H
        try go_wp2
        have n0_ := Aside0.mk (below_drew1 HB.out)
        clear HB
        have HB := n0_
        clear n0_
        have p249 : 0 ≤ (1 : Int) := (by omega)
        have q249 : 1 < (l1.length : Int) := dd_
        obtain ⟨ad249, e249, hx249_0⟩ := Kd.at_int HR1.out 1 p249 q249
        have hw249_0 := hx249_0
        (try rw [show ((1 : Int)).toNat = 1 from rfl] at hw249_0)
        (try rw [show 1 * 1 = 1 from rfl] at hw249_0)
        (try simp only [Nat.reduceMul, Nat.reduceEqDiff, Go.Addr.add, ↓reduceIte] at hw249_0)
        cases e249
        (try simp only [show (1 : Int).toNat = 1 from rfl, Nat.reduceMul, Nat.reduceEqDiff, Go.Addr.add, ↓reduceIte] at hx249_0)
        have qi249 : (1 < l1.length) = True := eq_true (by omega)
        (try rw [show ((1 : Int)).toNat = 1 from rfl] at hx249_0)
        replace hx249_0 := hc_ HB hx249_0
        replace p249 := eq_true p249
        replace q249 := eq_true q249
        have p250 : 0 ≤ (2 : Int) := (by omega)
        have q250 : 2 < (l1.length : Int) := dd_
        obtain ⟨ad250, e250, hx250_0⟩ := Kd.at_int HR1.out 2 p250 q250
        have hw250_0 := hx250_0
        (try rw [show ((2 : Int)).toNat = 2 from rfl] at hw250_0)
        (try rw [show 2 * 1 = 2 from rfl] at hw250_0)
        (try simp only [Nat.reduceMul, Nat.reduceEqDiff, Go.Addr.add, ↓reduceIte] at hw250_0)
        obtain rfl : ad249 = ad250 := (by injection e250)
        (try simp only [show (2 : Int).toNat = 2 from rfl, Nat.reduceMul, Nat.reduceEqDiff, Go.Addr.add, ↓reduceIte] at hx250_0)
        have qi250 : (2 < l1.length) = True := eq_true (by omega)
        (try rw [show ((2 : Int)).toNat = 2 from rfl] at hx250_0)
        replace hx250_0 := hc_ HB hx250_0
        replace p250 := eq_true p250
        replace q250 := eq_true q250
        have p251 : 0 ≤ (3 : Int) := (by omega)
        have q251 : 3 < (l1.length : Int) := dd_
        obtain ⟨ad251, e251, hx251_0⟩ := Kd.at_int HR1.out 3 p251 q251
        have hw251_0 := hx251_0
        (try rw [show ((3 : Int)).toNat = 3 from rfl] at hw251_0)
        (try rw [show 3 * 1 = 3 from rfl] at hw251_0)
        (try simp only [Nat.reduceMul, Nat.reduceEqDiff, Go.Addr.add, ↓reduceIte] at hw251_0)
        obtain rfl : ad249 = ad251 := (by injection e251)
        (try simp only [show (3 : Int).toNat = 3 from rfl, Nat.reduceMul, Nat.reduceEqDiff, Go.Addr.add, ↓reduceIte] at hx251_0)
        have qi251 : (3 < l1.length) = True := eq_true (by omega)
        (try rw [show ((3 : Int)).toNat = 3 from rfl] at hx251_0)
        replace hx251_0 := hc_ HB hx251_0
        replace p251 := eq_true p251
        replace q251 := eq_true q251
        refine start_ (n := 34) (S := fun w' => w'.cell? ⟨ad249.block, ad249.off + 1, none⟩ = some (.int .i64 (rd l1 1)) ∧ w'.cell? ⟨ad249.block, ad249.off + 2, none⟩ = some (.int .i64 (rd l1 2)) ∧ w'.cell? ⟨ad249.block, ad249.off + 3, none⟩ = some (.int .i64 (rd l1 3))) (ds := []) #[F_,F_,F_,F_,F_,F_,F_,F_,F_,F_,F_,F_,F_,F_,F_,F_,F_,F_,F_,F_,F_,F_,F_,F_,F_,F_,F_,F_,F_,F_,F_,F_,F_,F_] (by kernel_rfl) rfl rfl ⟨(hc_ HB hw249_0), (hc_ HB hw250_0), (hc_ HB hw251_0)⟩ (fun hHeld => ?_); refine with_tabW impl_plane_isTwin.tab1 impl_plane_isTwin.bits1 (fun HT_ HW_ => ?_)
        generalize w.drew = w12 at HB hx249_0 hx250_0 hx251_0 hHeld ⊢
        refine p_ 0 8 (m_ 34 1) HT_.out ?_
        refine p_ 1 9 (m_ 34 3) HT_.out ?_
        refine p_ 2 10 (m_ 34 7) HT_.out ?_
        refine p_ 3 11 (m_ 34 15) HT_.out ?_
        refine p_ 4 12 (m_ 34 31) HT_.out ?_
        refine one_ (i := 5) (N := some 13) (m_ 34 63) rfl rfl (one_of HT_.out (by kernel_rfl)) (by decide) (fun K hK => ?_)
        refine goes_ Try.func126 (by kernel_rfl) rfl #[.slice _ l1.length c1] (by rfl) rfl rfl ll_ ?_
        with_reducible refine (impl_areDifferent.calls _ _ l1 true _ ?side1 ?side2 A5.out).mono ?_
        (case side1 => exact sb_ HR1 HB)
        (case side2 => exact HC1.out)
        rintro e w' ⟨rfl, ⟨nd, rfl⟩⟩
        refine ⟨_, rfl, ?_⟩
        refine hK.out _ _ ⟨(hc_ HB hw249_0), (hc_ HB hw250_0), (hc_ HB hw251_0)⟩ (fun hHeld => ?_)
        clear hK K
        refine norm_ (a' := ?_) ?_ ?_; rotate_left; (show Act.put _ (some 13) _ = _; simp only [Act.put, List.setIfInBounds_toArray, List.set_cons_zero, List.set_cons_succ, i64_w, i32_w]; rfl)
        refine p_ 6 14 (m_ 34 127) HT_.out ?_
        refine p_ 7 15 (m_ 34 255) HT_.out ?_
        refine p_ 8 16 (m_ 34 511) HT_.out ?_
        refine p_ 9 17 (m_ 34 1023) HT_.out ?_
        refine p_ 10 18 (m_ 34 2047) HT_.out ?_
        refine p_ 11 19 (m_ 34 4095) HT_.out ?_
        refine p_ 13 21 (m_ 34 12287) HT_.out ?_
        refine p_ 14 22 (m_ 34 28671) HT_.out ?_
        refine p_ 16 24 (m_ 34 94207) HT_.out ?_
        refine p_ 17 25 (m_ 34 225279) HT_.out ?_
        refine t3_ 12 20 (m_ 34 229375) HT_.out HW_.out hHeld ?_
        refine t3_ 15 23 (m_ 34 262143) HT_.out HW_.out hHeld ?_
        refine t3_ 18 26 (m_ 34 524287) HT_.out HW_.out hHeld ?_
        refine one_ (i := 19) (N := some 27) (m_ 34 1048575) rfl rfl (one_of HT_.out (by kernel_rfl)) (by decide) (fun K hK => ?_)
        refine goes_ Try.func127 (by kernel_rfl) rfl #[.slice _ l0.length c0, .int .i64 (rd l1 1), .int .i64 (rd l1 2), .int .i64 (rd l1 3)] (by rfl) rfl rfl ll_ ?_
        with_reducible refine (impl_plane_three.calls k _ _ l0 (rd l1 1) (rd l1 2) (rd l1 3) true _ ?side1 ?side2 A10.out).mono ?_
        (case side1 => repeat (first | exact (Kd.C_below HR0.out (bb_ HB)) | (with_reducible refine Kd.C_alloc ?_ _) | (with_reducible refine Kd.C_drewN ?_ _) | (with_reducible refine Kd.C_drew ?_)))
        (case side2 => exact HC0.out)
        rintro e w' ⟨rfl, ⟨nd, rfl⟩⟩
        refine ⟨_, rfl, ?_⟩
        refine hK.out _ _ ⟨(hc_ HB hw249_0), (hc_ HB hw250_0), (hc_ HB hw251_0)⟩ (fun hHeld => ?_)
        clear hK K
        refine norm_ (a' := ?_) ?_ ?_; rotate_left; (show Act.put _ (some 27) _ = _; simp only [Act.put, List.setIfInBounds_toArray, List.set_cons_zero, List.set_cons_succ, i64_w, i32_w]; rfl)
        refine p_ 20 28 (m_ 34 2097151) HT_.out ?_
        refine p_ 21 29 (m_ 34 4194303) HT_.out ?_
        refine u_ 22 30 (m_ 34 8388607) HT_.out ?_
        refine u_ 23 31 (m_ 34 16777215) HT_.out ?_
        refine u_ 24 32 (m_ 34 33554431) HT_.out ?_
        refine u_ 25 33 (m_ 34 67108863) HT_.out ?_
        refine u_ 26 34 (m_ 34 134217727) HT_.out ?_
        refine u_ 27 35 (m_ 34 268435455) HT_.out ?_
        refine u_ 28 36 (m_ 34 536870911) HT_.out ?_
        refine u_ 29 37 (m_ 34 1073741823) HT_.out ?_
        refine u_ 30 38 (m_ 34 2147483647) HT_.out ?_
        refine u_ 31 39 (m_ 34 4294967295) HT_.out ?_
        refine u_ 32 40 (m_ 34 8589934591) HT_.out ?_
        refine p_ 33 41 (m_ 34 17179869183) HT_.out ?_
        refine done_ (done_of HT_.out (by kernel_rfl)) ?_
        try go_wp2
        go_meet
        case rel => exact ⟨_, (true), (by first | rfl | (simp; done) | (simp [*]; done)), H', ⟨by first | omega | exact Nat.le_refl _⟩, ⟨by repeat (first | (with_reducible first | exact HB.out | apply below_alloc | apply pw_below_drewN | apply below_drew1) | exact HB.out)⟩⟩
       ·replace c11 := Bool.eq_false_iff.mpr c11
        subst c11
        have H1 : (if 4 < (l1.length : Int) then (if 5 < (l1.length : Int) then (if 6 < (l1.length : Int) then ((impl_plane_three.f k l0 (rd l1 4) (rd l1 5) (rd l1 6)).bind fun t256 => (impl_plane_isTwin.j0 k l0 l1 t256)) else (none)) else (none)) else (none)) = some r := by rw [if_neg (show ¬ (false = true) by decide)] at H; exact H
        clear H
        have H := H1
        clear H1
        by_cases c13 : 4 < (l1.length : Int)
        ·rw [if_pos c13] at H
         have c13b0 : decide (4 < (l1.length : Int)) = true := decide_eq_true c13
         have c13b1 : decide (4 < l1.length) = true := decide_eq_true (by omega)
         clear c13
         by_cases c14 : 5 < (l1.length : Int)
         ·rw [if_pos c14] at H
          have c14b0 : decide (5 < (l1.length : Int)) = true := decide_eq_true c14
          have c14b1 : decide (5 < l1.length) = true := decide_eq_true (by omega)
          clear c14
          by_cases c15 : 6 < (l1.length : Int)
          ·rw [if_pos c15] at H
           have c15b0 : decide (6 < (l1.length : Int)) = true := decide_eq_true c15
           have c15b1 : decide (6 < l1.length) = true := decide_eq_true (by omega)
           clear c15
           replace H := Option.bind_eq_some_iff.mp H
           obtain ⟨t256, A160, H⟩ := H
           replace H : (impl_plane_isTwin.j0 k l0 l1 t256) = some r := H
           have A16 := Aside0.mk A160
           clear A160
           have H' := Aside0.mk H
           clear H
           try go_wp2
           have n0_ := Aside0.mk (below_drew1 HB.out)
           clear HB
           have HB := n0_
           clear n0_
           have p249 : 0 ≤ (1 : Int) := (by omega)
           have q249 : 1 < (l1.length : Int) := dd_
           obtain ⟨ad249, e249, hx249_0⟩ := Kd.at_int HR1.out 1 p249 q249
           have hw249_0 := hx249_0
           (try rw [show ((1 : Int)).toNat = 1 from rfl] at hw249_0)
           (try rw [show 1 * 1 = 1 from rfl] at hw249_0)
           (try simp only [Nat.reduceMul, Nat.reduceEqDiff, Go.Addr.add, ↓reduceIte] at hw249_0)
           cases e249
           (try simp only [show (1 : Int).toNat = 1 from rfl, Nat.reduceMul, Nat.reduceEqDiff, Go.Addr.add, ↓reduceIte] at hx249_0)
           have qi249 : (1 < l1.length) = True := eq_true (by omega)
           (try rw [show ((1 : Int)).toNat = 1 from rfl] at hx249_0)
           replace hx249_0 := hc_ HB hx249_0
           replace p249 := eq_true p249
           replace q249 := eq_true q249
           have p250 : 0 ≤ (2 : Int) := (by omega)
           have q250 : 2 < (l1.length : Int) := dd_
           obtain ⟨ad250, e250, hx250_0⟩ := Kd.at_int HR1.out 2 p250 q250
           have hw250_0 := hx250_0
           (try rw [show ((2 : Int)).toNat = 2 from rfl] at hw250_0)
           (try rw [show 2 * 1 = 2 from rfl] at hw250_0)
           (try simp only [Nat.reduceMul, Nat.reduceEqDiff, Go.Addr.add, ↓reduceIte] at hw250_0)
           obtain rfl : ad249 = ad250 := (by injection e250)
           (try simp only [show (2 : Int).toNat = 2 from rfl, Nat.reduceMul, Nat.reduceEqDiff, Go.Addr.add, ↓reduceIte] at hx250_0)
           have qi250 : (2 < l1.length) = True := eq_true (by omega)
           (try rw [show ((2 : Int)).toNat = 2 from rfl] at hx250_0)
           replace hx250_0 := hc_ HB hx250_0
           replace p250 := eq_true p250
           replace q250 := eq_true q250
           have p251 : 0 ≤ (3 : Int) := (by omega)
           have q251 : 3 < (l1.length : Int) := dd_
           obtain ⟨ad251, e251, hx251_0⟩ := Kd.at_int HR1.out 3 p251 q251
           have hw251_0 := hx251_0
           (try rw [show ((3 : Int)).toNat = 3 from rfl] at hw251_0)
           (try rw [show 3 * 1 = 3 from rfl] at hw251_0)
           (try simp only [Nat.reduceMul, Nat.reduceEqDiff, Go.Addr.add, ↓reduceIte] at hw251_0)
           obtain rfl : ad249 = ad251 := (by injection e251)
           (try simp only [show (3 : Int).toNat = 3 from rfl, Nat.reduceMul, Nat.reduceEqDiff, Go.Addr.add, ↓reduceIte] at hx251_0)
           have qi251 : (3 < l1.length) = True := eq_true (by omega)
           (try rw [show ((3 : Int)).toNat = 3 from rfl] at hx251_0)
           replace hx251_0 := hc_ HB hx251_0
           replace p251 := eq_true p251
           replace q251 := eq_true q251
           have p253 : 0 ≤ (4 : Int) := (by omega)
           have q253 : 4 < (l1.length : Int) := dd_
           obtain ⟨ad253, e253, hx253_0⟩ := Kd.at_int HR1.out 4 p253 q253
           have hw253_0 := hx253_0
           (try rw [show ((4 : Int)).toNat = 4 from rfl] at hw253_0)
           (try rw [show 4 * 1 = 4 from rfl] at hw253_0)
           (try simp only [Nat.reduceMul, Nat.reduceEqDiff, Go.Addr.add, ↓reduceIte] at hw253_0)
           obtain rfl : ad249 = ad253 := (by injection e253)
           (try simp only [show (4 : Int).toNat = 4 from rfl, Nat.reduceMul, Nat.reduceEqDiff, Go.Addr.add, ↓reduceIte] at hx253_0)
           have qi253 : (4 < l1.length) = True := eq_true (by omega)
           (try rw [show ((4 : Int)).toNat = 4 from rfl] at hx253_0)
           replace hx253_0 := hc_ HB hx253_0
           replace p253 := eq_true p253
           replace q253 := eq_true q253
           have p254 : 0 ≤ (5 : Int) := (by omega)
           have q254 : 5 < (l1.length : Int) := dd_
           obtain ⟨ad254, e254, hx254_0⟩ := Kd.at_int HR1.out 5 p254 q254
           have hw254_0 := hx254_0
           (try rw [show ((5 : Int)).toNat = 5 from rfl] at hw254_0)
           (try rw [show 5 * 1 = 5 from rfl] at hw254_0)
           (try simp only [Nat.reduceMul, Nat.reduceEqDiff, Go.Addr.add, ↓reduceIte] at hw254_0)
           obtain rfl : ad249 = ad254 := (by injection e254)
           (try simp only [show (5 : Int).toNat = 5 from rfl, Nat.reduceMul, Nat.reduceEqDiff, Go.Addr.add, ↓reduceIte] at hx254_0)
           have qi254 : (5 < l1.length) = True := eq_true (by omega)
           (try rw [show ((5 : Int)).toNat = 5 from rfl] at hx254_0)
           replace hx254_0 := hc_ HB hx254_0
           replace p254 := eq_true p254
           replace q254 := eq_true q254
           have p255 : 0 ≤ (6 : Int) := (by omega)
           have q255 : 6 < (l1.length : Int) := dd_
           obtain ⟨ad255, e255, hx255_0⟩ := Kd.at_int HR1.out 6 p255 q255
           have hw255_0 := hx255_0
           (try rw [show ((6 : Int)).toNat = 6 from rfl] at hw255_0)
           (try rw [show 6 * 1 = 6 from rfl] at hw255_0)
           (try simp only [Nat.reduceMul, Nat.reduceEqDiff, Go.Addr.add, ↓reduceIte] at hw255_0)
           obtain rfl : ad249 = ad255 := (by injection e255)
           (try simp only [show (6 : Int).toNat = 6 from rfl, Nat.reduceMul, Nat.reduceEqDiff, Go.Addr.add, ↓reduceIte] at hx255_0)
           have qi255 : (6 < l1.length) = True := eq_true (by omega)
           (try rw [show ((6 : Int)).toNat = 6 from rfl] at hx255_0)
           replace hx255_0 := hc_ HB hx255_0
           replace p255 := eq_true p255
           replace q255 := eq_true q255
           refine start_ (n := 34) (S := fun w' => w'.cell? ⟨ad249.block, ad249.off + 1, none⟩ = some (.int .i64 (rd l1 1)) ∧ w'.cell? ⟨ad249.block, ad249.off + 2, none⟩ = some (.int .i64 (rd l1 2)) ∧ w'.cell? ⟨ad249.block, ad249.off + 3, none⟩ = some (.int .i64 (rd l1 3)) ∧ w'.cell? ⟨ad249.block, ad249.off + 4, none⟩ = some (.int .i64 (rd l1 4)) ∧ w'.cell? ⟨ad249.block, ad249.off + 5, none⟩ = some (.int .i64 (rd l1 5)) ∧ w'.cell? ⟨ad249.block, ad249.off + 6, none⟩ = some (.int .i64 (rd l1 6))) (ds := []) #[F_,F_,F_,F_,F_,F_,F_,F_,F_,F_,F_,F_,F_,F_,F_,F_,F_,F_,F_,F_,F_,F_,F_,F_,F_,F_,F_,F_,F_,F_,F_,F_,F_,F_] (by kernel_rfl) rfl rfl ⟨(hc_ HB hw249_0), (hc_ HB hw250_0), (hc_ HB hw251_0), (hc_ HB hw253_0), (hc_ HB hw254_0), (hc_ HB hw255_0)⟩ (fun hHeld => ?_); refine with_tabW impl_plane_isTwin.tab1 impl_plane_isTwin.bits1 (fun HT_ HW_ => ?_)
           generalize w.drew = w17 at HB hx249_0 hx250_0 hx251_0 hx253_0 hx254_0 hx255_0 hHeld ⊢
           refine p_ 0 8 (m_ 34 1) HT_.out ?_
           refine p_ 1 9 (m_ 34 3) HT_.out ?_
           refine p_ 2 10 (m_ 34 7) HT_.out ?_
           refine p_ 3 11 (m_ 34 15) HT_.out ?_
           refine p_ 4 12 (m_ 34 31) HT_.out ?_
           refine one_ (i := 5) (N := some 13) (m_ 34 63) rfl rfl (one_of HT_.out (by kernel_rfl)) (by decide) (fun K hK => ?_)
           refine goes_ Try.func126 (by kernel_rfl) rfl #[.slice _ l1.length c1] (by rfl) rfl rfl ll_ ?_
           with_reducible refine (impl_areDifferent.calls _ _ l1 true _ ?side1 ?side2 A5.out).mono ?_
           (case side1 => exact sb_ HR1 HB)
           (case side2 => exact HC1.out)
           rintro e w' ⟨rfl, ⟨nd, rfl⟩⟩
           refine ⟨_, rfl, ?_⟩
           refine hK.out _ _ ⟨(hc_ HB hw249_0), (hc_ HB hw250_0), (hc_ HB hw251_0), (hc_ HB hw253_0), (hc_ HB hw254_0), (hc_ HB hw255_0)⟩ (fun hHeld => ?_)
           clear hK K
           refine norm_ (a' := ?_) ?_ ?_; rotate_left; (show Act.put _ (some 13) _ = _; simp only [Act.put, List.setIfInBounds_toArray, List.set_cons_zero, List.set_cons_succ, i64_w, i32_w]; rfl)
           refine p_ 6 14 (m_ 34 127) HT_.out ?_
           refine p_ 7 15 (m_ 34 255) HT_.out ?_
           refine p_ 8 16 (m_ 34 511) HT_.out ?_
           refine p_ 9 17 (m_ 34 1023) HT_.out ?_
           refine p_ 10 18 (m_ 34 2047) HT_.out ?_
           refine p_ 11 19 (m_ 34 4095) HT_.out ?_
           refine p_ 13 21 (m_ 34 12287) HT_.out ?_
           refine p_ 14 22 (m_ 34 28671) HT_.out ?_
           refine p_ 16 24 (m_ 34 94207) HT_.out ?_
           refine p_ 17 25 (m_ 34 225279) HT_.out ?_
           refine t6_ 12 20 (m_ 34 229375) HT_.out HW_.out hHeld ?_
           refine t6_ 15 23 (m_ 34 262143) HT_.out HW_.out hHeld ?_
           refine t6_ 18 26 (m_ 34 524287) HT_.out HW_.out hHeld ?_
           refine one_ (i := 19) (N := some 27) (m_ 34 1048575) rfl rfl (one_of HT_.out (by kernel_rfl)) (by decide) (fun K hK => ?_)
           refine goes_ Try.func127 (by kernel_rfl) rfl #[.slice _ l0.length c0, .int .i64 (rd l1 1), .int .i64 (rd l1 2), .int .i64 (rd l1 3)] (by rfl) rfl rfl ll_ ?_
           with_reducible refine (impl_plane_three.calls k _ _ l0 (rd l1 1) (rd l1 2) (rd l1 3) false _ ?side1 ?side2 A10.out).mono ?_
           (case side1 => repeat (first | exact (Kd.C_below HR0.out (bb_ HB)) | (with_reducible refine Kd.C_alloc ?_ _) | (with_reducible refine Kd.C_drewN ?_ _) | (with_reducible refine Kd.C_drew ?_)))
           (case side2 => exact HC0.out)
           rintro e w' ⟨rfl, ⟨nd, rfl⟩⟩
           refine ⟨_, rfl, ?_⟩
           refine hK.out _ _ ⟨(hc_ HB hw249_0), (hc_ HB hw250_0), (hc_ HB hw251_0), (hc_ HB hw253_0), (hc_ HB hw254_0), (hc_ HB hw255_0)⟩ (fun hHeld => ?_)
           clear hK K
           refine norm_ (a' := ?_) ?_ ?_; rotate_left; (show Act.put _ (some 27) _ = _; simp only [Act.put, List.setIfInBounds_toArray, List.set_cons_zero, List.set_cons_succ, i64_w, i32_w]; rfl)
           refine p_ 20 28 (m_ 34 2097151) HT_.out ?_
           refine p_ 21 29 (m_ 34 4194303) HT_.out ?_
           refine p_ 22 30 (m_ 34 8388607) HT_.out ?_
           refine p_ 23 31 (m_ 34 16777215) HT_.out ?_
           refine p_ 24 32 (m_ 34 33554431) HT_.out ?_
           refine p_ 26 34 (m_ 34 100663295) HT_.out ?_
           refine p_ 27 35 (m_ 34 234881023) HT_.out ?_
           refine p_ 29 37 (m_ 34 771751935) HT_.out ?_
           refine p_ 30 38 (m_ 34 1845493759) HT_.out ?_
           refine t6_ 25 33 (m_ 34 1879048191) HT_.out HW_.out hHeld ?_
           refine t6_ 28 36 (m_ 34 2147483647) HT_.out HW_.out hHeld ?_
           refine t6_ 31 39 (m_ 34 4294967295) HT_.out HW_.out hHeld ?_
           refine one_ (i := 32) (N := some 40) (m_ 34 8589934591) rfl rfl (one_of HT_.out (by kernel_rfl)) (by decide) (fun K hK => ?_)
           refine goes_ Try.func127 (by kernel_rfl) rfl #[.slice _ l0.length c0, .int .i64 (rd l1 4), .int .i64 (rd l1 5), .int .i64 (rd l1 6)] (by rfl) rfl rfl ll_ ?_
           with_reducible refine (impl_plane_three.calls k _ _ l0 (rd l1 4) (rd l1 5) (rd l1 6) t256 _ ?side1 ?side2 A16.out).mono ?_
           (case side1 => repeat (first | exact (Kd.C_below HR0.out (bb_ HB)) | (with_reducible refine Kd.C_alloc ?_ _) | (with_reducible refine Kd.C_drewN ?_ _) | (with_reducible refine Kd.C_drew ?_)))
           (case side2 => exact HC0.out)
           rintro e w' ⟨rfl, ⟨nd, rfl⟩⟩
           refine ⟨_, rfl, ?_⟩
           refine hK.out _ _ ⟨(hc_ HB hw249_0), (hc_ HB hw250_0), (hc_ HB hw251_0), (hc_ HB hw253_0), (hc_ HB hw254_0), (hc_ HB hw255_0)⟩ (fun hHeld => ?_)
           clear hK K
           refine norm_ (a' := ?_) ?_ ?_; rotate_left; (show Act.put _ (some 40) _ = _; simp only [Act.put, List.setIfInBounds_toArray, List.set_cons_zero, List.set_cons_succ, i64_w, i32_w]; rfl)
           refine p_ 33 41 (m_ 34 17179869183) HT_.out ?_
           refine done_ (done_of HT_.out (by kernel_rfl)) ?_
           try go_wp2
           go_meet
           case rel => exact ⟨_, (t256), (by first | rfl | (simp; done) | (simp [*]; done)), H', ⟨by first | omega | exact Nat.le_refl _⟩, ⟨by repeat (first | (with_reducible first | exact HB.out | apply below_alloc | apply pw_below_drewN | apply below_drew1) | exact HB.out)⟩⟩
          ·rw [if_neg c15] at H
           exact absurd H (by simp)
         ·rw [if_neg c14] at H
          exact absurd H (by simp)
        ·rw [if_neg c13] at H
         exact absurd H (by simp)
      ·rw [if_neg c9] at H
       exact absurd H (by simp)
     ·rw [if_neg c8] at H
      exact absurd H (by simp)
    ·rw [if_neg c7] at H
     exact absurd H (by simp)
   ·replace c6 := Bool.eq_false_iff.mpr c6
    subst c6
    have H1 : (impl_plane_isTwin.j0 k l0 l1 true) = some r := by rw [if_neg (show ¬ (false = true) by decide)] at H; exact H
    clear H
    have H := H1
    clear H1
    have H' := Aside0.mk H
    clear H
    try go_wp2
    have n0_ := Aside0.mk (below_drew1 HB.out)
    clear HB
    have HB := n0_
    clear n0_
    refine start_ (n := 34) (S := fun w' => True) (ds := []) #[F_,F_,F_,F_,F_,F_,F_,F_,F_,F_,F_,F_,F_,F_,F_,F_,F_,F_,F_,F_,F_,F_,F_,F_,F_,F_,F_,F_,F_,F_,F_,F_,F_,F_] (by kernel_rfl) rfl rfl trivial (fun hHeld => ?_); refine with_tabW impl_plane_isTwin.tab1 impl_plane_isTwin.bits1 (fun HT_ HW_ => ?_)
    generalize w.drew = w18 at HB hHeld ⊢
    refine p_ 0 8 (m_ 34 1) HT_.out ?_
    refine p_ 1 9 (m_ 34 3) HT_.out ?_
    refine p_ 2 10 (m_ 34 7) HT_.out ?_
    refine p_ 3 11 (m_ 34 15) HT_.out ?_
    refine p_ 4 12 (m_ 34 31) HT_.out ?_
    refine one_ (i := 5) (N := some 13) (m_ 34 63) rfl rfl (one_of HT_.out (by kernel_rfl)) (by decide) (fun K hK => ?_)
    refine goes_ Try.func126 (by kernel_rfl) rfl #[.slice _ l1.length c1] (by rfl) rfl rfl ll_ ?_
    with_reducible refine (impl_areDifferent.calls _ _ l1 false _ ?side1 ?side2 A5.out).mono ?_
    (case side1 => exact sb_ HR1 HB)
    (case side2 => exact HC1.out)
    rintro e w' ⟨rfl, ⟨nd, rfl⟩⟩
    refine ⟨_, rfl, ?_⟩
    refine hK.out _ _ trivial (fun hHeld => ?_)
    clear hK K
    refine norm_ (a' := ?_) ?_ ?_; rotate_left; (show Act.put _ (some 13) _ = _; simp only [Act.put, List.setIfInBounds_toArray, List.set_cons_zero, List.set_cons_succ, i64_w, i32_w]; rfl)
    refine p_ 6 14 (m_ 34 127) HT_.out ?_
    refine p_ 7 15 (m_ 34 255) HT_.out ?_
    refine p_ 8 16 (m_ 34 511) HT_.out ?_
    refine u_ 9 17 (m_ 34 1023) HT_.out ?_
    refine u_ 10 18 (m_ 34 2047) HT_.out ?_
    refine u_ 11 19 (m_ 34 4095) HT_.out ?_
    refine u_ 12 20 (m_ 34 8191) HT_.out ?_
    refine u_ 13 21 (m_ 34 16383) HT_.out ?_
    refine u_ 14 22 (m_ 34 32767) HT_.out ?_
    refine u_ 15 23 (m_ 34 65535) HT_.out ?_
    refine u_ 16 24 (m_ 34 131071) HT_.out ?_
    refine u_ 17 25 (m_ 34 262143) HT_.out ?_
    refine u_ 18 26 (m_ 34 524287) HT_.out ?_
    refine u_ 19 27 (m_ 34 1048575) HT_.out ?_
    refine p_ 20 28 (m_ 34 2097151) HT_.out ?_
    refine p_ 21 29 (m_ 34 4194303) HT_.out ?_
    refine u_ 22 30 (m_ 34 8388607) HT_.out ?_
    refine u_ 23 31 (m_ 34 16777215) HT_.out ?_
    refine u_ 24 32 (m_ 34 33554431) HT_.out ?_
    refine u_ 25 33 (m_ 34 67108863) HT_.out ?_
    refine u_ 26 34 (m_ 34 134217727) HT_.out ?_
    refine u_ 27 35 (m_ 34 268435455) HT_.out ?_
    refine u_ 28 36 (m_ 34 536870911) HT_.out ?_
    refine u_ 29 37 (m_ 34 1073741823) HT_.out ?_
    refine u_ 30 38 (m_ 34 2147483647) HT_.out ?_
    refine u_ 31 39 (m_ 34 4294967295) HT_.out ?_
    refine u_ 32 40 (m_ 34 8589934591) HT_.out ?_
    refine p_ 33 41 (m_ 34 17179869183) HT_.out ?_
    refine done_ (done_of HT_.out (by kernel_rfl)) ?_
    try go_wp2
    go_meet
    case rel => exact ⟨_, (true), (by first | rfl | (simp; done) | (simp [*]; done)), H', ⟨by first | omega | exact Nat.le_refl _⟩, ⟨by repeat (first | (with_reducible first | exact HB.out | apply below_alloc | apply pw_below_drewN | apply below_drew1) | exact HB.out)⟩⟩
  ·rw [if_neg c4] at H
   have c4b0 : ((l1.length : Int) == 7) = false := beq_eq_false_iff_ne.mpr c4
   have c4b1 : ((l1.length : Int) != 7) = true := bne_iff_ne.mpr c4
   (first | rw [c4b0] | (simp only [i64_w, i32_w]; rw [c4b0]) | skip)
   have H' := Aside0.mk H
   clear H
   try go_wp2
   have n0_ := Aside0.mk (below_drew1 HB.out)
   clear HB
   have HB := n0_
   clear n0_
   refine start_ (n := 34) (S := fun w' => True) (ds := []) #[F_,F_,F_,F_,F_,F_,F_,F_,F_,F_,F_,F_,F_,F_,F_,F_,F_,F_,F_,F_,F_,F_,F_,F_,F_,F_,F_,F_,F_,F_,F_,F_,F_,F_] (by kernel_rfl) rfl rfl trivial (fun hHeld => ?_); refine with_tabW impl_plane_isTwin.tab1 impl_plane_isTwin.bits1 (fun HT_ HW_ => ?_)
   generalize w.drew = w19 at HB hHeld ⊢
   refine p_ 0 8 (m_ 34 1) HT_.out ?_
   refine p_ 1 9 (m_ 34 3) HT_.out ?_
   refine p_ 2 10 (m_ 34 7) HT_.out ?_
   refine p_ 3 11 (m_ 34 15) HT_.out ?_
   refine u_ 4 12 (m_ 34 31) HT_.out ?_
   refine u_ 5 13 (m_ 34 63) HT_.out ?_
   refine u_ 6 14 (m_ 34 127) HT_.out ?_
   refine p_ 7 15 (m_ 34 255) HT_.out ?_
   refine p_ 8 16 (m_ 34 511) HT_.out ?_
   refine u_ 9 17 (m_ 34 1023) HT_.out ?_
   refine u_ 10 18 (m_ 34 2047) HT_.out ?_
   refine u_ 11 19 (m_ 34 4095) HT_.out ?_
   refine u_ 12 20 (m_ 34 8191) HT_.out ?_
   refine u_ 13 21 (m_ 34 16383) HT_.out ?_
   refine u_ 14 22 (m_ 34 32767) HT_.out ?_
   refine u_ 15 23 (m_ 34 65535) HT_.out ?_
   refine u_ 16 24 (m_ 34 131071) HT_.out ?_
   refine u_ 17 25 (m_ 34 262143) HT_.out ?_
   refine u_ 18 26 (m_ 34 524287) HT_.out ?_
   refine u_ 19 27 (m_ 34 1048575) HT_.out ?_
   refine p_ 20 28 (m_ 34 2097151) HT_.out ?_
   refine p_ 21 29 (m_ 34 4194303) HT_.out ?_
   refine u_ 22 30 (m_ 34 8388607) HT_.out ?_
   refine u_ 23 31 (m_ 34 16777215) HT_.out ?_
   refine u_ 24 32 (m_ 34 33554431) HT_.out ?_
   refine u_ 25 33 (m_ 34 67108863) HT_.out ?_
   refine u_ 26 34 (m_ 34 134217727) HT_.out ?_
   refine u_ 27 35 (m_ 34 268435455) HT_.out ?_
   refine u_ 28 36 (m_ 34 536870911) HT_.out ?_
   refine u_ 29 37 (m_ 34 1073741823) HT_.out ?_
   refine u_ 30 38 (m_ 34 2147483647) HT_.out ?_
   refine u_ 31 39 (m_ 34 4294967295) HT_.out ?_
   refine u_ 32 40 (m_ 34 8589934591) HT_.out ?_
   refine p_ 33 41 (m_ 34 17179869183) HT_.out ?_
   refine done_ (done_of HT_.out (by kernel_rfl)) ?_
   try go_wp2
   go_meet
   case rel => exact ⟨_, (true), (by first | rfl | (simp; done) | (simp [*]; done)), H', ⟨by first | omega | exact Nat.le_refl _⟩, ⟨by repeat (first | (with_reducible first | exact HB.out | apply below_alloc | apply pw_below_drewN | apply below_drew1) | exact HB.out)⟩⟩
 case rest =>
  clear HC3
  try clear c1
  try clear p2
  try clear c4
  try clear c4b0
  try clear c4b1
  try clear c6
  try clear c7
  try clear c8
  try clear c9
  try clear c12
  try clear c13
  try clear c14
  try clear c15
  obtain ⟨kq, x41_2, rfl, HA, HJ2, HB⟩ := hcut
  cases kq with
  | zero => exact absurd HA.out (by simp [impl_plane_isTwin.j0])
  | succ kj2 =>
   have H := HA.out
   clear HA
   simp only [impl_plane_isTwin.j0] at H
   by_cases c20 : x41_2 = true
   ·subst c20
    have H1 : (some false) = some r := by rw [if_pos rfl] at H; exact H
    clear H
    have H := H1
    clear H1
    obtain rfl := Option.some.inj H
    go_wp2
    go_ret
    exact ⟨ee_, bb_ HB⟩
   ·replace c20 := Bool.eq_false_iff.mpr c20
    subst c20
    have H1 : (impl_plane_isTwin.l0 kj2 l0 l1 (([] : List Int)) 1) = some r := by rw [if_neg (show ¬ (false = true) by decide)] at H; exact H
    clear H
    have H := H1
    clear H1
    obtain ⟨y257, hy257⟩ : ∃ y_ : List Int, y_ = (([] : List Int)) := ⟨_, rfl⟩
    replace H : (impl_plane_isTwin.l0 kj2 l0 l1 y257 1) = some r := by first | (rw [hy257]; with_reducible exact H) | (have H2_ := (Option.bind_some _ _).symm.trans H; rw [hy257]; with_reducible exact H2_) | (have H2_ := (Option.bind_some _ _).symm.trans H; with_reducible exact H2_) | with_reducible exact H | (rw [hy257]; exact H) | exact H
    have Ny257 := Aside0.mk hy257
    clear hy257
    have H' := Aside0.mk H
    clear H
    go_wp2_with (first | ((with_reducible refine gate_dst (N := 42) rfl ?_); refine Kd.R_lit (Kd.int .i64) _ 3 ?hg (N := 42) ?hd (xs := ([] : List Int)) (inner := []) (ok := fun _ => True) (okp := fun _ => True) ?hr ?hp (fun _ hk => hk) trivial (Below.refl _ _) (Nat.le_refl _) (by simp) ?_; (case hd => rfl); (case hg => rfl); (case hr => first | (go_simp; done) | (go_simp; rfl)); (case hp => exact (Reps.none _ _)); intro v258 w21 ho22 hb hg_ hnew_; clear hg_ hnew_; (first | rw [← Ny257.out] at ho22 | (simp only [Int.reduceToNat] at ho22; rw [← Ny257.out] at ho22)); have n0_ := Aside0.mk (Kd.R_lower ho22 (below_size (bb_ HB))); have n1_ := Aside0.mk (below_step (bb_ HB) hb); clear HB; have HO259 := n0_; have HB := n1_; clear n0_ n1_; clear hb ho22))
    go_loopg [5, 6] kj2 (fun kq v5 v6 w' => ∃ (x5_2 : List Int) (x6_2 : Int), v6 = .int .i64 x6_2 ∧ Aside0 (impl_plane_isTwin.l0 kq l0 l1 x5_2 x6_2 = some r) ∧ Aside0 (kq ≤ kj2) ∧ Aside0 (Kd.R (Kd.int .i64) 3 w' w.heap.size (fun _ => True) v5 x5_2) ∧ Aside0 (Below w.heap.size w w'))
    case atStart => exact ⟨(y257), (1), (by first | rfl | (simp; done) | (simp [*]; done)), H', ⟨Nat.le_refl _⟩, ⟨rr_ HO259⟩, ⟨by repeat (first | (with_reducible first | exact HB.out | apply below_alloc | apply pw_below_drewN | apply below_drew1) | exact HB.out)⟩⟩
    case round =>
     clear H'
     try clear c1
     try clear c2
     try clear p2
     try clear c4
     try clear c4b0
     try clear c4b1
     try clear c6
     try clear c7
     try clear c8
     try clear c9
     try clear c12
     try clear c13
     try clear c14
     try clear c15
     try clear c20
     try clear p2
     obtain ⟨x5_2, x6_2, rfl, HA, HK2, HO_5, HB⟩ := hrel
     cases gk with
     | zero => exact absurd HA.out (by simp [impl_plane_isTwin.l0])
     | succ k2 =>
      have H := HA.out
      clear HA
      simp only [impl_plane_isTwin.l0] at H
      by_cases c23 : x6_2 ≤ 3
      ·rw [if_pos c23] at H
       have c23b0 : decide (x6_2 ≤ 3) = true := decide_eq_true c23
       clear c23
       by_cases c24 : 0 < (l1.length : Int)
       ·rw [if_pos c24] at H
        have c24b0 : decide (0 < (l1.length : Int)) = true := decide_eq_true c24
        have c24b1 : decide (0 < l1.length) = true := decide_eq_true (by omega)
        clear c24
        by_cases c25 : 0 ≤ x6_2
        ·rw [if_pos c25] at H
         have c25b0 : decide (0 ≤ x6_2) = true := decide_eq_true c25
         clear c25
         by_cases c26 : x6_2 < (l1.length : Int)
         ·rw [if_pos c26] at H
          have c26b0 : decide (x6_2 < (l1.length : Int)) = true := decide_eq_true c26
          clear c26
          replace H := Option.bind_eq_some_iff.mp H
          obtain ⟨t262, A270, H⟩ := H
          replace H : (if 0 ≤ (wrap64 (x6_2 + 3)) then (if (wrap64 (x6_2 + 3)) < (l1.length : Int) then ((impl_plane_on.f l0 (rd l1 (wrap64 (x6_2 + 3))) t262).bind fun t264 => (if t264 = true then ((slices_Contains_int_int.f k2 x5_2 t262).bind fun t265 => (if t265 = true then (some false) else (if x5_2.length < 17592186044416 then (impl_plane_isTwin.l0 k2 l0 l1 (x5_2 ++ [t262]) (wrap64 (x6_2 + 1))) else (none)))) else (some false))) else (none)) else (none)) = some r := H
          have A27 := Aside0.mk A270
          clear A270
          obtain ⟨ji28, hji28⟩ : ∃ j_ : Int, (wrap64 (x6_2 + 3)) = j_ := ⟨_, rfl⟩
          replace H : (if 0 ≤ (ji28) then (if (ji28) < (l1.length : Int) then ((impl_plane_on.f l0 (rd l1 (ji28)) t262).bind fun t264 => (if t264 = true then ((slices_Contains_int_int.f k2 x5_2 t262).bind fun t265 => (if t265 = true then (some false) else (if x5_2.length < 17592186044416 then (impl_plane_isTwin.l0 k2 l0 l1 (x5_2 ++ [t262]) (wrap64 (x6_2 + 1))) else (none)))) else (some false))) else (none)) else (none)) = some r := by first | (rw [hji28] at H; exact H) | (simp only [hji28] at H ⊢; exact H)
          (try rw [hji28] at A27)
          have hji28w : (IntKind.i64.wrap (x6_2 + 3)) = ji28 := (i64_w _).trans hji28
          by_cases c29 : 0 ≤ (ji28)
          ·rw [if_pos c29] at H
           have c29b0 : decide (0 ≤ (ji28)) = true := decide_eq_true c29
           clear c29
           by_cases c30 : (ji28) < (l1.length : Int)
           ·rw [if_pos c30] at H
            have c30b0 : decide ((ji28) < (l1.length : Int)) = true := decide_eq_true c30
            clear c30
            replace H := Option.bind_eq_some_iff.mp H
            obtain ⟨t264, A310, H⟩ := H
            replace H : (if t264 = true then ((slices_Contains_int_int.f k2 x5_2 t262).bind fun t265 => (if t265 = true then (some false) else (if x5_2.length < 17592186044416 then (impl_plane_isTwin.l0 k2 l0 l1 (x5_2 ++ [t262]) (wrap64 (x6_2 + 1))) else (none)))) else (some false)) = some r := H
            have A31 := Aside0.mk A310
            clear A310
            by_cases c32 : t264 = true
            ·subst c32
             have H1 : ((slices_Contains_int_int.f k2 x5_2 t262).bind fun t265 => (if t265 = true then (some false) else (if x5_2.length < 17592186044416 then (impl_plane_isTwin.l0 k2 l0 l1 (x5_2 ++ [t262]) (wrap64 (x6_2 + 1))) else (none)))) = some r := by rw [if_pos rfl] at H; exact H
             clear H
             have H := H1
             clear H1
             replace H := Option.bind_eq_some_iff.mp H
             obtain ⟨t265, A330, H⟩ := H
             replace H : (if t265 = true then (some false) else (if x5_2.length < 17592186044416 then (impl_plane_isTwin.l0 k2 l0 l1 (x5_2 ++ [t262]) (wrap64 (x6_2 + 1))) else (none))) = some r := H
             have A33 := Aside0.mk A330
             clear A330
             by_cases c34 : t265 = true
             ·subst c34
              have H1 : (some false) = some r := by rw [if_pos rfl] at H; exact H
              clear H
              have H := H1
              clear H1
              obtain rfl := Option.some.inj H
              try go_wp2
              have n0_ := Aside0.mk (Kd.R_drew HO_5.out)
              have n1_ := Aside0.mk (below_drew1 HB.out)
              clear HO_5
              clear HB
              have HO_5 := n0_
              have HB := n1_
              clear n0_ n1_
              have p260 : 0 ≤ (0 : Int) := (by omega)
              have q260 : 0 < (l1.length : Int) := dd_
              obtain ⟨ad260, e260, hx260_0⟩ := Kd.at_int HR1.out 0 p260 q260
              have hw260_0 := hx260_0
              (try rw [show ((0 : Int)).toNat = 0 from rfl] at hw260_0)
              (try rw [show 0 * 1 = 0 from rfl] at hw260_0)
              (try rw [Addr.add_zero'] at hw260_0)
              cases e260
              have qi260 : (0 < l1.length) = True := eq_true (by omega)
              (try rw [show ((0 : Int)).toNat = 0 from rfl] at hx260_0)
              (try rw [Addr.add_zero'] at hx260_0)
              replace hx260_0 := hc_ HB hx260_0
              replace p260 := eq_true p260
              replace q260 := eq_true q260
              have p261 : 0 ≤ (x6_2 : Int) := dd_
              have q261 : x6_2 < (l1.length : Int) := dd_
              obtain ⟨ad261, e261, hx261_0⟩ := Kd.at_int HR1.out x6_2 p261 q261
              have hw261_0 := hx261_0
              obtain rfl : ad260 = ad261 := (by injection e261)
              replace hx261_0 := hc_ HB hx261_0
              replace p261 := eq_true p261
              replace q261 := eq_true q261
              refine start_ (n := 10) (S := fun w' => w'.cell? ad260 = some (.int .i64 (rd l1 0)) ∧ w'.cell? (ad260.add (x6_2).toNat) = some (.int .i64 (rd l1 x6_2))) (ds := []) #[F_,F_,F_,F_,F_,F_,F_,F_,F_,F_] (by kernel_rfl) rfl rfl ⟨(hc_ HB hw260_0), (hc_ HB hw261_0)⟩ (fun hHeld => ?_); refine with_tabW impl_plane_isTwin.tab7 impl_plane_isTwin.bits7 (fun HT_ HW_ => ?_)
              generalize wr.drew = w35 at HO_5 HB hx260_0 hx261_0 hHeld ⊢
              refine p_ 0 47 (m_ 10 1) HT_.out ?_
              refine p_ 1 48 (m_ 10 3) HT_.out ?_
              refine p_ 2 49 (m_ 10 7) HT_.out ?_
              refine p_ 4 51 (m_ 10 23) HT_.out ?_
              refine p_ 5 52 (m_ 10 55) HT_.out ?_
              refine p_ 6 53 (m_ 10 119) HT_.out ?_
              refine t2_ 3 50 (m_ 10 127) HT_.out HW_.out hHeld ?_
              refine t2_ 7 54 (m_ 10 255) HT_.out HW_.out hHeld ?_
              refine one_ (i := 8) (N := some 55) (m_ 10 511) rfl rfl (one_of HT_.out (by kernel_rfl)) (by decide) (fun K hK => ?_)
              refine goes_ Try.func74 (by kernel_rfl) rfl #[.slice _ l0.length c0, .int .i64 (rd l1 0), .int .i64 (rd l1 x6_2)] (by rfl) rfl rfl ll_ ?_
              with_reducible refine (impl_plane_join.calls k2 _ _ l0 (rd l1 0) (rd l1 x6_2) t262 _ ?side1 ?side2 A27.out).mono ?_
              (case side1 => exact sb_ HR0 HB)
              (case side2 => exact HC0.out)
              rintro e w' ⟨rfl, ⟨nd, rfl⟩⟩
              refine ⟨_, rfl, ?_⟩
              refine hK.out _ _ ⟨(hc_ HB hw260_0), (hc_ HB hw261_0)⟩ (fun hHeld => ?_)
              clear hK K
              refine norm_ (a' := ?_) ?_ ?_; rotate_left; (show Act.put _ (some 55) _ = _; simp only [Act.put, List.setIfInBounds_toArray, List.set_cons_zero, List.set_cons_succ, i64_w, i32_w]; rfl)
              refine p_ 9 7 (m_ 10 1023) HT_.out ?_
              refine done_ (done_of HT_.out (by kernel_rfl)) ?_
              have p263 : 0 ≤ ((ji28) : Int) := dd_
              have q263 : (ji28) < (l1.length : Int) := dd_
              obtain ⟨ad263, e263, hx263_0⟩ := Kd.at_int HR1.out (ji28) p263 q263
              obtain rfl : ad260 = ad263 := (by injection e263)
              replace hx263_0 := hc_ HB hx263_0
              replace p263 := eq_true p263
              replace q263 := eq_true q263
              try go_wp2_with (first | (refine goesL_ (some 63) rfl rfl Try.func75 (by kernel_rfl) rfl #[.slice A0 l0.length c0, .int .i64 (rd l1 (ji28)), .int .i64 t262] rfl (by (try simp only [List.map_toArray, List.map_cons, List.map_nil]); first | done | (simp only [hji28]; rfl) | rfl | (simp only [List.length_drop, List.length_take]; rfl)) ?_; (with_reducible refine (impl_plane_on.calls _ _ l0 (rd l1 (ji28)) t262 true _ ?side1 ?side2 A31.out).mono ?_); (case side1 => repeat (first | exact (Kd.C_below HR0.out (bb_ HB)) | (with_reducible refine Kd.C_alloc ?_ _) | (with_reducible refine Kd.C_drewN ?_ _) | (with_reducible refine Kd.C_drew ?_))); (case side2 => exact HC0.out); rintro e w' ⟨rfl, ⟨nd, rfl⟩⟩; refine ⟨_, rfl, ?_⟩; obtain ⟨Ao36, co36, eo36⟩ := Kd.R_slice HO_5.out; subst eo36) | (go_at_call 90; (with_reducible refine (slices_Contains_int_int.calls k2 _ _ x5_2 t262 true _ ?side1 ?side2 A33.out).mono ?_); (case side1 => exact cc_ HO_5); (case side2 => exact (Kd.R_reads' HO_5.out).2.1); rintro e w' ⟨rfl, ⟨nd, rfl⟩⟩))
              go_ret
              exact ⟨by first | rfl | (simp [errW_none, errW_some] <;> rfl) | (simp only [← hji28]; first | rfl | (simp [errW_none, errW_some] <;> rfl)) | (simp [*, errW_none, errW_some] <;> rfl), bb_ HB⟩
             ·replace c34 := Bool.eq_false_iff.mpr c34
              subst c34
              have H1 : (if x5_2.length < 17592186044416 then (impl_plane_isTwin.l0 k2 l0 l1 (x5_2 ++ [t262]) (wrap64 (x6_2 + 1))) else (none)) = some r := by rw [if_neg (show ¬ (false = true) by decide)] at H; exact H
              clear H
              have H := H1
              clear H1
              by_cases c37 : x5_2.length < 17592186044416
              ·rw [if_pos c37] at H
               have LMc37 := Aside0.mk c37
               clear c37
               obtain ⟨y266, hy266⟩ : ∃ y_ : List Int, y_ = (x5_2 ++ [t262]) := ⟨_, rfl⟩
               replace H : (impl_plane_isTwin.l0 k2 l0 l1 y266 (wrap64 (x6_2 + 1))) = some r := by first | (rw [hy266]; with_reducible exact H) | (have H2_ := (Option.bind_some _ _).symm.trans H; rw [hy266]; with_reducible exact H2_) | (have H2_ := (Option.bind_some _ _).symm.trans H; with_reducible exact H2_) | with_reducible exact H | (rw [hy266]; exact H) | exact H
               have Ny266 := Aside0.mk hy266
               clear hy266
               have H' := Aside0.mk H
               clear H
               try go_wp2
               have n0_ := Aside0.mk (Kd.R_drew HO_5.out)
               have n1_ := Aside0.mk (below_drew1 HB.out)
               clear HO_5
               clear HB
               have HO_5 := n0_
               have HB := n1_
               clear n0_ n1_
               have p260 : 0 ≤ (0 : Int) := (by omega)
               have q260 : 0 < (l1.length : Int) := dd_
               obtain ⟨ad260, e260, hx260_0⟩ := Kd.at_int HR1.out 0 p260 q260
               have hw260_0 := hx260_0
               (try rw [show ((0 : Int)).toNat = 0 from rfl] at hw260_0)
               (try rw [show 0 * 1 = 0 from rfl] at hw260_0)
               (try rw [Addr.add_zero'] at hw260_0)
               cases e260
               have qi260 : (0 < l1.length) = True := eq_true (by omega)
               (try rw [show ((0 : Int)).toNat = 0 from rfl] at hx260_0)
               (try rw [Addr.add_zero'] at hx260_0)
               replace hx260_0 := hc_ HB hx260_0
               replace p260 := eq_true p260
               replace q260 := eq_true q260
               have p261 : 0 ≤ (x6_2 : Int) := dd_
               have q261 : x6_2 < (l1.length : Int) := dd_
               obtain ⟨ad261, e261, hx261_0⟩ := Kd.at_int HR1.out x6_2 p261 q261
               have hw261_0 := hx261_0
               obtain rfl : ad260 = ad261 := (by injection e261)
               replace hx261_0 := hc_ HB hx261_0
               replace p261 := eq_true p261
               replace q261 := eq_true q261
               refine start_ (n := 10) (S := fun w' => w'.cell? ad260 = some (.int .i64 (rd l1 0)) ∧ w'.cell? (ad260.add (x6_2).toNat) = some (.int .i64 (rd l1 x6_2))) (ds := []) #[F_,F_,F_,F_,F_,F_,F_,F_,F_,F_] (by kernel_rfl) rfl rfl ⟨(hc_ HB hw260_0), (hc_ HB hw261_0)⟩ (fun hHeld => ?_); refine with_tabW impl_plane_isTwin.tab7 impl_plane_isTwin.bits7 (fun HT_ HW_ => ?_)
               generalize wr.drew = w38 at HO_5 HB hx260_0 hx261_0 hHeld ⊢
               refine p_ 0 47 (m_ 10 1) HT_.out ?_
               refine p_ 1 48 (m_ 10 3) HT_.out ?_
               refine p_ 2 49 (m_ 10 7) HT_.out ?_
               refine p_ 4 51 (m_ 10 23) HT_.out ?_
               refine p_ 5 52 (m_ 10 55) HT_.out ?_
               refine p_ 6 53 (m_ 10 119) HT_.out ?_
               refine t2_ 3 50 (m_ 10 127) HT_.out HW_.out hHeld ?_
               refine t2_ 7 54 (m_ 10 255) HT_.out HW_.out hHeld ?_
               refine one_ (i := 8) (N := some 55) (m_ 10 511) rfl rfl (one_of HT_.out (by kernel_rfl)) (by decide) (fun K hK => ?_)
               refine goes_ Try.func74 (by kernel_rfl) rfl #[.slice _ l0.length c0, .int .i64 (rd l1 0), .int .i64 (rd l1 x6_2)] (by rfl) rfl rfl ll_ ?_
               with_reducible refine (impl_plane_join.calls k2 _ _ l0 (rd l1 0) (rd l1 x6_2) t262 _ ?side1 ?side2 A27.out).mono ?_
               (case side1 => exact sb_ HR0 HB)
               (case side2 => exact HC0.out)
               rintro e w' ⟨rfl, ⟨nd, rfl⟩⟩
               refine ⟨_, rfl, ?_⟩
               refine hK.out _ _ ⟨(hc_ HB hw260_0), (hc_ HB hw261_0)⟩ (fun hHeld => ?_)
               clear hK K
               refine norm_ (a' := ?_) ?_ ?_; rotate_left; (show Act.put _ (some 55) _ = _; simp only [Act.put, List.setIfInBounds_toArray, List.set_cons_zero, List.set_cons_succ, i64_w, i32_w]; rfl)
               refine p_ 9 7 (m_ 10 1023) HT_.out ?_
               refine done_ (done_of HT_.out (by kernel_rfl)) ?_
               have p263 : 0 ≤ ((ji28) : Int) := dd_
               have q263 : (ji28) < (l1.length : Int) := dd_
               obtain ⟨ad263, e263, hx263_0⟩ := Kd.at_int HR1.out (ji28) p263 q263
               obtain rfl : ad260 = ad263 := (by injection e263)
               replace hx263_0 := hc_ HB hx263_0
               replace p263 := eq_true p263
               replace q263 := eq_true q263
               try go_wp2_with (first | (refine goesL_ (some 63) rfl rfl Try.func75 (by kernel_rfl) rfl #[.slice A0 l0.length c0, .int .i64 (rd l1 (ji28)), .int .i64 t262] rfl (by (try simp only [List.map_toArray, List.map_cons, List.map_nil]); first | done | (simp only [hji28]; rfl) | rfl | (simp only [List.length_drop, List.length_take]; rfl)) ?_; (with_reducible refine (impl_plane_on.calls _ _ l0 (rd l1 (ji28)) t262 true _ ?side1 ?side2 A31.out).mono ?_); (case side1 => repeat (first | exact (Kd.C_below HR0.out (bb_ HB)) | (with_reducible refine Kd.C_alloc ?_ _) | (with_reducible refine Kd.C_drewN ?_ _) | (with_reducible refine Kd.C_drew ?_))); (case side2 => exact HC0.out); rintro e w' ⟨rfl, ⟨nd, rfl⟩⟩; refine ⟨_, rfl, ?_⟩; obtain ⟨Ao39, co39, eo39⟩ := Kd.R_slice HO_5.out; subst eo39) | (go_at_call 90; (with_reducible refine (slices_Contains_int_int.calls k2 _ _ x5_2 t262 false _ ?side1 ?side2 A33.out).mono ?_); (case side1 => exact cc_ HO_5); (case side2 => exact (Kd.R_reads' HO_5.out).2.1); rintro e w' ⟨rfl, ⟨nd, rfl⟩⟩) | (at_builtin; refine Kd.R_append (Kd.int .i64) (w0 := w) w.heap.size rfl (.tmp 70) (.tmp 72) 23 3 (.int .i64 0) 8 rfl Try.underlying23 info3 rfl (by decide) (by omega) (.slice Ao39 x5_2.length co39) x5_2 t262 [.int .i64 t262] (fun _ => True) (fun _ => False) rfl rfl ?aP (fun _ hk => hk.elim) ?aF ?aO ?aB ?aS ?aL ?_; (case aP => exact rfl); (case aB => exact (bb_ HB)); (case aF => exact (fun _ _ => trivial)); (case aO => exact (rr_ HO_5)); (case aS => exact (below_size (bb_ HB))); (case aL => have := LMc37.out; omega); intro v267 w40 ho hb hg hat; rw [← Ny266.out] at ho; have n0_ := Aside0.mk (hb); have n1_ := Aside0.mk (ho); clear HB; clear HO_5; have HB := n0_; have HO268 := n1_; clear n0_ n1_; clear ho hb hg hat))
               go_roundg k2
               case measure => have := HJ2.out; have := HK2.out; omega
               case rel => exact ⟨(y266), (wrap64 (x6_2 + 1)), (by first | rfl | (simp; done) | (simp [*]; done)), H', ⟨by have := HJ2.out; have := HK2.out; omega⟩, ⟨rr_ HO268⟩, ⟨by repeat (first | (with_reducible first | exact HB.out | apply below_alloc | apply pw_below_drewN | apply below_drew1) | exact HB.out)⟩⟩
              ·rw [if_neg c37] at H
               exact absurd H (by simp)
            ·replace c32 := Bool.eq_false_iff.mpr c32
             subst c32
             have H1 : (some false) = some r := by rw [if_neg (show ¬ (false = true) by decide)] at H; exact H
             clear H
             have H := H1
             clear H1
             obtain rfl := Option.some.inj H
             try go_wp2
             have n0_ := Aside0.mk (Kd.R_drew HO_5.out)
             have n1_ := Aside0.mk (below_drew1 HB.out)
             clear HO_5
             clear HB
             have HO_5 := n0_
             have HB := n1_
             clear n0_ n1_
             have p260 : 0 ≤ (0 : Int) := (by omega)
             have q260 : 0 < (l1.length : Int) := dd_
             obtain ⟨ad260, e260, hx260_0⟩ := Kd.at_int HR1.out 0 p260 q260
             have hw260_0 := hx260_0
             (try rw [show ((0 : Int)).toNat = 0 from rfl] at hw260_0)
             (try rw [show 0 * 1 = 0 from rfl] at hw260_0)
             (try rw [Addr.add_zero'] at hw260_0)
             cases e260
             have qi260 : (0 < l1.length) = True := eq_true (by omega)
             (try rw [show ((0 : Int)).toNat = 0 from rfl] at hx260_0)
             (try rw [Addr.add_zero'] at hx260_0)
             replace hx260_0 := hc_ HB hx260_0
             replace p260 := eq_true p260
             replace q260 := eq_true q260
             have p261 : 0 ≤ (x6_2 : Int) := dd_
             have q261 : x6_2 < (l1.length : Int) := dd_
             obtain ⟨ad261, e261, hx261_0⟩ := Kd.at_int HR1.out x6_2 p261 q261
             have hw261_0 := hx261_0
             obtain rfl : ad260 = ad261 := (by injection e261)
             replace hx261_0 := hc_ HB hx261_0
             replace p261 := eq_true p261
             replace q261 := eq_true q261
             refine start_ (n := 10) (S := fun w' => w'.cell? ad260 = some (.int .i64 (rd l1 0)) ∧ w'.cell? (ad260.add (x6_2).toNat) = some (.int .i64 (rd l1 x6_2))) (ds := []) #[F_,F_,F_,F_,F_,F_,F_,F_,F_,F_] (by kernel_rfl) rfl rfl ⟨(hc_ HB hw260_0), (hc_ HB hw261_0)⟩ (fun hHeld => ?_); refine with_tabW impl_plane_isTwin.tab7 impl_plane_isTwin.bits7 (fun HT_ HW_ => ?_)
             generalize wr.drew = w41 at HO_5 HB hx260_0 hx261_0 hHeld ⊢
             refine p_ 0 47 (m_ 10 1) HT_.out ?_
             refine p_ 1 48 (m_ 10 3) HT_.out ?_
             refine p_ 2 49 (m_ 10 7) HT_.out ?_
             refine p_ 4 51 (m_ 10 23) HT_.out ?_
             refine p_ 5 52 (m_ 10 55) HT_.out ?_
             refine p_ 6 53 (m_ 10 119) HT_.out ?_
             refine t2_ 3 50 (m_ 10 127) HT_.out HW_.out hHeld ?_
             refine t2_ 7 54 (m_ 10 255) HT_.out HW_.out hHeld ?_
             refine one_ (i := 8) (N := some 55) (m_ 10 511) rfl rfl (one_of HT_.out (by kernel_rfl)) (by decide) (fun K hK => ?_)
             refine goes_ Try.func74 (by kernel_rfl) rfl #[.slice _ l0.length c0, .int .i64 (rd l1 0), .int .i64 (rd l1 x6_2)] (by rfl) rfl rfl ll_ ?_
             with_reducible refine (impl_plane_join.calls k2 _ _ l0 (rd l1 0) (rd l1 x6_2) t262 _ ?side1 ?side2 A27.out).mono ?_
             (case side1 => exact sb_ HR0 HB)
             (case side2 => exact HC0.out)
             rintro e w' ⟨rfl, ⟨nd, rfl⟩⟩
             refine ⟨_, rfl, ?_⟩
             refine hK.out _ _ ⟨(hc_ HB hw260_0), (hc_ HB hw261_0)⟩ (fun hHeld => ?_)
             clear hK K
             refine norm_ (a' := ?_) ?_ ?_; rotate_left; (show Act.put _ (some 55) _ = _; simp only [Act.put, List.setIfInBounds_toArray, List.set_cons_zero, List.set_cons_succ, i64_w, i32_w]; rfl)
             refine p_ 9 7 (m_ 10 1023) HT_.out ?_
             refine done_ (done_of HT_.out (by kernel_rfl)) ?_
             have p263 : 0 ≤ ((ji28) : Int) := dd_
             have q263 : (ji28) < (l1.length : Int) := dd_
             obtain ⟨ad263, e263, hx263_0⟩ := Kd.at_int HR1.out (ji28) p263 q263
             obtain rfl : ad260 = ad263 := (by injection e263)
             replace hx263_0 := hc_ HB hx263_0
             replace p263 := eq_true p263
             replace q263 := eq_true q263
             try go_wp2_with (first | (refine goesL_ (some 63) rfl rfl Try.func75 (by kernel_rfl) rfl #[.slice A0 l0.length c0, .int .i64 (rd l1 (ji28)), .int .i64 t262] rfl (by (try simp only [List.map_toArray, List.map_cons, List.map_nil]); first | done | (simp only [hji28]; rfl) | rfl | (simp only [List.length_drop, List.length_take]; rfl)) ?_; (with_reducible refine (impl_plane_on.calls _ _ l0 (rd l1 (ji28)) t262 false _ ?side1 ?side2 A31.out).mono ?_); (case side1 => repeat (first | exact (Kd.C_below HR0.out (bb_ HB)) | (with_reducible refine Kd.C_alloc ?_ _) | (with_reducible refine Kd.C_drewN ?_ _) | (with_reducible refine Kd.C_drew ?_))); (case side2 => exact HC0.out); rintro e w' ⟨rfl, ⟨nd, rfl⟩⟩; refine ⟨_, rfl, ?_⟩))
             go_ret
             exact ⟨by first | rfl | (simp [errW_none, errW_some] <;> rfl) | (simp only [← hji28]; first | rfl | (simp [errW_none, errW_some] <;> rfl)) | (simp [*, errW_none, errW_some] <;> rfl), bb_ HB⟩
           ·rw [if_neg c30] at H
            exact absurd H (by simp)
          ·rw [if_neg c29] at H
           exact absurd H (by simp)
         ·rw [if_neg c26] at H
          exact absurd H (by simp)
        ·rw [if_neg c25] at H
         exact absurd H (by simp)
       ·rw [if_neg c24] at H
        exact absurd H (by simp)
      ·rw [if_neg c23] at H
       have c23b0 : decide (x6_2 ≤ 3) = false := decide_eq_false c23
       clear c23
       obtain rfl := Option.some.inj H
       go_wp2
       go_ret
       exact ⟨ee_, bb_ HB⟩
end Go.Proofs.Ytcbkoecanldlpaa.P

namespace Go.Proofs.Ytcbkoecanldlpaa.P
open Go.RowKit Go.Proofs.YtcbkoecanldlpaaW.PrintWords Go.Proofs.YtcbkoecanldlpaaW.PrintLast
set_option linter.unusedVariables false
set_option linter.unusedSimpArgs false

def impl_plane_crossing.f (k : Nat) (l0 : List Int) (a1 : Int) (a2 : Int) (a3 : Int) (a4 : Int) : Option (Int) := (impl_plane_join.f k l0 a1 a2).bind fun t302 => ((impl_plane_join.f k l0 a3 a4).bind fun t303 => ((impl_plane_meet.f k l0 t302 t303).bind fun t304 => (some t304)))
set_option maxHeartbeats 8000000 in
set_option maxRecDepth 100000 in
theorem impl_plane_crossing.calls (k : Nat) (A0 : Option Addr) (c0 : Nat) (l0 : List Int) (a1 : Int) (a2 : Int) (a3 : Int) (a4 : Int) (r : Int) (w : World) (hr0 : Kd.C (Kd.int .i64) w A0 l0.length l0) (hc0 : l0.length ≤ c0) (h : impl_plane_crossing.f k l0 a1 a2 a3 a4 = some r) :
  Calls Try.prog 132 #[.slice A0 l0.length c0, .int .i64 a1, .int .i64 a2, .int .i64 a3, .int .i64 a4] w fun e w' => e = .returned (.int .i64 r) ∧ Drawn0 w w' := by
 have HR0 := Aside0.mk hr0
 have HC0 := Aside0.mk hc0
 clear hr0 hc0
 have H : ((impl_plane_join.f k l0 a1 a2).bind fun t302 => ((impl_plane_join.f k l0 a3 a4).bind fun t303 => ((impl_plane_meet.f k l0 t302 t303).bind fun t304 => (some t304)))) = some r := h
 clear h
 replace H := Option.bind_eq_some_iff.mp H
 obtain ⟨t302, A60, H⟩ := H
 replace H : ((impl_plane_join.f k l0 a3 a4).bind fun t303 => ((impl_plane_meet.f k l0 t302 t303).bind fun t304 => (some t304))) = some r := H
 have A6 := Aside0.mk A60
 clear A60
 replace H := Option.bind_eq_some_iff.mp H
 obtain ⟨t303, A70, H⟩ := H
 replace H : ((impl_plane_meet.f k l0 t302 t303).bind fun t304 => (some t304)) = some r := H
 have A7 := Aside0.mk A70
 clear A70
 replace H := Option.bind_eq_some_iff.mp H
 obtain ⟨t304, A80, H⟩ := H
 replace H : (some t304) = some r := H
 have A8 := Aside0.mk A80
 clear A80
 obtain rfl := Option.some.inj H
 go_enter Try.func132, Try.ntmps132
 go_wp2_with (first | (refine goesL_ (some 15) rfl rfl Try.func74 (by kernel_rfl) rfl #[.slice A0 l0.length c0, .int .i64 a1, .int .i64 a2] rfl ll_ ?_; (with_reducible refine (impl_plane_join.calls k _ _ l0 a1 a2 t302 _ ?side1 ?side2 A6.out).mono ?_); (case side1 => exact ss_ HR0); (case side2 => exact HC0.out); rintro e w' ⟨rfl, ⟨nd, rfl⟩⟩; refine ⟨_, rfl, ?_⟩) | (refine goesL_ (some 19) rfl rfl Try.func74 (by kernel_rfl) rfl #[.slice A0 l0.length c0, .int .i64 a3, .int .i64 a4] rfl ll_ ?_; (with_reducible refine (impl_plane_join.calls k _ _ l0 a3 a4 t303 _ ?side1 ?side2 A7.out).mono ?_); (case side1 => exact ss_ HR0); (case side2 => exact HC0.out); rintro e w' ⟨rfl, ⟨nd, rfl⟩⟩; refine ⟨_, rfl, ?_⟩) | (refine goesL_ (some 20) rfl rfl Try.func141 (by kernel_rfl) rfl #[.slice A0 l0.length c0, .int .i64 t302, .int .i64 t303] rfl ll_ ?_; (with_reducible refine (impl_plane_meet.calls k _ _ l0 t302 t303 t304 _ ?side1 ?side2 A8.out).mono ?_); (case side1 => exact ss_ HR0); (case side2 => exact HC0.out); rintro e w' ⟨rfl, ⟨nd, rfl⟩⟩; refine ⟨_, rfl, ?_⟩))
 go_ret
 exact ⟨by first | rfl | (simp; done) | (simp [*]; done), by repeat (first | exact Drawn0.refl _ | apply Drawn0.step)⟩
end Go.Proofs.Ytcbkoecanldlpaa.P

namespace Go.Proofs.Ytcbkoecanldlpaa.P
open Go.RowKit Go.Proofs.YtcbkoecanldlpaaW.PrintWords Go.Proofs.YtcbkoecanldlpaaW.PrintLast
set_option linter.unusedVariables false
set_option linter.unusedSimpArgs false

def impl_plane_twinPoints.f (k : Nat) (l0 : List Int) (l1 : List Int) : Option (List Int) := if 1 < (l1.length : Int) then (if 2 < (l1.length : Int) then (if 4 < (l1.length : Int) then (if 5 < (l1.length : Int) then ((impl_plane_crossing.f k l0 (rd l1 1) (rd l1 2) (rd l1 4) (rd l1 5)).bind fun t309 => (if 3 < (l1.length : Int) then (if 6 < (l1.length : Int) then ((impl_plane_crossing.f k l0 (rd l1 1) (rd l1 3) (rd l1 4) (rd l1 6)).bind fun t314 => ((impl_plane_crossing.f k l0 (rd l1 2) (rd l1 3) (rd l1 5) (rd l1 6)).bind fun t319 => (some (([t309, t314, t319] : List Int))))) else (none)) else (none))) else (none)) else (none)) else (none)) else (none)
def impl_plane_twinPoints.T1 : Bool × List (List Nat × List Nat) := (true, [([], []), ([], []), ([1], [1]), ([2], [2]), ([], []), ([4], [4]), ([5], [5]), ([], []), ([7], [7]), ([8], [8]), ([], []), ([10], [10]), ([11], [11]), ([0, 3, 6, 9, 12], [0, 3, 6, 9, 12]), ([], []), ([], []), ([15], [15]), ([16], [16]), ([], []), ([18], [18]), ([19], [19]), ([], []), ([21], [21]), ([22], [22]), ([], []), ([24], [24]), ([25], [25]), ([14, 17, 20, 23, 26, 13], [14, 17, 20, 23, 26]), ([], []), ([], []), ([29], [29]), ([30], [30]), ([], []), ([32], [32]), ([33], [33]), ([], []), ([35], [35]), ([36], [36]), ([], []), ([38], [38]), ([39], [39]), ([28, 31, 34, 37, 40, 27], [28, 31, 34, 37, 40]), ([13, 27, 41], [13, 27, 41]), ([42, 41, 0, 1, 2, 3, 4, 5, 6, 7, 8, 9, 10, 11, 12, 13, 14, 15, 16, 17, 18, 19, 20, 21, 22, 23, 24, 25, 26, 27, 28, 29, 30, 31, 32, 33, 34, 35, 36, 37, 38, 39, 40, 41, 42], [42])])
def impl_plane_twinPoints.B1 : List Nat := [0, 0, 2, 6, 0, 16, 48, 0, 128, 384, 0, 1024, 3072, 8191, 0, 0, 32768, 98304, 0, 262144, 786432, 0, 2097152, 6291456, 0, 16777216, 50331648, 134217727, 0, 0, 536870912, 1610612736, 0, 4294967296, 12884901888, 0, 34359738368, 103079215104, 0, 274877906944, 824633720832, 2199023255551, 4398046511103, 8796093022207]
theorem impl_plane_twinPoints.tab1 : rtab .any (opsOf Try.f67 1) = impl_plane_twinPoints.T1 := by kernel_rfl
theorem impl_plane_twinPoints.bits1 : waitsOk impl_plane_twinPoints.T1.2 impl_plane_twinPoints.B1 = true := by kernel_rfl
set_option maxHeartbeats 8000000 in
set_option maxRecDepth 100000 in
theorem impl_plane_twinPoints.calls (k : Nat) (A0 : Option Addr) (c0 : Nat) (l0 : List Int) (A1 : Option Addr) (c1 : Nat) (l1 : List Int) (r : List Int) (w : World) (hr0 : Kd.C (Kd.int .i64) w A0 l0.length l0) (hc0 : l0.length ≤ c0) (hr1 : Kd.C (Kd.int .i64) w A1 l1.length l1) (hc1 : l1.length ≤ c1) (h : impl_plane_twinPoints.f k l0 l1 = some r) :
  Calls Try.prog 67 #[.slice A0 l0.length c0, .slice A1 l1.length c1] w fun e w' => ∃ v0_ : Value, e = .returned (v0_) ∧ Kd.R (Kd.int .i64) 3 w' w.heap.size (fun _ => True) v0_ r ∧ Below w.heap.size w w' := by
 have HR0 := Aside0.mk hr0
 have HC0 := Aside0.mk hc0
 clear hr0 hc0
 have HR1 := Aside0.mk hr1
 have HC1 := Aside0.mk hc1
 clear hr1 hc1
 have HB := Aside0.mk (Below.refl w.heap.size w)
 have H : (if 1 < (l1.length : Int) then (if 2 < (l1.length : Int) then (if 4 < (l1.length : Int) then (if 5 < (l1.length : Int) then ((impl_plane_crossing.f k l0 (rd l1 1) (rd l1 2) (rd l1 4) (rd l1 5)).bind fun t309 => (if 3 < (l1.length : Int) then (if 6 < (l1.length : Int) then ((impl_plane_crossing.f k l0 (rd l1 1) (rd l1 3) (rd l1 4) (rd l1 6)).bind fun t314 => ((impl_plane_crossing.f k l0 (rd l1 2) (rd l1 3) (rd l1 5) (rd l1 6)).bind fun t319 => (some (([t309, t314, t319] : List Int))))) else (none)) else (none))) else (none)) else (none)) else (none)) else (none)) = some r := h
 clear h
 by_cases c3 : 1 < (l1.length : Int)
 ·rw [if_pos c3] at H
  have c3b0 : decide (1 < (l1.length : Int)) = true := decide_eq_true c3
  have c3b1 : decide (1 < l1.length) = true := decide_eq_true (by omega)
  clear c3
  by_cases c4 : 2 < (l1.length : Int)
  ·rw [if_pos c4] at H
   have c4b0 : decide (2 < (l1.length : Int)) = true := decide_eq_true c4
   have c4b1 : decide (2 < l1.length) = true := decide_eq_true (by omega)
   clear c4
   by_cases c5 : 4 < (l1.length : Int)
   ·rw [if_pos c5] at H
    have c5b0 : decide (4 < (l1.length : Int)) = true := decide_eq_true c5
    have c5b1 : decide (4 < l1.length) = true := decide_eq_true (by omega)
    clear c5
    by_cases c6 : 5 < (l1.length : Int)
    ·rw [if_pos c6] at H
     have c6b0 : decide (5 < (l1.length : Int)) = true := decide_eq_true c6
     have c6b1 : decide (5 < l1.length) = true := decide_eq_true (by omega)
     clear c6
     replace H := Option.bind_eq_some_iff.mp H
     obtain ⟨t309, A70, H⟩ := H
     replace H : (if 3 < (l1.length : Int) then (if 6 < (l1.length : Int) then ((impl_plane_crossing.f k l0 (rd l1 1) (rd l1 3) (rd l1 4) (rd l1 6)).bind fun t314 => ((impl_plane_crossing.f k l0 (rd l1 2) (rd l1 3) (rd l1 5) (rd l1 6)).bind fun t319 => (some (([t309, t314, t319] : List Int))))) else (none)) else (none)) = some r := H
     have A7 := Aside0.mk A70
     clear A70
     by_cases c8 : 3 < (l1.length : Int)
     ·rw [if_pos c8] at H
      have c8b0 : decide (3 < (l1.length : Int)) = true := decide_eq_true c8
      have c8b1 : decide (3 < l1.length) = true := decide_eq_true (by omega)
      clear c8
      by_cases c9 : 6 < (l1.length : Int)
      ·rw [if_pos c9] at H
       have c9b0 : decide (6 < (l1.length : Int)) = true := decide_eq_true c9
       have c9b1 : decide (6 < l1.length) = true := decide_eq_true (by omega)
       clear c9
       replace H := Option.bind_eq_some_iff.mp H
       obtain ⟨t314, A100, H⟩ := H
       replace H : ((impl_plane_crossing.f k l0 (rd l1 2) (rd l1 3) (rd l1 5) (rd l1 6)).bind fun t319 => (some (([t309, t314, t319] : List Int)))) = some r := H
       have A10 := Aside0.mk A100
       clear A100
       replace H := Option.bind_eq_some_iff.mp H
       obtain ⟨t319, A110, H⟩ := H
       replace H : (some (([t309, t314, t319] : List Int))) = some r := H
       have A11 := Aside0.mk A110
       clear A110
       obtain ⟨y320, hy320⟩ : ∃ y_ : List Int, y_ = (([t309, t314, t319] : List Int)) := ⟨_, rfl⟩
       replace H : (some y320) = some r := by first | (rw [hy320]; with_reducible exact H) | (have H2_ := (Option.bind_some _ _).symm.trans H; rw [hy320]; with_reducible exact H2_) | (have H2_ := (Option.bind_some _ _).symm.trans H; with_reducible exact H2_) | with_reducible exact H | (rw [hy320]; exact H) | exact H
       have Ny320 := Aside0.mk hy320
       clear hy320
       obtain rfl := Option.some.inj H
       go_enter Try.func67, Try.ntmps67
       try go_wp2
       have n0_ := Aside0.mk (below_drew1 HB.out)
       clear HB
       have HB := n0_
       clear n0_
       have p305 : 0 ≤ (1 : Int) := (by omega)
       have q305 : 1 < (l1.length : Int) := dd_
       obtain ⟨ad305, e305, hx305_0⟩ := Kd.at_int HR1.out 1 p305 q305
       have hw305_0 := hx305_0
       (try rw [show ((1 : Int)).toNat = 1 from rfl] at hw305_0)
       (try rw [show 1 * 1 = 1 from rfl] at hw305_0)
       (try simp only [Nat.reduceMul, Nat.reduceEqDiff, Go.Addr.add, ↓reduceIte] at hw305_0)
       cases e305
       (try simp only [show (1 : Int).toNat = 1 from rfl, Nat.reduceMul, Nat.reduceEqDiff, Go.Addr.add, ↓reduceIte] at hx305_0)
       have qi305 : (1 < l1.length) = True := eq_true (by omega)
       (try rw [show ((1 : Int)).toNat = 1 from rfl] at hx305_0)
       replace hx305_0 := hc_ HB hx305_0
       replace p305 := eq_true p305
       replace q305 := eq_true q305
       have p306 : 0 ≤ (2 : Int) := (by omega)
       have q306 : 2 < (l1.length : Int) := dd_
       obtain ⟨ad306, e306, hx306_0⟩ := Kd.at_int HR1.out 2 p306 q306
       have hw306_0 := hx306_0
       (try rw [show ((2 : Int)).toNat = 2 from rfl] at hw306_0)
       (try rw [show 2 * 1 = 2 from rfl] at hw306_0)
       (try simp only [Nat.reduceMul, Nat.reduceEqDiff, Go.Addr.add, ↓reduceIte] at hw306_0)
       obtain rfl : ad305 = ad306 := (by injection e306)
       (try simp only [show (2 : Int).toNat = 2 from rfl, Nat.reduceMul, Nat.reduceEqDiff, Go.Addr.add, ↓reduceIte] at hx306_0)
       have qi306 : (2 < l1.length) = True := eq_true (by omega)
       (try rw [show ((2 : Int)).toNat = 2 from rfl] at hx306_0)
       replace hx306_0 := hc_ HB hx306_0
       replace p306 := eq_true p306
       replace q306 := eq_true q306
       have p307 : 0 ≤ (4 : Int) := (by omega)
       have q307 : 4 < (l1.length : Int) := dd_
       obtain ⟨ad307, e307, hx307_0⟩ := Kd.at_int HR1.out 4 p307 q307
       have hw307_0 := hx307_0
       (try rw [show ((4 : Int)).toNat = 4 from rfl] at hw307_0)
       (try rw [show 4 * 1 = 4 from rfl] at hw307_0)
       (try simp only [Nat.reduceMul, Nat.reduceEqDiff, Go.Addr.add, ↓reduceIte] at hw307_0)
       obtain rfl : ad305 = ad307 := (by injection e307)
       (try simp only [show (4 : Int).toNat = 4 from rfl, Nat.reduceMul, Nat.reduceEqDiff, Go.Addr.add, ↓reduceIte] at hx307_0)
       have qi307 : (4 < l1.length) = True := eq_true (by omega)
       (try rw [show ((4 : Int)).toNat = 4 from rfl] at hx307_0)
       replace hx307_0 := hc_ HB hx307_0
       replace p307 := eq_true p307
       replace q307 := eq_true q307
       have p308 : 0 ≤ (5 : Int) := (by omega)
       have q308 : 5 < (l1.length : Int) := dd_
       obtain ⟨ad308, e308, hx308_0⟩ := Kd.at_int HR1.out 5 p308 q308
       have hw308_0 := hx308_0
       (try rw [show ((5 : Int)).toNat = 5 from rfl] at hw308_0)
       (try rw [show 5 * 1 = 5 from rfl] at hw308_0)
       (try simp only [Nat.reduceMul, Nat.reduceEqDiff, Go.Addr.add, ↓reduceIte] at hw308_0)
       obtain rfl : ad305 = ad308 := (by injection e308)
       (try simp only [show (5 : Int).toNat = 5 from rfl, Nat.reduceMul, Nat.reduceEqDiff, Go.Addr.add, ↓reduceIte] at hx308_0)
       have qi308 : (5 < l1.length) = True := eq_true (by omega)
       (try rw [show ((5 : Int)).toNat = 5 from rfl] at hx308_0)
       replace hx308_0 := hc_ HB hx308_0
       replace p308 := eq_true p308
       replace q308 := eq_true q308
       have p310 : 0 ≤ (1 : Int) := (by omega)
       have q310 : 1 < (l1.length : Int) := dd_
       obtain ⟨ad310, e310, hx310_0⟩ := Kd.at_int HR1.out 1 p310 q310
       have hw310_0 := hx310_0
       (try rw [show ((1 : Int)).toNat = 1 from rfl] at hw310_0)
       (try rw [show 1 * 1 = 1 from rfl] at hw310_0)
       (try simp only [Nat.reduceMul, Nat.reduceEqDiff, Go.Addr.add, ↓reduceIte] at hw310_0)
       obtain rfl : ad305 = ad310 := (by injection e310)
       (try simp only [show (1 : Int).toNat = 1 from rfl, Nat.reduceMul, Nat.reduceEqDiff, Go.Addr.add, ↓reduceIte] at hx310_0)
       have qi310 : (1 < l1.length) = True := eq_true (by omega)
       (try rw [show ((1 : Int)).toNat = 1 from rfl] at hx310_0)
       replace hx310_0 := hc_ HB hx310_0
       replace p310 := eq_true p310
       replace q310 := eq_true q310
       have p311 : 0 ≤ (3 : Int) := (by omega)
       have q311 : 3 < (l1.length : Int) := dd_
       obtain ⟨ad311, e311, hx311_0⟩ := Kd.at_int HR1.out 3 p311 q311
       have hw311_0 := hx311_0
       (try rw [show ((3 : Int)).toNat = 3 from rfl] at hw311_0)
       (try rw [show 3 * 1 = 3 from rfl] at hw311_0)
       (try simp only [Nat.reduceMul, Nat.reduceEqDiff, Go.Addr.add, ↓reduceIte] at hw311_0)
       obtain rfl : ad305 = ad311 := (by injection e311)
       (try simp only [show (3 : Int).toNat = 3 from rfl, Nat.reduceMul, Nat.reduceEqDiff, Go.Addr.add, ↓reduceIte] at hx311_0)
       have qi311 : (3 < l1.length) = True := eq_true (by omega)
       (try rw [show ((3 : Int)).toNat = 3 from rfl] at hx311_0)
       replace hx311_0 := hc_ HB hx311_0
       replace p311 := eq_true p311
       replace q311 := eq_true q311
       have p312 : 0 ≤ (4 : Int) := (by omega)
       have q312 : 4 < (l1.length : Int) := dd_
       obtain ⟨ad312, e312, hx312_0⟩ := Kd.at_int HR1.out 4 p312 q312
       have hw312_0 := hx312_0
       (try rw [show ((4 : Int)).toNat = 4 from rfl] at hw312_0)
       (try rw [show 4 * 1 = 4 from rfl] at hw312_0)
       (try simp only [Nat.reduceMul, Nat.reduceEqDiff, Go.Addr.add, ↓reduceIte] at hw312_0)
       obtain rfl : ad305 = ad312 := (by injection e312)
       (try simp only [show (4 : Int).toNat = 4 from rfl, Nat.reduceMul, Nat.reduceEqDiff, Go.Addr.add, ↓reduceIte] at hx312_0)
       have qi312 : (4 < l1.length) = True := eq_true (by omega)
       (try rw [show ((4 : Int)).toNat = 4 from rfl] at hx312_0)
       replace hx312_0 := hc_ HB hx312_0
       replace p312 := eq_true p312
       replace q312 := eq_true q312
       have p313 : 0 ≤ (6 : Int) := (by omega)
       have q313 : 6 < (l1.length : Int) := dd_
       obtain ⟨ad313, e313, hx313_0⟩ := Kd.at_int HR1.out 6 p313 q313
       have hw313_0 := hx313_0
       (try rw [show ((6 : Int)).toNat = 6 from rfl] at hw313_0)
       (try rw [show 6 * 1 = 6 from rfl] at hw313_0)
       (try simp only [Nat.reduceMul, Nat.reduceEqDiff, Go.Addr.add, ↓reduceIte] at hw313_0)
       obtain rfl : ad305 = ad313 := (by injection e313)
       (try simp only [show (6 : Int).toNat = 6 from rfl, Nat.reduceMul, Nat.reduceEqDiff, Go.Addr.add, ↓reduceIte] at hx313_0)
       have qi313 : (6 < l1.length) = True := eq_true (by omega)
       (try rw [show ((6 : Int)).toNat = 6 from rfl] at hx313_0)
       replace hx313_0 := hc_ HB hx313_0
       replace p313 := eq_true p313
       replace q313 := eq_true q313
       have p315 : 0 ≤ (2 : Int) := (by omega)
       have q315 : 2 < (l1.length : Int) := dd_
       obtain ⟨ad315, e315, hx315_0⟩ := Kd.at_int HR1.out 2 p315 q315
       have hw315_0 := hx315_0
       (try rw [show ((2 : Int)).toNat = 2 from rfl] at hw315_0)
       (try rw [show 2 * 1 = 2 from rfl] at hw315_0)
       (try simp only [Nat.reduceMul, Nat.reduceEqDiff, Go.Addr.add, ↓reduceIte] at hw315_0)
       obtain rfl : ad305 = ad315 := (by injection e315)
       (try simp only [show (2 : Int).toNat = 2 from rfl, Nat.reduceMul, Nat.reduceEqDiff, Go.Addr.add, ↓reduceIte] at hx315_0)
       have qi315 : (2 < l1.length) = True := eq_true (by omega)
       (try rw [show ((2 : Int)).toNat = 2 from rfl] at hx315_0)
       replace hx315_0 := hc_ HB hx315_0
       replace p315 := eq_true p315
       replace q315 := eq_true q315
       have p316 : 0 ≤ (3 : Int) := (by omega)
       have q316 : 3 < (l1.length : Int) := dd_
       obtain ⟨ad316, e316, hx316_0⟩ := Kd.at_int HR1.out 3 p316 q316
       have hw316_0 := hx316_0
       (try rw [show ((3 : Int)).toNat = 3 from rfl] at hw316_0)
       (try rw [show 3 * 1 = 3 from rfl] at hw316_0)
       (try simp only [Nat.reduceMul, Nat.reduceEqDiff, Go.Addr.add, ↓reduceIte] at hw316_0)
       obtain rfl : ad305 = ad316 := (by injection e316)
       (try simp only [show (3 : Int).toNat = 3 from rfl, Nat.reduceMul, Nat.reduceEqDiff, Go.Addr.add, ↓reduceIte] at hx316_0)
       have qi316 : (3 < l1.length) = True := eq_true (by omega)
       (try rw [show ((3 : Int)).toNat = 3 from rfl] at hx316_0)
       replace hx316_0 := hc_ HB hx316_0
       replace p316 := eq_true p316
       replace q316 := eq_true q316
       have p317 : 0 ≤ (5 : Int) := (by omega)
       have q317 : 5 < (l1.length : Int) := dd_
       obtain ⟨ad317, e317, hx317_0⟩ := Kd.at_int HR1.out 5 p317 q317
       have hw317_0 := hx317_0
       (try rw [show ((5 : Int)).toNat = 5 from rfl] at hw317_0)
       (try rw [show 5 * 1 = 5 from rfl] at hw317_0)
       (try simp only [Nat.reduceMul, Nat.reduceEqDiff, Go.Addr.add, ↓reduceIte] at hw317_0)
       obtain rfl : ad305 = ad317 := (by injection e317)
       (try simp only [show (5 : Int).toNat = 5 from rfl, Nat.reduceMul, Nat.reduceEqDiff, Go.Addr.add, ↓reduceIte] at hx317_0)
       have qi317 : (5 < l1.length) = True := eq_true (by omega)
       (try rw [show ((5 : Int)).toNat = 5 from rfl] at hx317_0)
       replace hx317_0 := hc_ HB hx317_0
       replace p317 := eq_true p317
       replace q317 := eq_true q317
       have p318 : 0 ≤ (6 : Int) := (by omega)
       have q318 : 6 < (l1.length : Int) := dd_
       obtain ⟨ad318, e318, hx318_0⟩ := Kd.at_int HR1.out 6 p318 q318
       have hw318_0 := hx318_0
       (try rw [show ((6 : Int)).toNat = 6 from rfl] at hw318_0)
       (try rw [show 6 * 1 = 6 from rfl] at hw318_0)
       (try simp only [Nat.reduceMul, Nat.reduceEqDiff, Go.Addr.add, ↓reduceIte] at hw318_0)
       obtain rfl : ad305 = ad318 := (by injection e318)
       (try simp only [show (6 : Int).toNat = 6 from rfl, Nat.reduceMul, Nat.reduceEqDiff, Go.Addr.add, ↓reduceIte] at hx318_0)
       have qi318 : (6 < l1.length) = True := eq_true (by omega)
       (try rw [show ((6 : Int)).toNat = 6 from rfl] at hx318_0)
       replace hx318_0 := hc_ HB hx318_0
       replace p318 := eq_true p318
       replace q318 := eq_true q318
       refine start_ (n := 44) (S := fun w' => w'.cell? ⟨ad305.block, ad305.off + 1, none⟩ = some (.int .i64 (rd l1 1)) ∧ w'.cell? ⟨ad305.block, ad305.off + 2, none⟩ = some (.int .i64 (rd l1 2)) ∧ w'.cell? ⟨ad305.block, ad305.off + 4, none⟩ = some (.int .i64 (rd l1 4)) ∧ w'.cell? ⟨ad305.block, ad305.off + 5, none⟩ = some (.int .i64 (rd l1 5)) ∧ w'.cell? ⟨ad305.block, ad305.off + 1, none⟩ = some (.int .i64 (rd l1 1)) ∧ w'.cell? ⟨ad305.block, ad305.off + 3, none⟩ = some (.int .i64 (rd l1 3)) ∧ w'.cell? ⟨ad305.block, ad305.off + 4, none⟩ = some (.int .i64 (rd l1 4)) ∧ w'.cell? ⟨ad305.block, ad305.off + 6, none⟩ = some (.int .i64 (rd l1 6)) ∧ w'.cell? ⟨ad305.block, ad305.off + 2, none⟩ = some (.int .i64 (rd l1 2)) ∧ w'.cell? ⟨ad305.block, ad305.off + 3, none⟩ = some (.int .i64 (rd l1 3)) ∧ w'.cell? ⟨ad305.block, ad305.off + 5, none⟩ = some (.int .i64 (rd l1 5)) ∧ w'.cell? ⟨ad305.block, ad305.off + 6, none⟩ = some (.int .i64 (rd l1 6))) (ds := []) #[F_,F_,F_,F_,F_,F_,F_,F_,F_,F_,F_,F_,F_,F_,F_,F_,F_,F_,F_,F_,F_,F_,F_,F_,F_,F_,F_,F_,F_,F_,F_,F_,F_,F_,F_,F_,F_,F_,F_,F_,F_,F_,F_,F_] (by kernel_rfl) rfl rfl ⟨(hc_ HB hw305_0), (hc_ HB hw306_0), (hc_ HB hw307_0), (hc_ HB hw308_0), (hc_ HB hw310_0), (hc_ HB hw311_0), (hc_ HB hw312_0), (hc_ HB hw313_0), (hc_ HB hw315_0), (hc_ HB hw316_0), (hc_ HB hw317_0), (hc_ HB hw318_0)⟩ (fun hHeld => ?_); refine with_tabW impl_plane_twinPoints.tab1 impl_plane_twinPoints.bits1 (fun HT_ HW_ => ?_)
       generalize w.drew = w12 at HB hx305_0 hx306_0 hx307_0 hx308_0 hx310_0 hx311_0 hx312_0 hx313_0 hx315_0 hx316_0 hx317_0 hx318_0 hHeld ⊢
       refine p_ 0 5 (m_ 44 1) HT_.out ?_
       refine p_ 1 6 (m_ 44 3) HT_.out ?_
       refine p_ 2 7 (m_ 44 7) HT_.out ?_
       refine p_ 4 9 (m_ 44 23) HT_.out ?_
       refine p_ 5 10 (m_ 44 55) HT_.out ?_
       refine p_ 7 12 (m_ 44 183) HT_.out ?_
       refine p_ 8 13 (m_ 44 439) HT_.out ?_
       refine p_ 10 15 (m_ 44 1463) HT_.out ?_
       refine p_ 11 16 (m_ 44 3511) HT_.out ?_
       refine p_ 14 19 (m_ 44 19895) HT_.out ?_
       refine p_ 15 20 (m_ 44 52663) HT_.out ?_
       refine p_ 16 21 (m_ 44 118199) HT_.out ?_
       refine p_ 18 23 (m_ 44 380343) HT_.out ?_
       refine p_ 19 24 (m_ 44 904631) HT_.out ?_
       refine p_ 21 26 (m_ 44 3001783) HT_.out ?_
       refine p_ 22 27 (m_ 44 7196087) HT_.out ?_
       refine p_ 24 29 (m_ 44 23973303) HT_.out ?_
       refine p_ 25 30 (m_ 44 57527735) HT_.out ?_
       refine p_ 28 33 (m_ 44 325963191) HT_.out ?_
       refine p_ 29 34 (m_ 44 862834103) HT_.out ?_
       refine p_ 30 35 (m_ 44 1936575927) HT_.out ?_
       refine p_ 32 37 (m_ 44 6231543223) HT_.out ?_
       refine p_ 33 38 (m_ 44 14821477815) HT_.out ?_
       refine p_ 35 40 (m_ 44 49181216183) HT_.out ?_
       refine p_ 36 41 (m_ 44 117900692919) HT_.out ?_
       refine p_ 38 43 (m_ 44 392778599863) HT_.out ?_
       refine p_ 39 44 (m_ 44 942534413751) HT_.out ?_
       refine take_ (i := 3) (N := some 8) (v := ?_) (a' := ?_) (m_ 44 942534413759) rfl rfl (take_ofW HT_.out HW_.out (by kernel_rfl)) (fun _ _ _ h => h) (Or.inl ⟨by rfl, ?_⟩) hHeld ?_ ?_; rotate_left; (rintro w' ⟨s0, s1, s2, s3, s4, s5, s6, s7, s8, s9, s10, s11⟩; go_simp; with_reducible rfl); rotate_left; (simp only [Act.put, List.setIfInBounds_toArray, List.set_cons_zero, List.set_cons_succ, i64_w, i32_w]; rfl)
       refine take_ (i := 6) (N := some 11) (v := ?_) (a' := ?_) (m_ 44 942534413823) rfl rfl (take_ofW HT_.out HW_.out (by kernel_rfl)) (fun _ _ _ h => h) (Or.inl ⟨by rfl, ?_⟩) hHeld ?_ ?_; rotate_left; (rintro w' ⟨s0, s1, s2, s3, s4, s5, s6, s7, s8, s9, s10, s11⟩; go_simp; with_reducible rfl); rotate_left; (simp only [Act.put, List.setIfInBounds_toArray, List.set_cons_zero, List.set_cons_succ, i64_w, i32_w]; rfl)
       refine take_ (i := 9) (N := some 14) (v := ?_) (a' := ?_) (m_ 44 942534414335) rfl rfl (take_ofW HT_.out HW_.out (by kernel_rfl)) (fun _ _ _ h => h) (Or.inl ⟨by rfl, ?_⟩) hHeld ?_ ?_; rotate_left; (rintro w' ⟨s0, s1, s2, s3, s4, s5, s6, s7, s8, s9, s10, s11⟩; go_simp; with_reducible rfl); rotate_left; (simp only [Act.put, List.setIfInBounds_toArray, List.set_cons_zero, List.set_cons_succ, i64_w, i32_w]; rfl)
       refine take_ (i := 12) (N := some 17) (v := ?_) (a' := ?_) (m_ 44 942534418431) rfl rfl (take_ofW HT_.out HW_.out (by kernel_rfl)) (fun _ _ _ h => h) (Or.inl ⟨by rfl, ?_⟩) hHeld ?_ ?_; rotate_left; (rintro w' ⟨s0, s1, s2, s3, s4, s5, s6, s7, s8, s9, s10, s11⟩; go_simp; with_reducible rfl); rotate_left; (simp only [Act.put, List.setIfInBounds_toArray, List.set_cons_zero, List.set_cons_succ, i64_w, i32_w]; rfl)
       refine take_ (i := 17) (N := some 22) (v := ?_) (a' := ?_) (m_ 44 942534549503) rfl rfl (take_ofW HT_.out HW_.out (by kernel_rfl)) (fun _ _ _ h => h) (Or.inl ⟨by rfl, ?_⟩) hHeld ?_ ?_; rotate_left; (rintro w' ⟨s0, s1, s2, s3, s4, s5, s6, s7, s8, s9, s10, s11⟩; go_simp; with_reducible rfl); rotate_left; (simp only [Act.put, List.setIfInBounds_toArray, List.set_cons_zero, List.set_cons_succ, i64_w, i32_w]; rfl)
       refine take_ (i := 20) (N := some 25) (v := ?_) (a' := ?_) (m_ 44 942535598079) rfl rfl (take_ofW HT_.out HW_.out (by kernel_rfl)) (fun _ _ _ h => h) (Or.inl ⟨by rfl, ?_⟩) hHeld ?_ ?_; rotate_left; (rintro w' ⟨s0, s1, s2, s3, s4, s5, s6, s7, s8, s9, s10, s11⟩; go_simp; with_reducible rfl); rotate_left; (simp only [Act.put, List.setIfInBounds_toArray, List.set_cons_zero, List.set_cons_succ, i64_w, i32_w]; rfl)
       refine take_ (i := 23) (N := some 28) (v := ?_) (a' := ?_) (m_ 44 942543986687) rfl rfl (take_ofW HT_.out HW_.out (by kernel_rfl)) (fun _ _ _ h => h) (Or.inl ⟨by rfl, ?_⟩) hHeld ?_ ?_; rotate_left; (rintro w' ⟨s0, s1, s2, s3, s4, s5, s6, s7, s8, s9, s10, s11⟩; go_simp; with_reducible rfl); rotate_left; (simp only [Act.put, List.setIfInBounds_toArray, List.set_cons_zero, List.set_cons_succ, i64_w, i32_w]; rfl)
       refine take_ (i := 26) (N := some 31) (v := ?_) (a' := ?_) (m_ 44 942611095551) rfl rfl (take_ofW HT_.out HW_.out (by kernel_rfl)) (fun _ _ _ h => h) (Or.inl ⟨by rfl, ?_⟩) hHeld ?_ ?_; rotate_left; (rintro w' ⟨s0, s1, s2, s3, s4, s5, s6, s7, s8, s9, s10, s11⟩; go_simp; with_reducible rfl); rotate_left; (simp only [Act.put, List.setIfInBounds_toArray, List.set_cons_zero, List.set_cons_succ, i64_w, i32_w]; rfl)
       refine take_ (i := 31) (N := some 36) (v := ?_) (a' := ?_) (m_ 44 944758579199) rfl rfl (take_ofW HT_.out HW_.out (by kernel_rfl)) (fun _ _ _ h => h) (Or.inl ⟨by rfl, ?_⟩) hHeld ?_ ?_; rotate_left; (rintro w' ⟨s0, s1, s2, s3, s4, s5, s6, s7, s8, s9, s10, s11⟩; go_simp; with_reducible rfl); rotate_left; (simp only [Act.put, List.setIfInBounds_toArray, List.set_cons_zero, List.set_cons_succ, i64_w, i32_w]; rfl)
       refine take_ (i := 34) (N := some 39) (v := ?_) (a' := ?_) (m_ 44 961938448383) rfl rfl (take_ofW HT_.out HW_.out (by kernel_rfl)) (fun _ _ _ h => h) (Or.inl ⟨by rfl, ?_⟩) hHeld ?_ ?_; rotate_left; (rintro w' ⟨s0, s1, s2, s3, s4, s5, s6, s7, s8, s9, s10, s11⟩; go_simp; with_reducible rfl); rotate_left; (simp only [Act.put, List.setIfInBounds_toArray, List.set_cons_zero, List.set_cons_succ, i64_w, i32_w]; rfl)
       refine take_ (i := 37) (N := some 42) (v := ?_) (a' := ?_) (m_ 44 1099377401855) rfl rfl (take_ofW HT_.out HW_.out (by kernel_rfl)) (fun _ _ _ h => h) (Or.inl ⟨by rfl, ?_⟩) hHeld ?_ ?_; rotate_left; (rintro w' ⟨s0, s1, s2, s3, s4, s5, s6, s7, s8, s9, s10, s11⟩; go_simp; with_reducible rfl); rotate_left; (simp only [Act.put, List.setIfInBounds_toArray, List.set_cons_zero, List.set_cons_succ, i64_w, i32_w]; rfl)
       refine take_ (i := 40) (N := some 45) (v := ?_) (a' := ?_) (m_ 44 2198889029631) rfl rfl (take_ofW HT_.out HW_.out (by kernel_rfl)) (fun _ _ _ h => h) (Or.inl ⟨by rfl, ?_⟩) hHeld ?_ ?_; rotate_left; (rintro w' ⟨s0, s1, s2, s3, s4, s5, s6, s7, s8, s9, s10, s11⟩; go_simp; with_reducible rfl); rotate_left; (simp only [Act.put, List.setIfInBounds_toArray, List.set_cons_zero, List.set_cons_succ, i64_w, i32_w]; rfl)
       refine one_ (i := 13) (N := some 18) (m_ 44 2198889037823) rfl rfl (one_of HT_.out (by kernel_rfl)) (by decide) (fun K hK => ?_)
       refine goes_ Try.func132 (by kernel_rfl) rfl #[.slice A0 l0.length c0, .int .i64 (rd l1 1), .int .i64 (rd l1 2), .int .i64 (rd l1 4), .int .i64 (rd l1 5)] (by rfl) rfl rfl ll_ ?_
       with_reducible refine (impl_plane_crossing.calls k _ _ l0 (rd l1 1) (rd l1 2) (rd l1 4) (rd l1 5) t309 _ ?side1 ?side2 A7.out).mono ?_
       (case side1 => exact sb_ HR0 HB)
       (case side2 => exact HC0.out)
       rintro e w' ⟨rfl, ⟨nd, rfl⟩⟩
       refine ⟨_, rfl, ?_⟩
       refine hK.out _ _ ⟨(hc_ HB hw305_0), (hc_ HB hw306_0), (hc_ HB hw307_0), (hc_ HB hw308_0), (hc_ HB hw310_0), (hc_ HB hw311_0), (hc_ HB hw312_0), (hc_ HB hw313_0), (hc_ HB hw315_0), (hc_ HB hw316_0), (hc_ HB hw317_0), (hc_ HB hw318_0)⟩ (fun hHeld => ?_)
       clear hK K
       refine norm_ (a' := ?_) ?_ ?_; rotate_left; (show Act.put _ (some 18) _ = _; simp only [Act.put, List.setIfInBounds_toArray, List.set_cons_zero, List.set_cons_succ, i64_w, i32_w]; rfl)
       refine one_ (i := 27) (N := some 32) (m_ 44 2199023255551) rfl rfl (one_of HT_.out (by kernel_rfl)) (by decide) (fun K hK => ?_)
       refine goes_ Try.func132 (by kernel_rfl) rfl #[.slice A0 l0.length c0, .int .i64 (rd l1 1), .int .i64 (rd l1 3), .int .i64 (rd l1 4), .int .i64 (rd l1 6)] (by rfl) rfl rfl ll_ ?_
       with_reducible refine (impl_plane_crossing.calls k _ _ l0 (rd l1 1) (rd l1 3) (rd l1 4) (rd l1 6) t314 _ ?side1 ?side2 A10.out).mono ?_
       (case side1 => repeat (first | exact (Kd.C_below HR0.out (bb_ HB)) | (with_reducible refine Kd.C_alloc ?_ _) | (with_reducible refine Kd.C_drewN ?_ _) | (with_reducible refine Kd.C_drew ?_)))
       (case side2 => exact HC0.out)
       rintro e w' ⟨rfl, ⟨nd, rfl⟩⟩
       refine ⟨_, rfl, ?_⟩
       refine hK.out _ _ ⟨(hc_ HB hw305_0), (hc_ HB hw306_0), (hc_ HB hw307_0), (hc_ HB hw308_0), (hc_ HB hw310_0), (hc_ HB hw311_0), (hc_ HB hw312_0), (hc_ HB hw313_0), (hc_ HB hw315_0), (hc_ HB hw316_0), (hc_ HB hw317_0), (hc_ HB hw318_0)⟩ (fun hHeld => ?_)
       clear hK K
       refine norm_ (a' := ?_) ?_ ?_; rotate_left; (show Act.put _ (some 32) _ = _; simp only [Act.put, List.setIfInBounds_toArray, List.set_cons_zero, List.set_cons_succ, i64_w, i32_w]; rfl)
       refine one_ (i := 41) (N := some 46) (m_ 44 4398046511103) rfl rfl (one_of HT_.out (by kernel_rfl)) (by decide) (fun K hK => ?_)
       refine goes_ Try.func132 (by kernel_rfl) rfl #[.slice A0 l0.length c0, .int .i64 (rd l1 2), .int .i64 (rd l1 3), .int .i64 (rd l1 5), .int .i64 (rd l1 6)] (by rfl) rfl rfl ll_ ?_
       with_reducible refine (impl_plane_crossing.calls k _ _ l0 (rd l1 2) (rd l1 3) (rd l1 5) (rd l1 6) t319 _ ?side1 ?side2 A11.out).mono ?_
       (case side1 => repeat (first | exact (Kd.C_below HR0.out (bb_ HB)) | (with_reducible refine Kd.C_alloc ?_ _) | (with_reducible refine Kd.C_drewN ?_ _) | (with_reducible refine Kd.C_drew ?_)))
       (case side2 => exact HC0.out)
       rintro e w' ⟨rfl, ⟨nd, rfl⟩⟩
       refine ⟨_, rfl, ?_⟩
       refine hK.out _ _ ⟨(hc_ HB hw305_0), (hc_ HB hw306_0), (hc_ HB hw307_0), (hc_ HB hw308_0), (hc_ HB hw310_0), (hc_ HB hw311_0), (hc_ HB hw312_0), (hc_ HB hw313_0), (hc_ HB hw315_0), (hc_ HB hw316_0), (hc_ HB hw317_0), (hc_ HB hw318_0)⟩ (fun hHeld => ?_)
       clear hK K
       refine norm_ (a' := ?_) ?_ ?_; rotate_left; (show Act.put _ (some 46) _ = _; simp only [Act.put, List.setIfInBounds_toArray, List.set_cons_zero, List.set_cons_succ, i64_w, i32_w]; rfl)
       refine one_ (i := 42) (N := some 47) (m_ 44 8796093022207) rfl rfl (one_of HT_.out (by kernel_rfl)) (by decide) (fun K hK => ?_)
       refine Kd.R_lit_step (Kd.int .i64) _ 3 ?hg (N := 47) ?hd (xs := ([t309, t314, t319] : List Int)) (inner := [.int .i64 t309, .int .i64 t314, .int .i64 t319]) (ok := fun _ => True) (okp := fun _ => True) ?hr ?hp (fun _ hk => hk) trivial (Below.refl _ _) (Nat.le_refl _) (by simp) ?_; (case hd => rfl); (case hg => rfl); (case hr => first | (go_simp; done) | (go_simp; rfl)); (case hp => exact (Reps.one (show Kd.M (Kd.int .i64) _ _ _ t309 [.int .i64 t309] from rfl) (Reps.one (show Kd.M (Kd.int .i64) _ _ _ t314 [.int .i64 t314] from rfl) (Reps.one (show Kd.M (Kd.int .i64) _ _ _ t319 [.int .i64 t319] from rfl) (Reps.none _ _)))))
       intro v321 w13 ho14 hb hg_ hnew_
       clear hg_ hnew_
       (first | rw [← Ny320.out] at ho14 | (simp only [Int.reduceToNat] at ho14; rw [← Ny320.out] at ho14))
       have n0_ := Aside0.mk (Kd.R_lower ho14 (below_size (bb_ HB)))
       have n1_ := Aside0.mk (below_step (bb_ HB) hb)
       clear HB
       have HO322 := n0_
       have HB := n1_
       clear n0_ n1_
       clear hb ho14
       refine hK.out _ _ ⟨(hc_ HB hw305_0), (hc_ HB hw306_0), (hc_ HB hw307_0), (hc_ HB hw308_0), (hc_ HB hw310_0), (hc_ HB hw311_0), (hc_ HB hw312_0), (hc_ HB hw313_0), (hc_ HB hw315_0), (hc_ HB hw316_0), (hc_ HB hw317_0), (hc_ HB hw318_0)⟩ (fun hHeld => ?_)
       clear hK K
       refine norm_ (a' := ?_) ?_ ?_; rotate_left; (show Act.put _ (some 47) _ = _; simp only [Act.put, List.setIfInBounds_toArray, List.set_cons_zero, List.set_cons_succ, i64_w, i32_w]; rfl)
       refine p_ 43 4 (m_ 44 17592186044415) HT_.out ?_
       refine done_ (done_of HT_.out (by kernel_rfl)) ?_
       try go_wp2
       go_ret
       exact ⟨_, ee_, by (with_reducible repeat (first | apply Kd.R_alloc | apply Kd.R_drewN | apply Kd.R_drew)); exact HO322.out, bb_ HB⟩
      ·rw [if_neg c9] at H
       exact absurd H (by simp)
     ·rw [if_neg c8] at H
      exact absurd H (by simp)
    ·rw [if_neg c6] at H
     exact absurd H (by simp)
   ·rw [if_neg c5] at H
    exact absurd H (by simp)
  ·rw [if_neg c4] at H
   exact absurd H (by simp)
 ·rw [if_neg c3] at H
  exact absurd H (by simp)
end Go.Proofs.Ytcbkoecanldlpaa.P

namespace Go.Proofs.Ytcbkoecanldlpaa.P
open Go.RowKit Go.Proofs.YtcbkoecanldlpaaW.PrintWords Go.Proofs.YtcbkoecanldlpaaW.PrintLast
set_option linter.unusedVariables false
set_option linter.unusedSimpArgs false

def impl_TwinCloses.f (k : Nat) (l0 : List Int) (l1 : List Int) : Option (Bool) := (impl_isSystem.f l0).bind fun t338 => (if t338 = true then ((impl_plane_isTwin.f k l0 l1).bind fun t339 => (if t339 = true then ((impl_plane_twinPoints.f k l0 l1).bind fun t340 => ((impl_plane_closes.f k l0 t340).bind fun t343 => (some t343))) else (some false))) else (some false))
set_option maxHeartbeats 8000000 in
set_option maxRecDepth 100000 in
theorem impl_TwinCloses.calls (k : Nat) (A0 : Option Addr) (c0 : Nat) (l0 : List Int) (A1 : Option Addr) (c1 : Nat) (l1 : List Int) (r : Bool) (w : World) (hr0 : Kd.C (Kd.int .i64) w A0 l0.length l0) (hc0 : l0.length ≤ c0) (hr1 : Kd.C (Kd.int .i64) w A1 l1.length l1) (hc1 : l1.length ≤ c1) (h : impl_TwinCloses.f k l0 l1 = some r) :
  Calls Try.prog 19 #[.slice A0 l0.length c0, .slice A1 l1.length c1] w fun e w' => e = .returned (.bool r) ∧ Below w.heap.size w w' := by
 have HR0 := Aside0.mk hr0
 have HC0 := Aside0.mk hc0
 clear hr0 hc0
 have HR1 := Aside0.mk hr1
 have HC1 := Aside0.mk hc1
 clear hr1 hc1
 have HB := Aside0.mk (Below.refl w.heap.size w)
 have H : ((impl_isSystem.f l0).bind fun t338 => (if t338 = true then ((impl_plane_isTwin.f k l0 l1).bind fun t339 => (if t339 = true then ((impl_plane_twinPoints.f k l0 l1).bind fun t340 => ((impl_plane_closes.f k l0 t340).bind fun t343 => (some t343))) else (some false))) else (some false))) = some r := h
 clear h
 replace H := Option.bind_eq_some_iff.mp H
 obtain ⟨t338, A30, H⟩ := H
 replace H : (if t338 = true then ((impl_plane_isTwin.f k l0 l1).bind fun t339 => (if t339 = true then ((impl_plane_twinPoints.f k l0 l1).bind fun t340 => ((impl_plane_closes.f k l0 t340).bind fun t343 => (some t343))) else (some false))) else (some false)) = some r := H
 have A3 := Aside0.mk A30
 clear A30
 by_cases c4 : t338 = true
 ·subst c4
  have H1 : ((impl_plane_isTwin.f k l0 l1).bind fun t339 => (if t339 = true then ((impl_plane_twinPoints.f k l0 l1).bind fun t340 => ((impl_plane_closes.f k l0 t340).bind fun t343 => (some t343))) else (some false))) = some r := by rw [if_pos rfl] at H; exact H
  clear H
  have H := H1
  clear H1
  replace H := Option.bind_eq_some_iff.mp H
  obtain ⟨t339, A50, H⟩ := H
  replace H : (if t339 = true then ((impl_plane_twinPoints.f k l0 l1).bind fun t340 => ((impl_plane_closes.f k l0 t340).bind fun t343 => (some t343))) else (some false)) = some r := H
  have A5 := Aside0.mk A50
  clear A50
  by_cases c6 : t339 = true
  ·subst c6
   have H1 : ((impl_plane_twinPoints.f k l0 l1).bind fun t340 => ((impl_plane_closes.f k l0 t340).bind fun t343 => (some t343))) = some r := by rw [if_pos rfl] at H; exact H
   clear H
   have H := H1
   clear H1
   replace H := Option.bind_eq_some_iff.mp H
   obtain ⟨t340, A70, H⟩ := H
   replace H : ((impl_plane_closes.f k l0 t340).bind fun t343 => (some t343)) = some r := H
   have A7 := Aside0.mk A70
   clear A70
   replace H := Option.bind_eq_some_iff.mp H
   obtain ⟨t343, A80, H⟩ := H
   replace H : (some t343) = some r := H
   have A8 := Aside0.mk A80
   clear A80
   obtain rfl := Option.some.inj H
   go_enter Try.func19, Try.ntmps19
   go_wp2_with (first | (refine goesL_ (some 6) rfl rfl Try.func61 (by kernel_rfl) rfl #[.slice A0 l0.length c0] rfl ll_ ?_; (with_reducible refine (impl_isSystem.calls _ _ l0 true _ ?side1 ?side2 A3.out).mono ?_); (case side1 => exact ss_ HR0); (case side2 => exact HC0.out); rintro e w9 ⟨rfl, hb⟩; refine ⟨_, rfl, ?_⟩; have n0_ := Aside0.mk (below_step (bb_ HB) hb); clear HB; have HB := n0_; clear n0_; (try clear hb); (try clear hb2); (try clear hk); (try clear hi)) | (go_at_call 62; (with_reducible refine (impl_plane_isTwin.calls k _ _ l0 _ _ l1 true _ ?side1 ?side2 ?side3 ?side4 A5.out).mono ?_); (case side1 => exact sb_ HR0 HB); (case side2 => exact HC0.out); (case side3 => exact sb_ HR1 HB); (case side4 => exact HC1.out); rintro e w10 ⟨rfl, hb⟩; have n0_ := Aside0.mk (below_step (bb_ HB) hb); clear HB; have HB := n0_; clear n0_; (try clear hb); (try clear hb2); (try clear hk); (try clear hi)) | (go_at_call 67; (with_reducible refine (impl_plane_twinPoints.calls k _ _ l0 _ _ l1 t340 _ ?side1 ?side2 ?side3 ?side4 A7.out).mono ?_); (case side1 => exact sb_ HR0 HB); (case side2 => exact HC0.out); (case side3 => exact sb_ HR1 HB); (case side4 => exact HC1.out); rintro e w11 ⟨v341, rfl, ho0, hb⟩; have n0_ := Aside0.mk (Kd.R_lower ho0 (below_size (bb_ HB))); have n1_ := Aside0.mk (below_step (bb_ HB) hb); clear HB; have HO342 := n0_; have HB := n1_; clear n0_ n1_; (try clear hb); (try clear hb2); (try clear hk); (try clear hi); (try clear ho0); obtain ⟨Ao12, co12, eo12⟩ := Kd.R_slice HO342.out; subst eo12) | (go_at_call 68; (with_reducible refine (impl_plane_closes.calls k _ _ l0 _ _ t340 t343 _ ?side1 ?side2 ?side3 ?side4 A8.out).mono ?_); (case side1 => exact sb_ HR0 HB); (case side2 => exact HC0.out); (case side3 => exact cc_ HO342); (case side4 => exact (Kd.R_reads' HO342.out).2.1); rintro e w13 ⟨rfl, hb⟩; have n0_ := Aside0.mk (Kd.R_below (rr_ HO342) hb); have n1_ := Aside0.mk (below_step (bb_ HB) hb); clear HO342; clear HB; have HO342 := n0_; have HB := n1_; clear n0_ n1_; (try clear hb); (try clear hb2); (try clear hk); (try clear hi)))
   go_ret
   exact ⟨ee_, bb_ HB⟩
  ·replace c6 := Bool.eq_false_iff.mpr c6
   subst c6
   have H1 : (some false) = some r := by rw [if_neg (show ¬ (false = true) by decide)] at H; exact H
   clear H
   have H := H1
   clear H1
   obtain rfl := Option.some.inj H
   go_enter Try.func19, Try.ntmps19
   go_wp2_with (first | (refine goesL_ (some 6) rfl rfl Try.func61 (by kernel_rfl) rfl #[.slice A0 l0.length c0] rfl ll_ ?_; (with_reducible refine (impl_isSystem.calls _ _ l0 true _ ?side1 ?side2 A3.out).mono ?_); (case side1 => exact ss_ HR0); (case side2 => exact HC0.out); rintro e w14 ⟨rfl, hb⟩; refine ⟨_, rfl, ?_⟩; have n0_ := Aside0.mk (below_step (bb_ HB) hb); clear HB; have HB := n0_; clear n0_; (try clear hb); (try clear hb2); (try clear hk); (try clear hi)) | (go_at_call 62; (with_reducible refine (impl_plane_isTwin.calls k _ _ l0 _ _ l1 false _ ?side1 ?side2 ?side3 ?side4 A5.out).mono ?_); (case side1 => exact sb_ HR0 HB); (case side2 => exact HC0.out); (case side3 => exact sb_ HR1 HB); (case side4 => exact HC1.out); rintro e w15 ⟨rfl, hb⟩; have n0_ := Aside0.mk (below_step (bb_ HB) hb); clear HB; have HB := n0_; clear n0_; (try clear hb); (try clear hb2); (try clear hk); (try clear hi)))
   go_ret
   exact ⟨ee_, bb_ HB⟩
 ·replace c4 := Bool.eq_false_iff.mpr c4
  subst c4
  have H1 : (some false) = some r := by rw [if_neg (show ¬ (false = true) by decide)] at H; exact H
  clear H
  have H := H1
  clear H1
  obtain rfl := Option.some.inj H
  go_enter Try.func19, Try.ntmps19
  go_wp2_with (first | (refine goesL_ (some 6) rfl rfl Try.func61 (by kernel_rfl) rfl #[.slice A0 l0.length c0] rfl ll_ ?_; (with_reducible refine (impl_isSystem.calls _ _ l0 false _ ?side1 ?side2 A3.out).mono ?_); (case side1 => exact ss_ HR0); (case side2 => exact HC0.out); rintro e w16 ⟨rfl, hb⟩; refine ⟨_, rfl, ?_⟩; have n0_ := Aside0.mk (below_step (bb_ HB) hb); clear HB; have HB := n0_; clear n0_; (try clear hb); (try clear hb2); (try clear hk); (try clear hi)))
  go_ret
  exact ⟨ee_, bb_ HB⟩
end Go.Proofs.Ytcbkoecanldlpaa.P

namespace Go.Proofs.Ytcbkoecanldlpaa.P
open Go.RowKit Go.Proofs.YtcbkoecanldlpaaW.PrintWords Go.Proofs.YtcbkoecanldlpaaW.PrintLast
set_option linter.unusedVariables false
set_option linter.unusedSimpArgs false

def impl_TwinIn.f (k : Nat) (l0 : List Int) (l1 : List Int) : Option (Bool) := (impl_isSystem.f l0).bind fun t269 => (if t269 = true then ((impl_plane_isTwin.f k l0 l1).bind fun t270 => (some t270)) else (some false))
set_option maxHeartbeats 8000000 in
set_option maxRecDepth 100000 in
theorem impl_TwinIn.calls (k : Nat) (A0 : Option Addr) (c0 : Nat) (l0 : List Int) (A1 : Option Addr) (c1 : Nat) (l1 : List Int) (r : Bool) (w : World) (hr0 : Kd.C (Kd.int .i64) w A0 l0.length l0) (hc0 : l0.length ≤ c0) (hr1 : Kd.C (Kd.int .i64) w A1 l1.length l1) (hc1 : l1.length ≤ c1) (h : impl_TwinIn.f k l0 l1 = some r) :
  Calls Try.prog 16 #[.slice A0 l0.length c0, .slice A1 l1.length c1] w fun e w' => e = .returned (.bool r) ∧ Below w.heap.size w w' := by
 have HR0 := Aside0.mk hr0
 have HC0 := Aside0.mk hc0
 clear hr0 hc0
 have HR1 := Aside0.mk hr1
 have HC1 := Aside0.mk hc1
 clear hr1 hc1
 have HB := Aside0.mk (Below.refl w.heap.size w)
 have H : ((impl_isSystem.f l0).bind fun t269 => (if t269 = true then ((impl_plane_isTwin.f k l0 l1).bind fun t270 => (some t270)) else (some false))) = some r := h
 clear h
 replace H := Option.bind_eq_some_iff.mp H
 obtain ⟨t269, A30, H⟩ := H
 replace H : (if t269 = true then ((impl_plane_isTwin.f k l0 l1).bind fun t270 => (some t270)) else (some false)) = some r := H
 have A3 := Aside0.mk A30
 clear A30
 by_cases c4 : t269 = true
 ·subst c4
  have H1 : ((impl_plane_isTwin.f k l0 l1).bind fun t270 => (some t270)) = some r := by rw [if_pos rfl] at H; exact H
  clear H
  have H := H1
  clear H1
  replace H := Option.bind_eq_some_iff.mp H
  obtain ⟨t270, A50, H⟩ := H
  replace H : (some t270) = some r := H
  have A5 := Aside0.mk A50
  clear A50
  obtain rfl := Option.some.inj H
  go_enter Try.func16, Try.ntmps16
  go_wp2_with (first | (refine goesL_ (some 6) rfl rfl Try.func61 (by kernel_rfl) rfl #[.slice A0 l0.length c0] rfl ll_ ?_; (with_reducible refine (impl_isSystem.calls _ _ l0 true _ ?side1 ?side2 A3.out).mono ?_); (case side1 => exact ss_ HR0); (case side2 => exact HC0.out); rintro e w6 ⟨rfl, hb⟩; refine ⟨_, rfl, ?_⟩; have n0_ := Aside0.mk (below_step (bb_ HB) hb); clear HB; have HB := n0_; clear n0_; (try clear hb); (try clear hb2); (try clear hk); (try clear hi)) | (go_at_call 62; (with_reducible refine (impl_plane_isTwin.calls k _ _ l0 _ _ l1 t270 _ ?side1 ?side2 ?side3 ?side4 A5.out).mono ?_); (case side1 => exact sb_ HR0 HB); (case side2 => exact HC0.out); (case side3 => exact sb_ HR1 HB); (case side4 => exact HC1.out); rintro e w7 ⟨rfl, hb⟩; have n0_ := Aside0.mk (below_step (bb_ HB) hb); clear HB; have HB := n0_; clear n0_; (try clear hb); (try clear hb2); (try clear hk); (try clear hi)))
  go_ret
  exact ⟨ee_, bb_ HB⟩
 ·replace c4 := Bool.eq_false_iff.mpr c4
  subst c4
  have H1 : (some false) = some r := by rw [if_neg (show ¬ (false = true) by decide)] at H; exact H
  clear H
  have H := H1
  clear H1
  obtain rfl := Option.some.inj H
  go_enter Try.func16, Try.ntmps16
  go_wp2_with (first | (refine goesL_ (some 6) rfl rfl Try.func61 (by kernel_rfl) rfl #[.slice A0 l0.length c0] rfl ll_ ?_; (with_reducible refine (impl_isSystem.calls _ _ l0 false _ ?side1 ?side2 A3.out).mono ?_); (case side1 => exact ss_ HR0); (case side2 => exact HC0.out); rintro e w8 ⟨rfl, hb⟩; refine ⟨_, rfl, ?_⟩; have n0_ := Aside0.mk (below_step (bb_ HB) hb); clear HB; have HB := n0_; clear n0_; (try clear hb); (try clear hb2); (try clear hk); (try clear hi)))
  go_ret
  exact ⟨ee_, bb_ HB⟩
end Go.Proofs.Ytcbkoecanldlpaa.P

namespace Go.Proofs.Ytcbkoecanldlpaa.P
open Go.RowKit Go.Proofs.YtcbkoecanldlpaaW.PrintWords Go.Proofs.YtcbkoecanldlpaaW.PrintLast
set_option linter.unusedVariables false
set_option linter.unusedSimpArgs false

def spec_l6In.f (a0 : Int) (a1 : Int) (a2 : Int) : Option (Bool) := if a0 ≥ a1 then (some (decide (a0 ≤ a2))) else (some false)
set_option maxHeartbeats 8000000 in
set_option maxRecDepth 100000 in
theorem spec_l6In.calls (a0 : Int) (a1 : Int) (a2 : Int) (r : Bool) (w : World) (h : spec_l6In.f a0 a1 a2 = some r) :
  Calls Try.prog 87 #[.int .i64 a0, .int .i64 a1, .int .i64 a2] w fun e w' => e = .returned (.bool r) ∧ Drawn0 w w' := by
 have H : (if a0 ≥ a1 then (some (decide (a0 ≤ a2))) else (some false)) = some r := h
 clear h
 by_cases c4 : a0 ≥ a1
 ·rw [if_pos c4] at H
  have c4b0 : decide (a1 ≤ a0) = true := decide_eq_true c4
  clear c4
  obtain rfl := Option.some.inj H
  go_enter Try.func87, Try.ntmps87
  go_wp2
  go_ret
  exact ⟨by first | rfl | (simp; done) | (simp [*]; done), by repeat (first | exact Drawn0.refl _ | apply Drawn0.step)⟩
 ·rw [if_neg c4] at H
  have c4b0 : decide (a1 ≤ a0) = false := decide_eq_false c4
  clear c4
  obtain rfl := Option.some.inj H
  go_enter Try.func87, Try.ntmps87
  go_wp2
  go_ret
  exact ⟨by first | rfl | (simp; done) | (simp [*]; done), by repeat (first | exact Drawn0.refl _ | apply Drawn0.step)⟩
end Go.Proofs.Ytcbkoecanldlpaa.P

namespace Go.Proofs.Ytcbkoecanldlpaa.P
open Go.RowKit Go.Proofs.YtcbkoecanldlpaaW.PrintWords Go.Proofs.YtcbkoecanldlpaaW.PrintLast
set_option linter.unusedVariables false
set_option linter.unusedSimpArgs false

def spec_l1In.f (a0 : Int) : Option (Bool) := (spec_l6In.f a0 0 8).bind fun t165 => (some t165)
set_option maxHeartbeats 8000000 in
set_option maxRecDepth 100000 in
theorem spec_l1In.calls (a0 : Int) (r : Bool) (w : World) (h : spec_l1In.f a0 = some r) :
  Calls Try.prog 165 #[.int .i64 a0] w fun e w' => e = .returned (.bool r) ∧ Drawn0 w w' := by
 have H : ((spec_l6In.f a0 0 8).bind fun t165 => (some t165)) = some r := h
 clear h
 replace H := Option.bind_eq_some_iff.mp H
 obtain ⟨t165, A20, H⟩ := H
 replace H : (some t165) = some r := H
 have A2 := Aside0.mk A20
 clear A20
 obtain rfl := Option.some.inj H
 go_enter Try.func165, Try.ntmps165
 go_wp2_with (first | (refine goesL_ (some 4) rfl rfl Try.func87 (by kernel_rfl) rfl #[.int .i64 a0, .int .i64 0, .int .i64 8] rfl ll_ ?_; (with_reducible refine (spec_l6In.calls a0 0 8 t165 _ A2.out).mono ?_); rintro e w' ⟨rfl, ⟨nd, rfl⟩⟩; refine ⟨_, rfl, ?_⟩))
 go_ret
 exact ⟨by first | rfl | (simp; done) | (simp [*]; done), by repeat (first | exact Drawn0.refl _ | apply Drawn0.step)⟩
end Go.Proofs.Ytcbkoecanldlpaa.P

namespace Go.Proofs.Ytcbkoecanldlpaa.P
open Go.RowKit Go.Proofs.YtcbkoecanldlpaaW.PrintWords Go.Proofs.YtcbkoecanldlpaaW.PrintLast
set_option linter.unusedVariables false
set_option linter.unusedSimpArgs false

def spec_l2Table.l0 : Nat → List Int → Int → Option (Bool)
 | 0, _, _ => none
 | k + 1, x0, x3 => if x3 < (x0.length : Int) then (if 0 ≤ x3 then ((spec_l1In.f (rd x0 x3)).bind fun t167 => (if t167 = true then (spec_l2Table.l0 k x0 (wrap64 (x3 + 1))) else (some false))) else (none)) else (some ((x0.length : Int) == 81))
def spec_l2Table.f (k : Nat) (l0 : List Int) : Option (Bool) := spec_l2Table.l0 k l0 0
set_option maxHeartbeats 8000000 in
set_option maxRecDepth 100000 in
theorem spec_l2Table.calls (k : Nat) (A0 : Option Addr) (c0 : Nat) (l0 : List Int) (r : Bool) (w : World) (hr0 : Kd.C (Kd.int .i64) w A0 l0.length l0) (hc0 : l0.length ≤ c0) (h : spec_l2Table.f k l0 = some r) :
  Calls Try.prog 128 #[.slice A0 l0.length c0] w fun e w' => e = .returned (.bool r) ∧ Drawn0 w w' := by
 have HR0 := Aside0.mk hr0
 have HC0 := Aside0.mk hc0
 clear hr0 hc0
 have H : (spec_l2Table.l0 k l0 0) = some r := h
 clear h
 have H' := Aside0.mk H
 clear H
 go_enter Try.func128, Try.ntmps128
 go_wp2
 go_loopg [3] k (fun kq v3 w' => ∃ (x3_1 : Int), v3 = .int .i64 x3_1 ∧ Aside0 (spec_l2Table.l0 kq l0 x3_1 = some r) ∧ Aside0 (kq ≤ k) ∧ Drawn0 w w')
 case atStart => exact ⟨(0), (by first | rfl | (simp; done) | (simp [*]; done)), H', ⟨Nat.le_refl _⟩, by repeat (first | exact Drawn0.refl _ | apply Drawn0.step)⟩
 case round =>
  clear H'
  try clear c1
  obtain ⟨x3_1, rfl, HA, HK1, ⟨m1, rfl⟩⟩ := hrel
  cases gk with
  | zero => exact absurd HA.out (by simp [spec_l2Table.l0])
  | succ k1 =>
   have H := HA.out
   clear HA
   simp only [spec_l2Table.l0] at H
   by_cases c2 : x3_1 < (l0.length : Int)
   ·rw [if_pos c2] at H
    have c2b0 : decide (x3_1 < (l0.length : Int)) = true := decide_eq_true c2
    clear c2
    by_cases c3 : 0 ≤ x3_1
    ·rw [if_pos c3] at H
     have c3b0 : decide (0 ≤ x3_1) = true := decide_eq_true c3
     clear c3
     replace H := Option.bind_eq_some_iff.mp H
     obtain ⟨t167, A40, H⟩ := H
     replace H : (if t167 = true then (spec_l2Table.l0 k1 l0 (wrap64 (x3_1 + 1))) else (some false)) = some r := H
     have A4 := Aside0.mk A40
     clear A40
     by_cases c5 : t167 = true
     ·subst c5
      have H1 : (spec_l2Table.l0 k1 l0 (wrap64 (x3_1 + 1))) = some r := by rw [if_pos rfl] at H; exact H
      clear H
      have H := H1
      clear H1
      have H' := Aside0.mk H
      clear H
      have p166 : 0 ≤ (x3_1 : Int) := dd_
      have q166 : x3_1 < (l0.length : Int) := dd_
      obtain ⟨ad166, e166, hx166_0⟩ := Kd.at_int HR0.out x3_1 p166 q166
      cases e166
      replace p166 := eq_true p166
      replace q166 := eq_true q166
      go_wp2_with (first | (refine goesL_ (some 14) rfl rfl Try.func165 (by kernel_rfl) rfl #[.int .i64 (rd l0 x3_1)] rfl ll_ ?_; (with_reducible refine (spec_l1In.calls (rd l0 x3_1) true _ A4.out).mono ?_); rintro e w' ⟨rfl, ⟨nd, rfl⟩⟩; refine ⟨_, rfl, ?_⟩))
      go_roundg k1
      case measure => have := HK1.out; omega
      case rel => exact ⟨(wrap64 (x3_1 + 1)), (by first | rfl | (simp; done) | (simp [*]; done)), H', ⟨by have := HK1.out; omega⟩, by repeat (first | exact Drawn0.refl _ | apply Drawn0.step)⟩
     ·replace c5 := Bool.eq_false_iff.mpr c5
      subst c5
      have H1 : (some false) = some r := by rw [if_neg (show ¬ (false = true) by decide)] at H; exact H
      clear H
      have H := H1
      clear H1
      obtain rfl := Option.some.inj H
      have p166 : 0 ≤ (x3_1 : Int) := dd_
      have q166 : x3_1 < (l0.length : Int) := dd_
      obtain ⟨ad166, e166, hx166_0⟩ := Kd.at_int HR0.out x3_1 p166 q166
      cases e166
      replace p166 := eq_true p166
      replace q166 := eq_true q166
      go_wp2_with (first | (refine goesL_ (some 14) rfl rfl Try.func165 (by kernel_rfl) rfl #[.int .i64 (rd l0 x3_1)] rfl ll_ ?_; (with_reducible refine (spec_l1In.calls (rd l0 x3_1) false _ A4.out).mono ?_); rintro e w' ⟨rfl, ⟨nd, rfl⟩⟩; refine ⟨_, rfl, ?_⟩))
      go_ret
      exact ⟨by first | rfl | (simp; done) | (simp [*]; done), by repeat (first | exact Drawn0.refl _ | apply Drawn0.step)⟩
    ·rw [if_neg c3] at H
     exact absurd H (by simp)
   ·rw [if_neg c2] at H
    have c2b0 : decide (x3_1 < (l0.length : Int)) = false := decide_eq_false c2
    clear c2
    obtain rfl := Option.some.inj H
    go_wp2
    go_ret
    exact ⟨by first | rfl | (simp; done) | (simp [*]; done), by repeat (first | exact Drawn0.refl _ | apply Drawn0.step)⟩
end Go.Proofs.Ytcbkoecanldlpaa.P

namespace Go.Proofs.Ytcbkoecanldlpaa.P
open Go.RowKit Go.Proofs.YtcbkoecanldlpaaW.PrintWords Go.Proofs.YtcbkoecanldlpaaW.PrintLast
set_option linter.unusedVariables false
set_option linter.unusedSimpArgs false

def spec_l2Units.l0 : Nat → List Int → Int → Option (Bool)
 | 0, _, _ => none
 | k + 1, x0, x3 => if x3 < 9 then (if 0 ≤ x3 then (if x3 < (x0.length : Int) then (if (rd x0 x3) = 0 then (if 0 ≤ (wrap64 (9 * x3)) then (if (wrap64 (9 * x3)) < (x0.length : Int) then (if (rd x0 (wrap64 (9 * x3))) = 0 then (if 0 ≤ (wrap64 (9 + x3)) then (if (wrap64 (9 + x3)) < (x0.length : Int) then (if (rd x0 (wrap64 (9 + x3))) = x3 then (if 0 ≤ (wrap64 ((wrap64 (9 * x3)) + 1)) then (if (wrap64 ((wrap64 (9 * x3)) + 1)) < (x0.length : Int) then (if (rd x0 (wrap64 ((wrap64 (9 * x3)) + 1))) = x3 then (spec_l2Units.l0 k x0 (wrap64 (x3 + 1))) else (some false)) else (none)) else (none)) else (some false)) else (none)) else (none)) else (some false)) else (none)) else (none)) else (some false)) else (none)) else (none)) else (some true)
def spec_l2Units.f (k : Nat) (l0 : List Int) : Option (Bool) := spec_l2Units.l0 k l0 0
set_option maxHeartbeats 8000000 in
set_option maxRecDepth 100000 in
theorem spec_l2Units.calls (k : Nat) (A0 : Option Addr) (c0 : Nat) (l0 : List Int) (r : Bool) (w : World) (hr0 : Kd.C (Kd.int .i64) w A0 l0.length l0) (hc0 : l0.length ≤ c0) (h : spec_l2Units.f k l0 = some r) :
  Calls Try.prog 129 #[.slice A0 l0.length c0] w fun e w' => e = .returned (.bool r) ∧ Drawn0 w w' := by
 have HR0 := Aside0.mk hr0
 have HC0 := Aside0.mk hc0
 clear hr0 hc0
 have H : (spec_l2Units.l0 k l0 0) = some r := h
 clear h
 have H' := Aside0.mk H
 clear H
 go_enter Try.func129, Try.ntmps129
 go_wp2
 go_loopg [3] k (fun kq v3 w' => ∃ (x3_1 : Int), v3 = .int .i64 x3_1 ∧ Aside0 (spec_l2Units.l0 kq l0 x3_1 = some r) ∧ Aside0 (kq ≤ k) ∧ Drawn0 w w')
 case atStart => exact ⟨(0), (by first | rfl | (simp; done) | (simp [*]; done)), H', ⟨Nat.le_refl _⟩, by repeat (first | exact Drawn0.refl _ | apply Drawn0.step)⟩
 case round =>
  clear H'
  try clear c1
  obtain ⟨x3_1, rfl, HA, HK1, ⟨m1, rfl⟩⟩ := hrel
  cases gk with
  | zero => exact absurd HA.out (by simp [spec_l2Units.l0])
  | succ k1 =>
   have H := HA.out
   clear HA
   simp only [spec_l2Units.l0] at H
   by_cases c2 : x3_1 < 9
   ·rw [if_pos c2] at H
    have c2b0 : decide (x3_1 < 9) = true := decide_eq_true c2
    clear c2
    by_cases c3 : 0 ≤ x3_1
    ·rw [if_pos c3] at H
     have c3b0 : decide (0 ≤ x3_1) = true := decide_eq_true c3
     clear c3
     by_cases c4 : x3_1 < (l0.length : Int)
     ·rw [if_pos c4] at H
      have c4b0 : decide (x3_1 < (l0.length : Int)) = true := decide_eq_true c4
      clear c4
      by_cases c5 : (rd l0 x3_1) = 0
      ·rw [if_pos c5] at H
       have c5b0 : ((rd l0 x3_1) == 0) = true := beq_iff_eq.mpr c5
       have c5b1 : ((rd l0 x3_1) != 0) = false := bne_eq_false_iff_eq.mpr c5
       clear c5
       obtain ⟨ji6, hji6⟩ : ∃ j_ : Int, (wrap64 (9 * x3_1)) = j_ := ⟨_, rfl⟩
       replace H : (if 0 ≤ (ji6) then (if (ji6) < (l0.length : Int) then (if (rd l0 (ji6)) = 0 then (if 0 ≤ (wrap64 (9 + x3_1)) then (if (wrap64 (9 + x3_1)) < (l0.length : Int) then (if (rd l0 (wrap64 (9 + x3_1))) = x3_1 then (if 0 ≤ (wrap64 ((ji6) + 1)) then (if (wrap64 ((ji6) + 1)) < (l0.length : Int) then (if (rd l0 (wrap64 ((ji6) + 1))) = x3_1 then (spec_l2Units.l0 k1 l0 (wrap64 (x3_1 + 1))) else (some false)) else (none)) else (none)) else (some false)) else (none)) else (none)) else (some false)) else (none)) else (none)) = some r := by first | (rw [hji6] at H; exact H) | (simp only [hji6] at H ⊢; exact H)
       have hji6w : (IntKind.i64.wrap (9 * x3_1)) = ji6 := (i64_w _).trans hji6
       by_cases c7 : 0 ≤ (ji6)
       ·rw [if_pos c7] at H
        have c7b0 : decide (0 ≤ (ji6)) = true := decide_eq_true c7
        clear c7
        by_cases c8 : (ji6) < (l0.length : Int)
        ·rw [if_pos c8] at H
         have c8b0 : decide ((ji6) < (l0.length : Int)) = true := decide_eq_true c8
         clear c8
         by_cases c9 : (rd l0 (ji6)) = 0
         ·rw [if_pos c9] at H
          have c9b0 : ((rd l0 (ji6)) == 0) = true := beq_iff_eq.mpr c9
          have c9b1 : ((rd l0 (ji6)) != 0) = false := bne_eq_false_iff_eq.mpr c9
          clear c9
          obtain ⟨ji10, hji10⟩ : ∃ j_ : Int, (wrap64 (9 + x3_1)) = j_ := ⟨_, rfl⟩
          replace H : (if 0 ≤ (ji10) then (if (ji10) < (l0.length : Int) then (if (rd l0 (ji10)) = x3_1 then (if 0 ≤ (wrap64 ((ji6) + 1)) then (if (wrap64 ((ji6) + 1)) < (l0.length : Int) then (if (rd l0 (wrap64 ((ji6) + 1))) = x3_1 then (spec_l2Units.l0 k1 l0 (wrap64 (x3_1 + 1))) else (some false)) else (none)) else (none)) else (some false)) else (none)) else (none)) = some r := by first | (rw [hji10] at H; exact H) | (simp only [hji10] at H ⊢; exact H)
          have hji10w : (IntKind.i64.wrap (9 + x3_1)) = ji10 := (i64_w _).trans hji10
          by_cases c11 : 0 ≤ (ji10)
          ·rw [if_pos c11] at H
           have c11b0 : decide (0 ≤ (ji10)) = true := decide_eq_true c11
           clear c11
           by_cases c12 : (ji10) < (l0.length : Int)
           ·rw [if_pos c12] at H
            have c12b0 : decide ((ji10) < (l0.length : Int)) = true := decide_eq_true c12
            clear c12
            by_cases c13 : (rd l0 (ji10)) = x3_1
            ·rw [if_pos c13] at H
             have c13b0 : ((rd l0 (ji10)) == x3_1) = true := beq_iff_eq.mpr c13
             have c13b1 : ((rd l0 (ji10)) != x3_1) = false := bne_eq_false_iff_eq.mpr c13
             clear c13
             obtain ⟨ji14, hji14⟩ : ∃ j_ : Int, (wrap64 ((ji6) + 1)) = j_ := ⟨_, rfl⟩
             replace H : (if 0 ≤ (ji14) then (if (ji14) < (l0.length : Int) then (if (rd l0 (ji14)) = x3_1 then (spec_l2Units.l0 k1 l0 (wrap64 (x3_1 + 1))) else (some false)) else (none)) else (none)) = some r := by first | (rw [hji14] at H; exact H) | (simp only [hji14] at H ⊢; exact H)
             have hji14w : (IntKind.i64.wrap ((ji6) + 1)) = ji14 := (i64_w _).trans hji14
             by_cases c15 : 0 ≤ (ji14)
             ·rw [if_pos c15] at H
              have c15b0 : decide (0 ≤ (ji14)) = true := decide_eq_true c15
              clear c15
              by_cases c16 : (ji14) < (l0.length : Int)
              ·rw [if_pos c16] at H
               have c16b0 : decide ((ji14) < (l0.length : Int)) = true := decide_eq_true c16
               clear c16
               by_cases c17 : (rd l0 (ji14)) = x3_1
               ·rw [if_pos c17] at H
                have c17b0 : ((rd l0 (ji14)) == x3_1) = true := beq_iff_eq.mpr c17
                have c17b1 : ((rd l0 (ji14)) != x3_1) = false := bne_eq_false_iff_eq.mpr c17
                clear c17
                have H' := Aside0.mk H
                clear H
                have p168 : 0 ≤ (x3_1 : Int) := dd_
                have q168 : x3_1 < (l0.length : Int) := dd_
                obtain ⟨ad168, e168, hx168_0⟩ := Kd.at_int HR0.out x3_1 p168 q168
                cases e168
                replace p168 := eq_true p168
                replace q168 := eq_true q168
                have p169 : 0 ≤ ((ji6) : Int) := dd_
                have q169 : (ji6) < (l0.length : Int) := dd_
                obtain ⟨ad169, e169, hx169_0⟩ := Kd.at_int HR0.out (ji6) p169 q169
                obtain rfl : ad168 = ad169 := (by injection e169)
                replace p169 := eq_true p169
                replace q169 := eq_true q169
                have p170 : 0 ≤ ((ji10) : Int) := dd_
                have q170 : (ji10) < (l0.length : Int) := dd_
                obtain ⟨ad170, e170, hx170_0⟩ := Kd.at_int HR0.out (ji10) p170 q170
                obtain rfl : ad168 = ad170 := (by injection e170)
                replace p170 := eq_true p170
                replace q170 := eq_true q170
                have p171 : 0 ≤ ((ji14) : Int) := dd_
                have q171 : (ji14) < (l0.length : Int) := dd_
                obtain ⟨ad171, e171, hx171_0⟩ := Kd.at_int HR0.out (ji14) p171 q171
                obtain rfl : ad168 = ad171 := (by injection e171)
                replace p171 := eq_true p171
                replace q171 := eq_true q171
                go_wp2
                go_roundg k1
                case measure => have := HK1.out; omega
                case rel => exact ⟨(wrap64 (x3_1 + 1)), (by first | rfl | (simp; done) | (simp [*]; done)), H', ⟨by have := HK1.out; omega⟩, by repeat (first | exact Drawn0.refl _ | apply Drawn0.step)⟩
               ·rw [if_neg c17] at H
                have c17b0 : ((rd l0 (ji14)) == x3_1) = false := beq_eq_false_iff_ne.mpr c17
                have c17b1 : ((rd l0 (ji14)) != x3_1) = true := bne_iff_ne.mpr c17
                obtain rfl := Option.some.inj H
                have p168 : 0 ≤ (x3_1 : Int) := dd_
                have q168 : x3_1 < (l0.length : Int) := dd_
                obtain ⟨ad168, e168, hx168_0⟩ := Kd.at_int HR0.out x3_1 p168 q168
                cases e168
                replace p168 := eq_true p168
                replace q168 := eq_true q168
                have p169 : 0 ≤ ((ji6) : Int) := dd_
                have q169 : (ji6) < (l0.length : Int) := dd_
                obtain ⟨ad169, e169, hx169_0⟩ := Kd.at_int HR0.out (ji6) p169 q169
                obtain rfl : ad168 = ad169 := (by injection e169)
                replace p169 := eq_true p169
                replace q169 := eq_true q169
                have p170 : 0 ≤ ((ji10) : Int) := dd_
                have q170 : (ji10) < (l0.length : Int) := dd_
                obtain ⟨ad170, e170, hx170_0⟩ := Kd.at_int HR0.out (ji10) p170 q170
                obtain rfl : ad168 = ad170 := (by injection e170)
                replace p170 := eq_true p170
                replace q170 := eq_true q170
                have p171 : 0 ≤ ((ji14) : Int) := dd_
                have q171 : (ji14) < (l0.length : Int) := dd_
                obtain ⟨ad171, e171, hx171_0⟩ := Kd.at_int HR0.out (ji14) p171 q171
                obtain rfl : ad168 = ad171 := (by injection e171)
                replace p171 := eq_true p171
                replace q171 := eq_true q171
                go_wp2
                go_ret
                exact ⟨by first | rfl | (simp; done) | (simp only [← hji6, ← hji10, ← hji14] <;> (first | rfl | simp)) | (simp [*]; done), by repeat (first | exact Drawn0.refl _ | apply Drawn0.step)⟩
              ·rw [if_neg c16] at H
               exact absurd H (by simp)
             ·rw [if_neg c15] at H
              exact absurd H (by simp)
            ·rw [if_neg c13] at H
             have c13b0 : ((rd l0 (ji10)) == x3_1) = false := beq_eq_false_iff_ne.mpr c13
             have c13b1 : ((rd l0 (ji10)) != x3_1) = true := bne_iff_ne.mpr c13
             obtain rfl := Option.some.inj H
             have p168 : 0 ≤ (x3_1 : Int) := dd_
             have q168 : x3_1 < (l0.length : Int) := dd_
             obtain ⟨ad168, e168, hx168_0⟩ := Kd.at_int HR0.out x3_1 p168 q168
             cases e168
             replace p168 := eq_true p168
             replace q168 := eq_true q168
             have p169 : 0 ≤ ((ji6) : Int) := dd_
             have q169 : (ji6) < (l0.length : Int) := dd_
             obtain ⟨ad169, e169, hx169_0⟩ := Kd.at_int HR0.out (ji6) p169 q169
             obtain rfl : ad168 = ad169 := (by injection e169)
             replace p169 := eq_true p169
             replace q169 := eq_true q169
             have p170 : 0 ≤ ((ji10) : Int) := dd_
             have q170 : (ji10) < (l0.length : Int) := dd_
             obtain ⟨ad170, e170, hx170_0⟩ := Kd.at_int HR0.out (ji10) p170 q170
             obtain rfl : ad168 = ad170 := (by injection e170)
             replace p170 := eq_true p170
             replace q170 := eq_true q170
             go_wp2
             go_ret
             exact ⟨by first | rfl | (simp; done) | (simp only [← hji6, ← hji10] <;> (first | rfl | simp)) | (simp [*]; done), by repeat (first | exact Drawn0.refl _ | apply Drawn0.step)⟩
           ·rw [if_neg c12] at H
            exact absurd H (by simp)
          ·rw [if_neg c11] at H
           exact absurd H (by simp)
         ·rw [if_neg c9] at H
          have c9b0 : ((rd l0 (ji6)) == 0) = false := beq_eq_false_iff_ne.mpr c9
          have c9b1 : ((rd l0 (ji6)) != 0) = true := bne_iff_ne.mpr c9
          obtain rfl := Option.some.inj H
          have p168 : 0 ≤ (x3_1 : Int) := dd_
          have q168 : x3_1 < (l0.length : Int) := dd_
          obtain ⟨ad168, e168, hx168_0⟩ := Kd.at_int HR0.out x3_1 p168 q168
          cases e168
          replace p168 := eq_true p168
          replace q168 := eq_true q168
          have p169 : 0 ≤ ((ji6) : Int) := dd_
          have q169 : (ji6) < (l0.length : Int) := dd_
          obtain ⟨ad169, e169, hx169_0⟩ := Kd.at_int HR0.out (ji6) p169 q169
          obtain rfl : ad168 = ad169 := (by injection e169)
          replace p169 := eq_true p169
          replace q169 := eq_true q169
          go_wp2
          go_ret
          exact ⟨by first | rfl | (simp; done) | (simp only [← hji6] <;> (first | rfl | simp)) | (simp [*]; done), by repeat (first | exact Drawn0.refl _ | apply Drawn0.step)⟩
        ·rw [if_neg c8] at H
         exact absurd H (by simp)
       ·rw [if_neg c7] at H
        exact absurd H (by simp)
      ·rw [if_neg c5] at H
       have c5b0 : ((rd l0 x3_1) == 0) = false := beq_eq_false_iff_ne.mpr c5
       have c5b1 : ((rd l0 x3_1) != 0) = true := bne_iff_ne.mpr c5
       obtain rfl := Option.some.inj H
       have p168 : 0 ≤ (x3_1 : Int) := dd_
       have q168 : x3_1 < (l0.length : Int) := dd_
       obtain ⟨ad168, e168, hx168_0⟩ := Kd.at_int HR0.out x3_1 p168 q168
       cases e168
       replace p168 := eq_true p168
       replace q168 := eq_true q168
       go_wp2
       go_ret
       exact ⟨by first | rfl | (simp; done) | (simp [*]; done), by repeat (first | exact Drawn0.refl _ | apply Drawn0.step)⟩
     ·rw [if_neg c4] at H
      exact absurd H (by simp)
    ·rw [if_neg c3] at H
     exact absurd H (by simp)
   ·rw [if_neg c2] at H
    have c2b0 : decide (x3_1 < 9) = false := decide_eq_false c2
    clear c2
    obtain rfl := Option.some.inj H
    go_wp2
    go_ret
    exact ⟨by first | rfl | (simp; done) | (simp [*]; done), by repeat (first | exact Drawn0.refl _ | apply Drawn0.step)⟩
end Go.Proofs.Ytcbkoecanldlpaa.P

namespace Go.Proofs.Ytcbkoecanldlpaa.P
open Go.RowKit Go.Proofs.YtcbkoecanldlpaaW.PrintWords Go.Proofs.YtcbkoecanldlpaaW.PrintLast
set_option linter.unusedVariables false
set_option linter.unusedSimpArgs false

mutual
def spec_SystemIn.j0 : Nat → List Int → Bool → Option (Bool)
 | 0, _, _ => none
 | k + 1, x0, x17 => if x17 = true then (some false) else (spec_SystemIn.l0 k x0 0)
def spec_SystemIn.l0 : Nat → List Int → Int → Option (Bool)
 | 0, _, _ => none
 | k + 1, x0, x3 => if x3 < 9 then (spec_SystemIn.l1 k x0 x3 0) else (some true)
def spec_SystemIn.l1 : Nat → List Int → Int → Int → Option (Bool)
 | 0, _, _, _ => none
 | k + 1, x0, x3, x4 => if x4 < x3 then ((spec_l2Solves.f x0 x3 x4).bind fun t175 => (if t175 = true then (spec_SystemIn.l1 k x0 x3 (wrap64 (x4 + 1))) else (some false))) else (spec_SystemIn.l0 k x0 (wrap64 (x3 + 1)))
end
def spec_SystemIn.f (k : Nat) (l0 : List Int) : Option (Bool) := (spec_l2Table.f k l0).bind fun t172 => (if t172 = true then ((spec_l2Units.f k l0).bind fun t173 => (if t173 = true then ((spec_l2Shares.f l0).bind fun t174 => (spec_SystemIn.j0 k l0 (!t174))) else (spec_SystemIn.j0 k l0 true))) else (spec_SystemIn.j0 k l0 true))
set_option maxHeartbeats 8000000 in
set_option maxRecDepth 100000 in
theorem spec_SystemIn.calls (k : Nat) (A0 : Option Addr) (c0 : Nat) (l0 : List Int) (r : Bool) (w : World) (hr0 : Kd.C (Kd.int .i64) w A0 l0.length l0) (hc0 : l0.length ≤ c0) (h : spec_SystemIn.f k l0 = some r) :
  Calls Try.prog 63 #[.slice A0 l0.length c0] w fun e w' => e = .returned (.bool r) ∧ Below w.heap.size w w' := by
 have HR0 := Aside0.mk hr0
 have HC0 := Aside0.mk hc0
 clear hr0 hc0
 have HB := Aside0.mk (Below.refl w.heap.size w)
 have H : ((spec_l2Table.f k l0).bind fun t172 => (if t172 = true then ((spec_l2Units.f k l0).bind fun t173 => (if t173 = true then ((spec_l2Shares.f l0).bind fun t174 => (spec_SystemIn.j0 k l0 (!t174))) else (spec_SystemIn.j0 k l0 true))) else (spec_SystemIn.j0 k l0 true))) = some r := h
 clear h
 have HC2 := Aside0.mk H
 clear H
 go_enter Try.func63, Try.ntmps63
 go_upto_region 1 with (fail)
 go_cut [17] (fun v17 wc => ∃ (kq : Nat) (x17_1 : Bool), v17 = .bool x17_1 ∧ Aside0 (spec_SystemIn.j0 kq l0 x17_1 = some r) ∧ Aside0 (kq ≤ k) ∧ Aside0 (Below w.heap.size w wc))
 case first =>
  have H := HC2.out
  clear HC2
  replace H := Option.bind_eq_some_iff.mp H
  obtain ⟨t172, A30, H⟩ := H
  replace H : (if t172 = true then ((spec_l2Units.f k l0).bind fun t173 => (if t173 = true then ((spec_l2Shares.f l0).bind fun t174 => (spec_SystemIn.j0 k l0 (!t174))) else (spec_SystemIn.j0 k l0 true))) else (spec_SystemIn.j0 k l0 true)) = some r := H
  have A3 := Aside0.mk A30
  clear A30
  by_cases c4 : t172 = true
  ·subst c4
   have H1 : ((spec_l2Units.f k l0).bind fun t173 => (if t173 = true then ((spec_l2Shares.f l0).bind fun t174 => (spec_SystemIn.j0 k l0 (!t174))) else (spec_SystemIn.j0 k l0 true))) = some r := by rw [if_pos rfl] at H; exact H
   clear H
   have H := H1
   clear H1
   replace H := Option.bind_eq_some_iff.mp H
   obtain ⟨t173, A50, H⟩ := H
   replace H : (if t173 = true then ((spec_l2Shares.f l0).bind fun t174 => (spec_SystemIn.j0 k l0 (!t174))) else (spec_SystemIn.j0 k l0 true)) = some r := H
   have A5 := Aside0.mk A50
   clear A50
   by_cases c6 : t173 = true
   ·subst c6
    have H1 : ((spec_l2Shares.f l0).bind fun t174 => (spec_SystemIn.j0 k l0 (!t174))) = some r := by rw [if_pos rfl] at H; exact H
    clear H
    have H := H1
    clear H1
    replace H := Option.bind_eq_some_iff.mp H
    obtain ⟨t174, A70, H⟩ := H
    replace H : (spec_SystemIn.j0 k l0 (!t174)) = some r := H
    have A7 := Aside0.mk A70
    clear A70
    have H' := Aside0.mk H
    clear H
    go_wp2_with (first | (refine goesL_ (some 6) rfl rfl Try.func128 (by kernel_rfl) rfl #[.slice A0 l0.length c0] rfl ll_ ?_; (with_reducible refine (spec_l2Table.calls k _ _ l0 true _ ?side1 ?side2 A3.out).mono ?_); (case side1 => exact sb_ HR0 HB); (case side2 => exact HC0.out); rintro e w' ⟨rfl, ⟨nd, rfl⟩⟩; refine ⟨_, rfl, ?_⟩) | (go_at_call 129; (with_reducible refine (spec_l2Units.calls k _ _ l0 true _ ?side1 ?side2 A5.out).mono ?_); (case side1 => repeat (first | exact (Kd.C_below HR0.out (bb_ HB)) | (with_reducible refine Kd.C_alloc ?_ _) | (with_reducible refine Kd.C_drewN ?_ _) | (with_reducible refine Kd.C_drew ?_))); (case side2 => exact HC0.out); rintro e w' ⟨rfl, ⟨nd, rfl⟩⟩) | (go_at_call 130; (with_reducible refine (spec_l2Shares.calls _ _ l0 t174 _ ?side1 ?side2 A7.out).mono ?_); (case side1 => repeat (first | exact (Kd.C_below HR0.out (bb_ HB)) | (with_reducible refine Kd.C_alloc ?_ _) | (with_reducible refine Kd.C_drewN ?_ _) | (with_reducible refine Kd.C_drew ?_))); (case side2 => exact HC0.out); rintro e w' ⟨rfl, ⟨nd, rfl⟩⟩))
    go_meet
    case rel => exact ⟨_, (!t174), (by first | rfl | (simp; done) | (simp [*]; done)), H', ⟨by first | omega | exact Nat.le_refl _⟩, ⟨by repeat (first | (with_reducible first | exact HB.out | apply below_alloc | apply pw_below_drewN | apply below_drew1) | exact HB.out)⟩⟩
   ·replace c6 := Bool.eq_false_iff.mpr c6
    subst c6
    have H1 : (spec_SystemIn.j0 k l0 true) = some r := by rw [if_neg (show ¬ (false = true) by decide)] at H; exact H
    clear H
    have H := H1
    clear H1
    have H' := Aside0.mk H
    clear H
    go_wp2_with (first | (refine goesL_ (some 6) rfl rfl Try.func128 (by kernel_rfl) rfl #[.slice A0 l0.length c0] rfl ll_ ?_; (with_reducible refine (spec_l2Table.calls k _ _ l0 true _ ?side1 ?side2 A3.out).mono ?_); (case side1 => exact sb_ HR0 HB); (case side2 => exact HC0.out); rintro e w' ⟨rfl, ⟨nd, rfl⟩⟩; refine ⟨_, rfl, ?_⟩) | (go_at_call 129; (with_reducible refine (spec_l2Units.calls k _ _ l0 false _ ?side1 ?side2 A5.out).mono ?_); (case side1 => repeat (first | exact (Kd.C_below HR0.out (bb_ HB)) | (with_reducible refine Kd.C_alloc ?_ _) | (with_reducible refine Kd.C_drewN ?_ _) | (with_reducible refine Kd.C_drew ?_))); (case side2 => exact HC0.out); rintro e w' ⟨rfl, ⟨nd, rfl⟩⟩))
    go_meet
    case rel => exact ⟨_, (true), (by first | rfl | (simp; done) | (simp [*]; done)), H', ⟨by first | omega | exact Nat.le_refl _⟩, ⟨by repeat (first | (with_reducible first | exact HB.out | apply below_alloc | apply pw_below_drewN | apply below_drew1) | exact HB.out)⟩⟩
  ·replace c4 := Bool.eq_false_iff.mpr c4
   subst c4
   have H1 : (spec_SystemIn.j0 k l0 true) = some r := by rw [if_neg (show ¬ (false = true) by decide)] at H; exact H
   clear H
   have H := H1
   clear H1
   have H' := Aside0.mk H
   clear H
   go_wp2_with (first | (refine goesL_ (some 6) rfl rfl Try.func128 (by kernel_rfl) rfl #[.slice A0 l0.length c0] rfl ll_ ?_; (with_reducible refine (spec_l2Table.calls k _ _ l0 false _ ?side1 ?side2 A3.out).mono ?_); (case side1 => exact sb_ HR0 HB); (case side2 => exact HC0.out); rintro e w' ⟨rfl, ⟨nd, rfl⟩⟩; refine ⟨_, rfl, ?_⟩))
   go_meet
   case rel => exact ⟨_, (true), (by first | rfl | (simp; done) | (simp [*]; done)), H', ⟨by first | omega | exact Nat.le_refl _⟩, ⟨by repeat (first | (with_reducible first | exact HB.out | apply below_alloc | apply pw_below_drewN | apply below_drew1) | exact HB.out)⟩⟩
 case rest =>
  clear HC2
  try clear c1
  try clear p2
  try clear c4
  try clear c6
  obtain ⟨kq, x17_1, rfl, HA, HJ1, HB⟩ := hcut
  cases kq with
  | zero => exact absurd HA.out (by simp [spec_SystemIn.j0])
  | succ kj1 =>
   have H := HA.out
   clear HA
   simp only [spec_SystemIn.j0] at H
   by_cases c8 : x17_1 = true
   ·subst c8
    have H1 : (some false) = some r := by rw [if_pos rfl] at H; exact H
    clear H
    have H := H1
    clear H1
    obtain rfl := Option.some.inj H
    go_wp2
    go_ret
    exact ⟨ee_, bb_ HB⟩
   ·replace c8 := Bool.eq_false_iff.mpr c8
    subst c8
    have H1 : (spec_SystemIn.l0 kj1 l0 0) = some r := by rw [if_neg (show ¬ (false = true) by decide)] at H; exact H
    clear H
    have H := H1
    clear H1
    have H' := Aside0.mk H
    clear H
    go_wp2
    go_loopg [3] kj1 (fun kq v3 w' => ∃ (x3_2 : Int), v3 = .int .i64 x3_2 ∧ Aside0 (spec_SystemIn.l0 kq l0 x3_2 = some r) ∧ Aside0 (kq ≤ kj1) ∧ Aside0 (Below w.heap.size w w'))
    case atStart => exact ⟨(0), (by first | rfl | (simp; done) | (simp [*]; done)), H', ⟨Nat.le_refl _⟩, ⟨by repeat (first | (with_reducible first | exact HB.out | apply below_alloc | apply pw_below_drewN | apply below_drew1) | exact HB.out)⟩⟩
    case round =>
     clear H'
     try clear c1
     try clear p2
     try clear c4
     try clear c6
     try clear c8
     try clear p2
     obtain ⟨x3_2, rfl, HA, HK2, HB⟩ := hrel
     cases gk with
     | zero => exact absurd HA.out (by simp [spec_SystemIn.l0])
     | succ k2 =>
      have H := HA.out
      clear HA
      simp only [spec_SystemIn.l0] at H
      by_cases c9 : x3_2 < 9
      ·rw [if_pos c9] at H
       have c9b0 : decide (x3_2 < 9) = true := decide_eq_true c9
       clear c9
       have H' := Aside0.mk H
       clear H
       go_wp2
       go_loopg [4] k2 (fun kq v4 w' => ∃ (x4_3 : Int), v4 = .int .i64 x4_3 ∧ Aside0 (spec_SystemIn.l1 kq l0 x3_2 x4_3 = some r) ∧ Aside0 (kq ≤ k2) ∧ Aside0 (Below w.heap.size w w'))
       case atStart => exact ⟨(0), (by first | rfl | (simp; done) | (simp [*]; done)), H', ⟨Nat.le_refl _⟩, ⟨by repeat (first | (with_reducible first | exact HB.out | apply below_alloc | apply pw_below_drewN | apply below_drew1) | exact HB.out)⟩⟩
       case round =>
        clear H'
        try clear c1
        try clear p2
        try clear c4
        try clear c6
        try clear c8
        try clear c9
        try clear c9b0
        try clear p2
        obtain ⟨x4_3, rfl, HA, HK3, HB⟩ := hrel
        cases gk with
        | zero => exact absurd HA.out (by simp [spec_SystemIn.l1])
        | succ k3 =>
         have H := HA.out
         clear HA
         simp only [spec_SystemIn.l1] at H
         by_cases c10 : x4_3 < x3_2
         ·rw [if_pos c10] at H
          have c10b0 : decide (x4_3 < x3_2) = true := decide_eq_true c10
          clear c10
          replace H := Option.bind_eq_some_iff.mp H
          obtain ⟨t175, A110, H⟩ := H
          replace H : (if t175 = true then (spec_SystemIn.l1 k3 l0 x3_2 (wrap64 (x4_3 + 1))) else (some false)) = some r := H
          have A11 := Aside0.mk A110
          clear A110
          by_cases c12 : t175 = true
          ·subst c12
           have H1 : (spec_SystemIn.l1 k3 l0 x3_2 (wrap64 (x4_3 + 1))) = some r := by rw [if_pos rfl] at H; exact H
           clear H
           have H := H1
           clear H1
           have H' := Aside0.mk H
           clear H
           go_wp2_with (first | (refine goesL_ (some 30) rfl rfl Try.func131 (by kernel_rfl) rfl #[.slice A0 l0.length c0, .int .i64 x3_2, .int .i64 x4_3] rfl ll_ ?_; (with_reducible refine (spec_l2Solves.calls _ _ l0 x3_2 x4_3 true _ ?side1 ?side2 A11.out).mono ?_); (case side1 => exact sb_ HR0 HB); (case side2 => exact HC0.out); rintro e w13 ⟨rfl, hb⟩; refine ⟨_, rfl, ?_⟩; have n0_ := Aside0.mk (below_step (bb_ HB) hb); clear HB; have HB := n0_; clear n0_; (try clear hb); (try clear hb2); (try clear hk); (try clear hi)))
           go_roundg k3
           case measure => have := HJ1.out; have := HK2.out; have := HK3.out; omega
           case rel => exact ⟨(wrap64 (x4_3 + 1)), (by first | rfl | (simp; done) | (simp [*]; done)), H', ⟨by have := HJ1.out; have := HK2.out; have := HK3.out; omega⟩, ⟨by repeat (first | (with_reducible first | exact HB.out | apply below_alloc | apply pw_below_drewN | apply below_drew1) | exact HB.out)⟩⟩
          ·replace c12 := Bool.eq_false_iff.mpr c12
           subst c12
           have H1 : (some false) = some r := by rw [if_neg (show ¬ (false = true) by decide)] at H; exact H
           clear H
           have H := H1
           clear H1
           obtain rfl := Option.some.inj H
           go_wp2_with (first | (refine goesL_ (some 30) rfl rfl Try.func131 (by kernel_rfl) rfl #[.slice A0 l0.length c0, .int .i64 x3_2, .int .i64 x4_3] rfl ll_ ?_; (with_reducible refine (spec_l2Solves.calls _ _ l0 x3_2 x4_3 false _ ?side1 ?side2 A11.out).mono ?_); (case side1 => exact sb_ HR0 HB); (case side2 => exact HC0.out); rintro e w14 ⟨rfl, hb⟩; refine ⟨_, rfl, ?_⟩; have n0_ := Aside0.mk (below_step (bb_ HB) hb); clear HB; have HB := n0_; clear n0_; (try clear hb); (try clear hb2); (try clear hk); (try clear hi)))
           go_ret
           exact ⟨ee_, bb_ HB⟩
         ·rw [if_neg c10] at H
          have c10b0 : decide (x4_3 < x3_2) = false := decide_eq_false c10
          clear c10
          have H' := Aside0.mk H
          clear H
          go_wp2
          go_roundg k3
          case measure => have := HJ1.out; have := HK2.out; have := HK3.out; omega
          case rel => exact ⟨(wrap64 (x3_2 + 1)), (by first | rfl | (simp; done) | (simp [*]; done)), H', ⟨by have := HJ1.out; have := HK2.out; have := HK3.out; omega⟩, ⟨by repeat (first | (with_reducible first | exact HB.out | apply below_alloc | apply pw_below_drewN | apply below_drew1) | exact HB.out)⟩⟩
      ·rw [if_neg c9] at H
       have c9b0 : decide (x3_2 < 9) = false := decide_eq_false c9
       clear c9
       obtain rfl := Option.some.inj H
       go_wp2
       go_ret
       exact ⟨ee_, bb_ HB⟩
end Go.Proofs.Ytcbkoecanldlpaa.P

namespace Go.Proofs.Ytcbkoecanldlpaa.P
open Go.RowKit Go.Proofs.YtcbkoecanldlpaaW.PrintWords Go.Proofs.YtcbkoecanldlpaaW.PrintLast
set_option linter.unusedVariables false
set_option linter.unusedSimpArgs false

def spec_l3In.f (a0 : Int) : Option (Bool) := (spec_l6In.f a0 0 90).bind fun t180 => (some t180)
set_option maxHeartbeats 8000000 in
set_option maxRecDepth 100000 in
theorem spec_l3In.calls (a0 : Int) (r : Bool) (w : World) (h : spec_l3In.f a0 = some r) :
  Calls Try.prog 83 #[.int .i64 a0] w fun e w' => e = .returned (.bool r) ∧ Drawn0 w w' := by
 have H : ((spec_l6In.f a0 0 90).bind fun t180 => (some t180)) = some r := h
 clear h
 replace H := Option.bind_eq_some_iff.mp H
 obtain ⟨t180, A20, H⟩ := H
 replace H : (some t180) = some r := H
 have A2 := Aside0.mk A20
 clear A20
 obtain rfl := Option.some.inj H
 go_enter Try.func83, Try.ntmps83
 go_wp2_with (first | (refine goesL_ (some 4) rfl rfl Try.func87 (by kernel_rfl) rfl #[.int .i64 a0, .int .i64 0, .int .i64 90] rfl ll_ ?_; (with_reducible refine (spec_l6In.calls a0 0 90 t180 _ A2.out).mono ?_); rintro e w' ⟨rfl, ⟨nd, rfl⟩⟩; refine ⟨_, rfl, ?_⟩))
 go_ret
 exact ⟨by first | rfl | (simp; done) | (simp [*]; done), by repeat (first | exact Drawn0.refl _ | apply Drawn0.step)⟩
end Go.Proofs.Ytcbkoecanldlpaa.P

namespace Go.Proofs.Ytcbkoecanldlpaa.P
open Go.RowKit Go.Proofs.YtcbkoecanldlpaaW.PrintWords Go.Proofs.YtcbkoecanldlpaaW.PrintLast
set_option linter.unusedVariables false
set_option linter.unusedSimpArgs false

def spec_l3On.f (l0 : List Int) (a1 : Int) (a2 : Int) : Option (Bool) := if a2 = 90 then (some (decide (a1 ≥ 81))) else (if a2 ≥ 81 then (if a1 = 90 then (some true) else (if a1 < 81 then (some ((wrap64 (Int.tdiv a1 9)) == (wrap64 (a2 - 81)))) else (some false))) else (if a1 ≥ 81 then (some ((wrap64 (a1 - 81)) == (wrap64 (Int.tdiv a2 9)))) else (if 0 ≤ (wrap64 ((wrap64 ((wrap64 (Int.tdiv a1 9)) * 9)) + (wrap64 (Int.tdiv a2 9)))) then (if (wrap64 ((wrap64 ((wrap64 (Int.tdiv a1 9)) * 9)) + (wrap64 (Int.tdiv a2 9)))) < (l0.length : Int) then ((spec_l1Add.f (rd l0 (wrap64 ((wrap64 ((wrap64 (Int.tdiv a1 9)) * 9)) + (wrap64 (Int.tdiv a2 9))))) (Int.tmod a2 9)).bind fun t177 => (some ((Int.tmod a1 9) == t177))) else (none)) else (none))))
set_option maxHeartbeats 8000000 in
set_option maxRecDepth 100000 in
theorem spec_l3On.calls (A0 : Option Addr) (c0 : Nat) (l0 : List Int) (a1 : Int) (a2 : Int) (r : Bool) (w : World) (hr0 : Kd.C (Kd.int .i64) w A0 l0.length l0) (hc0 : l0.length ≤ c0) (h : spec_l3On.f l0 a1 a2 = some r) :
  Calls Try.prog 106 #[.slice A0 l0.length c0, .int .i64 a1, .int .i64 a2] w fun e w' => e = .returned (.bool r) ∧ Drawn0 w w' := by
 have HR0 := Aside0.mk hr0
 have HC0 := Aside0.mk hc0
 clear hr0 hc0
 have H : (if a2 = 90 then (some (decide (a1 ≥ 81))) else (if a2 ≥ 81 then (if a1 = 90 then (some true) else (if a1 < 81 then (some ((wrap64 (Int.tdiv a1 9)) == (wrap64 (a2 - 81)))) else (some false))) else (if a1 ≥ 81 then (some ((wrap64 (a1 - 81)) == (wrap64 (Int.tdiv a2 9)))) else (if 0 ≤ (wrap64 ((wrap64 ((wrap64 (Int.tdiv a1 9)) * 9)) + (wrap64 (Int.tdiv a2 9)))) then (if (wrap64 ((wrap64 ((wrap64 (Int.tdiv a1 9)) * 9)) + (wrap64 (Int.tdiv a2 9)))) < (l0.length : Int) then ((spec_l1Add.f (rd l0 (wrap64 ((wrap64 ((wrap64 (Int.tdiv a1 9)) * 9)) + (wrap64 (Int.tdiv a2 9))))) (Int.tmod a2 9)).bind fun t177 => (some ((Int.tmod a1 9) == t177))) else (none)) else (none))))) = some r := h
 clear h
 by_cases c4 : a2 = 90
 ·rw [if_pos c4] at H
  have c4b0 : (a2 == 90) = true := beq_iff_eq.mpr c4
  have c4b1 : (a2 != 90) = false := bne_eq_false_iff_eq.mpr c4
  clear c4
  obtain rfl := Option.some.inj H
  go_enter Try.func106, Try.ntmps106
  go_wp2
  go_ret
  exact ⟨by first | rfl | (simp; done) | (simp [*]; done), by repeat (first | exact Drawn0.refl _ | apply Drawn0.step)⟩
 ·rw [if_neg c4] at H
  have c4b0 : (a2 == 90) = false := beq_eq_false_iff_ne.mpr c4
  have c4b1 : (a2 != 90) = true := bne_iff_ne.mpr c4
  by_cases c5 : a2 ≥ 81
  ·rw [if_pos c5] at H
   have c5b0 : decide (81 ≤ a2) = true := decide_eq_true c5
   clear c5
   by_cases c6 : a1 = 90
   ·rw [if_pos c6] at H
    have c6b0 : (a1 == 90) = true := beq_iff_eq.mpr c6
    have c6b1 : (a1 != 90) = false := bne_eq_false_iff_eq.mpr c6
    clear c6
    obtain rfl := Option.some.inj H
    go_enter Try.func106, Try.ntmps106
    go_wp2
    go_ret
    exact ⟨by first | rfl | (simp; done) | (simp [*]; done), by repeat (first | exact Drawn0.refl _ | apply Drawn0.step)⟩
   ·rw [if_neg c6] at H
    have c6b0 : (a1 == 90) = false := beq_eq_false_iff_ne.mpr c6
    have c6b1 : (a1 != 90) = true := bne_iff_ne.mpr c6
    by_cases c7 : a1 < 81
    ·rw [if_pos c7] at H
     have c7b0 : decide (a1 < 81) = true := decide_eq_true c7
     clear c7
     obtain rfl := Option.some.inj H
     go_enter Try.func106, Try.ntmps106
     go_wp2
     go_ret
     exact ⟨by first | rfl | (simp; done) | (simp [*]; done), by repeat (first | exact Drawn0.refl _ | apply Drawn0.step)⟩
    ·rw [if_neg c7] at H
     have c7b0 : decide (a1 < 81) = false := decide_eq_false c7
     clear c7
     obtain rfl := Option.some.inj H
     go_enter Try.func106, Try.ntmps106
     go_wp2
     go_ret
     exact ⟨by first | rfl | (simp; done) | (simp [*]; done), by repeat (first | exact Drawn0.refl _ | apply Drawn0.step)⟩
  ·rw [if_neg c5] at H
   have c5b0 : decide (81 ≤ a2) = false := decide_eq_false c5
   clear c5
   by_cases c8 : a1 ≥ 81
   ·rw [if_pos c8] at H
    have c8b0 : decide (81 ≤ a1) = true := decide_eq_true c8
    clear c8
    obtain rfl := Option.some.inj H
    go_enter Try.func106, Try.ntmps106
    go_wp2
    go_ret
    exact ⟨by first | rfl | (simp; done) | (simp [*]; done), by repeat (first | exact Drawn0.refl _ | apply Drawn0.step)⟩
   ·rw [if_neg c8] at H
    have c8b0 : decide (81 ≤ a1) = false := decide_eq_false c8
    clear c8
    obtain ⟨ji9, hji9⟩ : ∃ j_ : Int, (wrap64 ((wrap64 ((wrap64 (Int.tdiv a1 9)) * 9)) + (wrap64 (Int.tdiv a2 9)))) = j_ := ⟨_, rfl⟩
    replace H : (if 0 ≤ (ji9) then (if (ji9) < (l0.length : Int) then ((spec_l1Add.f (rd l0 (ji9)) (Int.tmod a2 9)).bind fun t177 => (some ((Int.tmod a1 9) == t177))) else (none)) else (none)) = some r := by first | (rw [hji9] at H; exact H) | (simp only [hji9] at H ⊢; exact H)
    have hji9w : (IntKind.i64.wrap ((wrap64 ((wrap64 (Int.tdiv a1 9)) * 9)) + (wrap64 (Int.tdiv a2 9)))) = ji9 := (i64_w _).trans hji9
    by_cases c10 : 0 ≤ (ji9)
    ·rw [if_pos c10] at H
     have c10b0 : decide (0 ≤ (ji9)) = true := decide_eq_true c10
     clear c10
     by_cases c11 : (ji9) < (l0.length : Int)
     ·rw [if_pos c11] at H
      have c11b0 : decide ((ji9) < (l0.length : Int)) = true := decide_eq_true c11
      clear c11
      replace H := Option.bind_eq_some_iff.mp H
      obtain ⟨t177, A120, H⟩ := H
      replace H : (some ((Int.tmod a1 9) == t177)) = some r := H
      have A12 := Aside0.mk A120
      clear A120
      obtain rfl := Option.some.inj H
      have p176 : 0 ≤ ((ji9) : Int) := dd_
      have q176 : (ji9) < (l0.length : Int) := dd_
      obtain ⟨ad176, e176, hx176_0⟩ := Kd.at_int HR0.out (ji9) p176 q176
      cases e176
      replace p176 := eq_true p176
      replace q176 := eq_true q176
      go_enter Try.func106, Try.ntmps106
      go_wp2_with (first | (refine goesL_ (some 49) rfl rfl Try.func146 (by kernel_rfl) rfl #[.int .i64 (rd l0 (ji9)), .int .i64 (Int.tmod a2 9)] rfl (by (try simp only [List.map_toArray, List.map_cons, List.map_nil]); first | done | (simp only [hji9]; rfl) | rfl | (simp only [List.length_drop, List.length_take]; rfl)) ?_; (with_reducible refine (spec_l1Add.calls (rd l0 (ji9)) (Int.tmod a2 9) t177 _ A12.out).mono ?_); rintro e w' ⟨rfl, ⟨nd, rfl⟩⟩; refine ⟨_, rfl, ?_⟩))
      go_ret
      exact ⟨by first | rfl | (simp; done) | (simp only [← hji9] <;> (first | rfl | simp)) | (simp [*]; done), by repeat (first | exact Drawn0.refl _ | apply Drawn0.step)⟩
     ·rw [if_neg c11] at H
      exact absurd H (by simp)
    ·rw [if_neg c10] at H
     exact absurd H (by simp)
end Go.Proofs.Ytcbkoecanldlpaa.P

namespace Go.Proofs.Ytcbkoecanldlpaa.P
open Go.RowKit Go.Proofs.YtcbkoecanldlpaaW.PrintWords Go.Proofs.YtcbkoecanldlpaaW.PrintLast
set_option linter.unusedVariables false
set_option linter.unusedSimpArgs false

def spec_l3Join.l0 : Nat → List Int → Int → Int → Int → Option (Int)
 | 0, _, _, _, _ => none
 | k + 1, x0, x1, x2, x7 => if x7 < 91 then ((spec_l3On.f x0 x1 x7).bind fun t178 => (if t178 = true then ((spec_l3On.f x0 x2 x7).bind fun t179 => (if t179 = true then (some x7) else (spec_l3Join.l0 k x0 x1 x2 (wrap64 (x7 + 1))))) else (spec_l3Join.l0 k x0 x1 x2 (wrap64 (x7 + 1))))) else (some 0)
def spec_l3Join.f (k : Nat) (l0 : List Int) (a1 : Int) (a2 : Int) : Option (Int) := spec_l3Join.l0 k l0 a1 a2 0
set_option maxHeartbeats 8000000 in
set_option maxRecDepth 100000 in
theorem spec_l3Join.calls (k : Nat) (A0 : Option Addr) (c0 : Nat) (l0 : List Int) (a1 : Int) (a2 : Int) (r : Int) (w : World) (hr0 : Kd.C (Kd.int .i64) w A0 l0.length l0) (hc0 : l0.length ≤ c0) (h : spec_l3Join.f k l0 a1 a2 = some r) :
  Calls Try.prog 66 #[.slice A0 l0.length c0, .int .i64 a1, .int .i64 a2] w fun e w' => e = .returned (.int .i64 r) ∧ Drawn0 w w' := by
 have HR0 := Aside0.mk hr0
 have HC0 := Aside0.mk hc0
 clear hr0 hc0
 have H : (spec_l3Join.l0 k l0 a1 a2 0) = some r := h
 clear h
 have H' := Aside0.mk H
 clear H
 go_enter Try.func66, Try.ntmps66
 go_wp2
 go_loopg [7] k (fun kq v7 w' => ∃ (x7_1 : Int), v7 = .int .i64 x7_1 ∧ Aside0 (spec_l3Join.l0 kq l0 a1 a2 x7_1 = some r) ∧ Aside0 (kq ≤ k) ∧ Drawn0 w w')
 case atStart => exact ⟨(0), (by first | rfl | (simp; done) | (simp [*]; done)), H', ⟨Nat.le_refl _⟩, by repeat (first | exact Drawn0.refl _ | apply Drawn0.step)⟩
 case round =>
  clear H'
  try clear p2
  obtain ⟨x7_1, rfl, HA, HK1, ⟨m1, rfl⟩⟩ := hrel
  cases gk with
  | zero => exact absurd HA.out (by simp [spec_l3Join.l0])
  | succ k1 =>
   have H := HA.out
   clear HA
   simp only [spec_l3Join.l0] at H
   by_cases c4 : x7_1 < 91
   ·rw [if_pos c4] at H
    have c4b0 : decide (x7_1 < 91) = true := decide_eq_true c4
    clear c4
    replace H := Option.bind_eq_some_iff.mp H
    obtain ⟨t178, A50, H⟩ := H
    replace H : (if t178 = true then ((spec_l3On.f l0 a2 x7_1).bind fun t179 => (if t179 = true then (some x7_1) else (spec_l3Join.l0 k1 l0 a1 a2 (wrap64 (x7_1 + 1))))) else (spec_l3Join.l0 k1 l0 a1 a2 (wrap64 (x7_1 + 1)))) = some r := H
    have A5 := Aside0.mk A50
    clear A50
    by_cases c6 : t178 = true
    ·subst c6
     have H1 : ((spec_l3On.f l0 a2 x7_1).bind fun t179 => (if t179 = true then (some x7_1) else (spec_l3Join.l0 k1 l0 a1 a2 (wrap64 (x7_1 + 1))))) = some r := by rw [if_pos rfl] at H; exact H
     clear H
     have H := H1
     clear H1
     replace H := Option.bind_eq_some_iff.mp H
     obtain ⟨t179, A70, H⟩ := H
     replace H : (if t179 = true then (some x7_1) else (spec_l3Join.l0 k1 l0 a1 a2 (wrap64 (x7_1 + 1)))) = some r := H
     have A7 := Aside0.mk A70
     clear A70
     by_cases c8 : t179 = true
     ·subst c8
      have H1 : (some x7_1) = some r := by rw [if_pos rfl] at H; exact H
      clear H
      have H := H1
      clear H1
      obtain rfl := Option.some.inj H
      go_wp2_with (first | (refine goesL_ (some 15) rfl rfl Try.func106 (by kernel_rfl) rfl #[.slice A0 l0.length c0, .int .i64 a1, .int .i64 x7_1] rfl ll_ ?_; (with_reducible refine (spec_l3On.calls _ _ l0 a1 x7_1 true _ ?side1 ?side2 A5.out).mono ?_); (case side1 => exact ss_ HR0); (case side2 => exact HC0.out); rintro e w' ⟨rfl, ⟨nd, rfl⟩⟩; refine ⟨_, rfl, ?_⟩) | (go_at_call 106; (with_reducible refine (spec_l3On.calls _ _ l0 a2 x7_1 true _ ?side1 ?side2 A7.out).mono ?_); (case side1 => exact ss_ HR0); (case side2 => exact HC0.out); rintro e w' ⟨rfl, ⟨nd, rfl⟩⟩))
      go_ret
      exact ⟨by first | rfl | (simp; done) | (simp [*]; done), by repeat (first | exact Drawn0.refl _ | apply Drawn0.step)⟩
     ·replace c8 := Bool.eq_false_iff.mpr c8
      subst c8
      have H1 : (spec_l3Join.l0 k1 l0 a1 a2 (wrap64 (x7_1 + 1))) = some r := by rw [if_neg (show ¬ (false = true) by decide)] at H; exact H
      clear H
      have H := H1
      clear H1
      have H' := Aside0.mk H
      clear H
      go_wp2_with (first | (refine goesL_ (some 15) rfl rfl Try.func106 (by kernel_rfl) rfl #[.slice A0 l0.length c0, .int .i64 a1, .int .i64 x7_1] rfl ll_ ?_; (with_reducible refine (spec_l3On.calls _ _ l0 a1 x7_1 true _ ?side1 ?side2 A5.out).mono ?_); (case side1 => exact ss_ HR0); (case side2 => exact HC0.out); rintro e w' ⟨rfl, ⟨nd, rfl⟩⟩; refine ⟨_, rfl, ?_⟩) | (go_at_call 106; (with_reducible refine (spec_l3On.calls _ _ l0 a2 x7_1 false _ ?side1 ?side2 A7.out).mono ?_); (case side1 => exact ss_ HR0); (case side2 => exact HC0.out); rintro e w' ⟨rfl, ⟨nd, rfl⟩⟩))
      go_roundg k1
      case measure => have := HK1.out; omega
      case rel => exact ⟨(wrap64 (x7_1 + 1)), (by first | rfl | (simp; done) | (simp [*]; done)), H', ⟨by have := HK1.out; omega⟩, by repeat (first | exact Drawn0.refl _ | apply Drawn0.step)⟩
    ·replace c6 := Bool.eq_false_iff.mpr c6
     subst c6
     have H1 : (spec_l3Join.l0 k1 l0 a1 a2 (wrap64 (x7_1 + 1))) = some r := by rw [if_neg (show ¬ (false = true) by decide)] at H; exact H
     clear H
     have H := H1
     clear H1
     have H' := Aside0.mk H
     clear H
     go_wp2_with (first | (refine goesL_ (some 15) rfl rfl Try.func106 (by kernel_rfl) rfl #[.slice A0 l0.length c0, .int .i64 a1, .int .i64 x7_1] rfl ll_ ?_; (with_reducible refine (spec_l3On.calls _ _ l0 a1 x7_1 false _ ?side1 ?side2 A5.out).mono ?_); (case side1 => exact ss_ HR0); (case side2 => exact HC0.out); rintro e w' ⟨rfl, ⟨nd, rfl⟩⟩; refine ⟨_, rfl, ?_⟩))
     go_roundg k1
     case measure => have := HK1.out; omega
     case rel => exact ⟨(wrap64 (x7_1 + 1)), (by first | rfl | (simp; done) | (simp [*]; done)), H', ⟨by have := HK1.out; omega⟩, by repeat (first | exact Drawn0.refl _ | apply Drawn0.step)⟩
   ·rw [if_neg c4] at H
    have c4b0 : decide (x7_1 < 91) = false := decide_eq_false c4
    clear c4
    obtain rfl := Option.some.inj H
    go_wp2
    go_ret
    exact ⟨by first | rfl | (simp; done) | (simp [*]; done), by repeat (first | exact Drawn0.refl _ | apply Drawn0.step)⟩
end Go.Proofs.Ytcbkoecanldlpaa.P

namespace Go.Proofs.Ytcbkoecanldlpaa.P
open Go.RowKit Go.Proofs.YtcbkoecanldlpaaW.PrintWords Go.Proofs.YtcbkoecanldlpaaW.PrintLast
set_option linter.unusedVariables false
set_option linter.unusedSimpArgs false

def spec_PlaneJoin.f (k : Nat) (l0 : List Int) (a1 : Int) (a2 : Int) : Option (Int × Bool) := (spec_SystemIn.f k l0).bind fun t181 => (if t181 = true then ((spec_l3In.f a1).bind fun t182 => (if t182 = true then ((spec_l3In.f a2).bind fun t183 => (if t183 = true then (if a1 = a2 then (some (0, false)) else ((spec_l3Join.f k l0 a1 a2).bind fun t184 => (some (t184, true)))) else (some (0, false)))) else (some (0, false)))) else (some (0, false)))
set_option maxHeartbeats 8000000 in
set_option maxRecDepth 100000 in
theorem spec_PlaneJoin.calls (k : Nat) (A0 : Option Addr) (c0 : Nat) (l0 : List Int) (a1 : Int) (a2 : Int) (r1 : Int) (r2 : Bool) (w : World) (hr0 : Kd.C (Kd.int .i64) w A0 l0.length l0) (hc0 : l0.length ≤ c0) (h : spec_PlaneJoin.f k l0 a1 a2 = some (r1, r2)) :
  Calls Try.prog 118 #[.slice A0 l0.length c0, .int .i64 a1, .int .i64 a2] w fun e w' => e = .returned (.tuple #[.int .i64 r1, .bool r2]) ∧ Below w.heap.size w w' := by
 have HR0 := Aside0.mk hr0
 have HC0 := Aside0.mk hc0
 clear hr0 hc0
 have HB := Aside0.mk (Below.refl w.heap.size w)
 have H : ((spec_SystemIn.f k l0).bind fun t181 => (if t181 = true then ((spec_l3In.f a1).bind fun t182 => (if t182 = true then ((spec_l3In.f a2).bind fun t183 => (if t183 = true then (if a1 = a2 then (some (0, false)) else ((spec_l3Join.f k l0 a1 a2).bind fun t184 => (some (t184, true)))) else (some (0, false)))) else (some (0, false)))) else (some (0, false)))) = some (r1, r2) := h
 clear h
 replace H := Option.bind_eq_some_iff.mp H
 obtain ⟨t181, A40, H⟩ := H
 replace H : (if t181 = true then ((spec_l3In.f a1).bind fun t182 => (if t182 = true then ((spec_l3In.f a2).bind fun t183 => (if t183 = true then (if a1 = a2 then (some (0, false)) else ((spec_l3Join.f k l0 a1 a2).bind fun t184 => (some (t184, true)))) else (some (0, false)))) else (some (0, false)))) else (some (0, false))) = some (r1, r2) := H
 have A4 := Aside0.mk A40
 clear A40
 by_cases c5 : t181 = true
 ·subst c5
  have H1 : ((spec_l3In.f a1).bind fun t182 => (if t182 = true then ((spec_l3In.f a2).bind fun t183 => (if t183 = true then (if a1 = a2 then (some (0, false)) else ((spec_l3Join.f k l0 a1 a2).bind fun t184 => (some (t184, true)))) else (some (0, false)))) else (some (0, false)))) = some (r1, r2) := by rw [if_pos rfl] at H; exact H
  clear H
  have H := H1
  clear H1
  replace H := Option.bind_eq_some_iff.mp H
  obtain ⟨t182, A60, H⟩ := H
  replace H : (if t182 = true then ((spec_l3In.f a2).bind fun t183 => (if t183 = true then (if a1 = a2 then (some (0, false)) else ((spec_l3Join.f k l0 a1 a2).bind fun t184 => (some (t184, true)))) else (some (0, false)))) else (some (0, false))) = some (r1, r2) := H
  have A6 := Aside0.mk A60
  clear A60
  by_cases c7 : t182 = true
  ·subst c7
   have H1 : ((spec_l3In.f a2).bind fun t183 => (if t183 = true then (if a1 = a2 then (some (0, false)) else ((spec_l3Join.f k l0 a1 a2).bind fun t184 => (some (t184, true)))) else (some (0, false)))) = some (r1, r2) := by rw [if_pos rfl] at H; exact H
   clear H
   have H := H1
   clear H1
   replace H := Option.bind_eq_some_iff.mp H
   obtain ⟨t183, A80, H⟩ := H
   replace H : (if t183 = true then (if a1 = a2 then (some (0, false)) else ((spec_l3Join.f k l0 a1 a2).bind fun t184 => (some (t184, true)))) else (some (0, false))) = some (r1, r2) := H
   have A8 := Aside0.mk A80
   clear A80
   by_cases c9 : t183 = true
   ·subst c9
    have H1 : (if a1 = a2 then (some (0, false)) else ((spec_l3Join.f k l0 a1 a2).bind fun t184 => (some (t184, true)))) = some (r1, r2) := by rw [if_pos rfl] at H; exact H
    clear H
    have H := H1
    clear H1
    by_cases c10 : a1 = a2
    ·rw [if_pos c10] at H
     have c10b0 : (a1 == a2) = true := beq_iff_eq.mpr c10
     have c10b1 : (a1 != a2) = false := bne_eq_false_iff_eq.mpr c10
     clear c10
     simp only [Option.some.injEq, Prod.mk.injEq] at H
     obtain ⟨rfl, rfl⟩ := H
     go_enter Try.func118, Try.ntmps118
     go_wp2_with (first | (refine goesL_ (some 9) rfl rfl Try.func63 (by kernel_rfl) rfl #[.slice A0 l0.length c0] rfl ll_ ?_; (with_reducible refine (spec_SystemIn.calls k _ _ l0 true _ ?side1 ?side2 A4.out).mono ?_); (case side1 => exact ss_ HR0); (case side2 => exact HC0.out); rintro e w11 ⟨rfl, hb⟩; refine ⟨_, rfl, ?_⟩; have n0_ := Aside0.mk (below_step (bb_ HB) hb); clear HB; have HB := n0_; clear n0_; (try clear hb); (try clear hb2); (try clear hk); (try clear hi)) | (go_at_call 83; (with_reducible refine (spec_l3In.calls a1 true _ A6.out).mono ?_); rintro e w' ⟨rfl, ⟨nd, rfl⟩⟩) | (go_at_call 83; (with_reducible refine (spec_l3In.calls a2 true _ A8.out).mono ?_); rintro e w' ⟨rfl, ⟨nd, rfl⟩⟩))
     go_ret2
     exact ⟨ee_, bb_ HB⟩
    ·rw [if_neg c10] at H
     have c10b0 : (a1 == a2) = false := beq_eq_false_iff_ne.mpr c10
     have c10b1 : (a1 != a2) = true := bne_iff_ne.mpr c10
     replace H := Option.bind_eq_some_iff.mp H
     obtain ⟨t184, A120, H⟩ := H
     replace H : (some (t184, true)) = some (r1, r2) := H
     have A12 := Aside0.mk A120
     clear A120
     simp only [Option.some.injEq, Prod.mk.injEq] at H
     obtain ⟨rfl, rfl⟩ := H
     go_enter Try.func118, Try.ntmps118
     go_wp2_with (first | (refine goesL_ (some 9) rfl rfl Try.func63 (by kernel_rfl) rfl #[.slice A0 l0.length c0] rfl ll_ ?_; (with_reducible refine (spec_SystemIn.calls k _ _ l0 true _ ?side1 ?side2 A4.out).mono ?_); (case side1 => exact ss_ HR0); (case side2 => exact HC0.out); rintro e w13 ⟨rfl, hb⟩; refine ⟨_, rfl, ?_⟩; have n0_ := Aside0.mk (below_step (bb_ HB) hb); clear HB; have HB := n0_; clear n0_; (try clear hb); (try clear hb2); (try clear hk); (try clear hi)) | (go_at_call 83; (with_reducible refine (spec_l3In.calls a1 true _ A6.out).mono ?_); rintro e w' ⟨rfl, ⟨nd, rfl⟩⟩) | (go_at_call 83; (with_reducible refine (spec_l3In.calls a2 true _ A8.out).mono ?_); rintro e w' ⟨rfl, ⟨nd, rfl⟩⟩) | (refine goesL_ (some 29) rfl rfl Try.func66 (by kernel_rfl) rfl #[.slice A0 l0.length c0, .int .i64 a1, .int .i64 a2] rfl ll_ ?_; (with_reducible refine (spec_l3Join.calls k _ _ l0 a1 a2 t184 _ ?side1 ?side2 A12.out).mono ?_); (case side1 => repeat (first | exact (Kd.C_below HR0.out (bb_ HB)) | (with_reducible refine Kd.C_alloc ?_ _) | (with_reducible refine Kd.C_drewN ?_ _) | (with_reducible refine Kd.C_drew ?_))); (case side2 => exact HC0.out); rintro e w' ⟨rfl, ⟨nd, rfl⟩⟩; refine ⟨_, rfl, ?_⟩))
     go_ret2
     exact ⟨ee_, bb_ HB⟩
   ·replace c9 := Bool.eq_false_iff.mpr c9
    subst c9
    have H1 : (some (0, false)) = some (r1, r2) := by rw [if_neg (show ¬ (false = true) by decide)] at H; exact H
    clear H
    have H := H1
    clear H1
    simp only [Option.some.injEq, Prod.mk.injEq] at H
    obtain ⟨rfl, rfl⟩ := H
    go_enter Try.func118, Try.ntmps118
    go_wp2_with (first | (refine goesL_ (some 9) rfl rfl Try.func63 (by kernel_rfl) rfl #[.slice A0 l0.length c0] rfl ll_ ?_; (with_reducible refine (spec_SystemIn.calls k _ _ l0 true _ ?side1 ?side2 A4.out).mono ?_); (case side1 => exact ss_ HR0); (case side2 => exact HC0.out); rintro e w14 ⟨rfl, hb⟩; refine ⟨_, rfl, ?_⟩; have n0_ := Aside0.mk (below_step (bb_ HB) hb); clear HB; have HB := n0_; clear n0_; (try clear hb); (try clear hb2); (try clear hk); (try clear hi)) | (go_at_call 83; (with_reducible refine (spec_l3In.calls a1 true _ A6.out).mono ?_); rintro e w' ⟨rfl, ⟨nd, rfl⟩⟩) | (go_at_call 83; (with_reducible refine (spec_l3In.calls a2 false _ A8.out).mono ?_); rintro e w' ⟨rfl, ⟨nd, rfl⟩⟩))
    go_ret2
    exact ⟨ee_, bb_ HB⟩
  ·replace c7 := Bool.eq_false_iff.mpr c7
   subst c7
   have H1 : (some (0, false)) = some (r1, r2) := by rw [if_neg (show ¬ (false = true) by decide)] at H; exact H
   clear H
   have H := H1
   clear H1
   simp only [Option.some.injEq, Prod.mk.injEq] at H
   obtain ⟨rfl, rfl⟩ := H
   go_enter Try.func118, Try.ntmps118
   go_wp2_with (first | (refine goesL_ (some 9) rfl rfl Try.func63 (by kernel_rfl) rfl #[.slice A0 l0.length c0] rfl ll_ ?_; (with_reducible refine (spec_SystemIn.calls k _ _ l0 true _ ?side1 ?side2 A4.out).mono ?_); (case side1 => exact ss_ HR0); (case side2 => exact HC0.out); rintro e w15 ⟨rfl, hb⟩; refine ⟨_, rfl, ?_⟩; have n0_ := Aside0.mk (below_step (bb_ HB) hb); clear HB; have HB := n0_; clear n0_; (try clear hb); (try clear hb2); (try clear hk); (try clear hi)) | (go_at_call 83; (with_reducible refine (spec_l3In.calls a1 false _ A6.out).mono ?_); rintro e w' ⟨rfl, ⟨nd, rfl⟩⟩))
   go_ret2
   exact ⟨ee_, bb_ HB⟩
 ·replace c5 := Bool.eq_false_iff.mpr c5
  subst c5
  have H1 : (some (0, false)) = some (r1, r2) := by rw [if_neg (show ¬ (false = true) by decide)] at H; exact H
  clear H
  have H := H1
  clear H1
  simp only [Option.some.injEq, Prod.mk.injEq] at H
  obtain ⟨rfl, rfl⟩ := H
  go_enter Try.func118, Try.ntmps118
  go_wp2_with (first | (refine goesL_ (some 9) rfl rfl Try.func63 (by kernel_rfl) rfl #[.slice A0 l0.length c0] rfl ll_ ?_; (with_reducible refine (spec_SystemIn.calls k _ _ l0 false _ ?side1 ?side2 A4.out).mono ?_); (case side1 => exact ss_ HR0); (case side2 => exact HC0.out); rintro e w16 ⟨rfl, hb⟩; refine ⟨_, rfl, ?_⟩; have n0_ := Aside0.mk (below_step (bb_ HB) hb); clear HB; have HB := n0_; clear n0_; (try clear hb); (try clear hb2); (try clear hk); (try clear hi)))
  go_ret2
  exact ⟨ee_, bb_ HB⟩
end Go.Proofs.Ytcbkoecanldlpaa.P

namespace Go.Proofs.Ytcbkoecanldlpaa.P
open Go.RowKit Go.Proofs.YtcbkoecanldlpaaW.PrintWords Go.Proofs.YtcbkoecanldlpaaW.PrintLast
set_option linter.unusedVariables false
set_option linter.unusedSimpArgs false

def IsS76 (w0 W : World) (g : Nat) (f0 : List Int) (f1 : Int) : Prop := ∃ A0 c0, W.heap[g]? = some (.cells #[.slice A0 f0.length c0, .int .i64 f1] 76 (0, 0)) ∧ w0.heap.size ≤ g ∧ Kd.C (Kd.int .u8) w0 A0 f0.length f0
theorem IsS76.grown {w0 W : World} {g : Nat} {f0 : List Int} {f1 : Int} {W1 : World} {row : Option Nat} (h : IsS76 w0 W g f0 f1) (hw : W.grownBy W1 row) (hne : some g ≠ row) : IsS76 w0 W1 g f0 f1 := by
 obtain ⟨A0, c0, hb, hg, hr0⟩ := h
 exact ⟨A0, c0, blk_grown hb hw hne, hg, hr0⟩
theorem IsS76.below {w0 W : World} {g : Nat} {f0 : List Int} {f1 : Int} {W1 : World} (h : IsS76 w0 W g f0 f1) (hw : Below W.heap.size W W1) : IsS76 w0 W1 g f0 f1 := h.grown (grown_of_below hw none) (by simp)
theorem IsS76.alloc {w0 W : World} {g : Nat} {f0 : List Int} {f1 : Int} (h : IsS76 w0 W g f0 f1) (o : Obj) : IsS76 w0 (W.alloc o) g f0 f1 := h.below (below_alloc (Below.refl _ _) o)
theorem IsS76.drewN {w0 W : World} {g : Nat} {f0 : List Int} {f1 : Int} (h : IsS76 w0 W g f0 f1) (m : Nat) : IsS76 w0 (W.drewN m) g f0 f1 := h
theorem IsS76.drew {w0 W : World} {g : Nat} {f0 : List Int} {f1 : Int} (h : IsS76 w0 W g f0 f1) : IsS76 w0 W.drew g f0 f1 := h
theorem IsS76.apart {w0 W : World} {g : Nat} {f0 : List Int} {f1 : Int} {α : Type} {d : Kd α} {e : Nat} {base : Nat} {ok : Nat → Prop} {v : Value} {xs : List α} (h : IsS76 w0 W g f0 f1) (ho : d.R e W base ok v xs) (ht : ∀ q, q ∈ e :: d.E → q ≠ 76) : d.R e W base (fun k => ok k ∧ k ≠ g) v xs := by
 obtain ⟨A0, c0, hb, hg, hr0⟩ := h
 exact Kd.R_types ho hb ht
theorem IsS76.own_ne {w0 W : World} {g : Nat} {f0 : List Int} {f1 : Int} {α : Type} {d : Kd α} {e : Nat} {base : Nat} {ok : Nat → Prop} {v : Value} {xs : List α} (h : IsS76 w0 W g f0 f1) (ho : d.R e W base ok v xs) (ht : e ≠ 76) : some g ≠ v.ownBlock := by
 obtain ⟨A0, c0, hb, hg, hr0⟩ := h
 exact Kd.R_ne ho hb ht
theorem IsS76.lt {w0 W : World} {g : Nat} {f0 : List Int} {f1 : Int} (h : IsS76 w0 W g f0 f1) : g < W.heap.size := by
 obtain ⟨A0, c0, hb, hg, hr0⟩ := h
 exact blk_lt hb
theorem IsS76.ge {w0 W : World} {g : Nat} {f0 : List Int} {f1 : Int} (h : IsS76 w0 W g f0 f1) : w0.heap.size ≤ g := by
 obtain ⟨A0, c0, hb, hg, hr0⟩ := h
 exact hg
theorem cellS76_0 {W : World} {g : Nat} {A0 : Option Addr} {c0 : Nat} {f0 : List Int} {f1 : Int} (h : W.heap[g]? = some (.cells #[.slice A0 f0.length c0, .int .i64 f1] 76 (0, 0))) : W.cell? ⟨g, 0, none⟩ = some (.slice A0 f0.length c0) := (blk_cell h 0).trans rfl
theorem cellS76_1 {W : World} {g : Nat} {A0 : Option Addr} {c0 : Nat} {f0 : List Int} {f1 : Int} (h : W.heap[g]? = some (.cells #[.slice A0 f0.length c0, .int .i64 f1] 76 (0, 0))) : W.cell? ⟨g, 1, none⟩ = some (.int .i64 f1) := (blk_cell h 1).trans rfl
theorem IsS76.set_1 {w0 W : World} {g : Nat} {f0 : List Int} {f1 : Int} (h : IsS76 w0 W g f0 f1) (x : Int) : IsS76 w0 (W.setCell ⟨g, 1, none⟩ (.int .i64 x)) g f0 x := by
 obtain ⟨A0, c0, hb, hg, hr0⟩ := h
 exact ⟨A0, c0, by simpa using blk_set hb 1 (.int .i64 x), hg, hr0⟩
def spec_l6Open.f (l0 : List Int) : Option (List Int × Int) := if (l0.length : Int) > 2000 then (if 2000 ≤ (l0.length : Int) then (some (l0.take 2000, 0)) else (none)) else (some (l0, 0))
set_option maxHeartbeats 8000000 in
set_option maxRecDepth 100000 in
theorem spec_l6Open.calls (A0 : Option Addr) (c0 : Nat) (l0 : List Int) (r1 : List Int) (r2 : Int) (w0 w : World) (hB : Below w0.heap.size w0 w) (hr0 : Kd.C (Kd.int .u8) w0 A0 l0.length l0) (hc0 : l0.length ≤ c0) (h : spec_l6Open.f l0 = some (r1, r2)) :
  Calls Try.prog 76 #[.slice A0 l0.length c0] w fun e w' => ∃ g_ : Nat, e = .returned (.pointer (some ⟨g_, 0, none⟩)) ∧ IsS76 w0 w' g_ r1 r2 ∧ Below w0.heap.size w0 w' ∧ Below w.heap.size w w' := by
 have hu76 := Try.underlying76
 have HR0 := Aside0.mk hr0
 have HC0 := Aside0.mk hc0
 clear hr0 hc0
 have HBW := Aside0.mk (Below.refl w.heap.size w)
 have HW0 := Aside0.mk hB.size
 have HB := Aside0.mk hB
 clear hB
 have H : (if (l0.length : Int) > 2000 then (if 2000 ≤ (l0.length : Int) then (some (l0.take 2000, 0)) else (none)) else (some (l0, 0))) = some (r1, r2) := h
 clear h
 by_cases c2 : (l0.length : Int) > 2000
 ·rw [if_pos c2] at H
  have c2b0 : decide (2000 < (l0.length : Int)) = true := decide_eq_true c2
  have c2b1 : decide (2000 < l0.length) = true := decide_eq_true (by omega)
  clear c2
  by_cases c3 : 2000 ≤ (l0.length : Int)
  ·rw [if_pos c3] at H
   have c3b0 := eq_true c3
   have c3b1 : decide (2000 ≤ (l0.length : Int)) = true := decide_eq_true c3
   clear c3
   simp only [Option.some.injEq, Prod.mk.injEq] at H
   obtain ⟨rfl, rfl⟩ := H
   obtain ⟨i04, hi04, _, hsz4, _⟩ := info_parts info5
   obtain ⟨hcut4, hA4, hC4⟩ := print_take_of (P := Try.prog) (Value.int .u8) 0 22 5 .i64 Try.underlying22 hi04 hsz4 A0 c0 l0 2000 (by omega) (dd_) HC0.out
   have HR101 := Aside0.mk (Kd.C_of_reads (h1 := fun _ => rfl) (hA4 _ (Kd.reads_of_C HR0.out)))
   have HC101 := Aside0.mk hC4
   clear hA4 hC4 hi04 hsz4
   go_enter Try.func76, Try.ntmps76
   go_wp2_with (first | ((with_reducible refine gate_dst (N := 10) rfl ?_); refine box_event ?hg (N := 10) ?hd (cs := #[.slice A0 (l0.take 2000).length c0, .int .i64 0]) (t := 76) ?hr ?_; (case hd => rfl); (case hg => rfl); (case hr => first | (go_simp; done) | (go_simp; rfl)); intro gb102 hg w5 hbox hb; have n0_ := Aside0.mk (below_step HBW.out hb); have n1_ := Aside0.mk (below_step (bb_ HB) hb); have n2_ := Aside0.mk (hbox); have n3_ := Aside0.mk ((by rw [hg]; exact (below_size (by repeat (first | (with_reducible first | exact HBW.out | apply below_alloc | apply pw_below_drewN | apply below_drew1) | exact HBW.out))) : w.heap.size ≤ gb102)); have n4_ := Aside0.mk ((Nat.le_trans HW0.out (by rw [hg]; exact (below_size (by repeat (first | (with_reducible first | exact HBW.out | apply below_alloc | apply pw_below_drewN | apply below_drew1) | exact HBW.out))) : w.heap.size ≤ gb102) : w0.heap.size ≤ gb102)); clear HBW; clear HB; have HBW := n0_; have HB := n1_; have BK102 := n2_; have GW102 := n3_; have GE102 := n4_; clear n0_ n1_ n2_ n3_ n4_; clear hb hbox hg))
   go_ret
   exact ⟨_, rfl, (show IsS76 w0 _ gb102 (l0.take 2000) 0 from ⟨_, _, by (with_reducible repeat (first | refine blk_drewN ?_ _ | refine blk_drew ?_ | refine blk_alloc ?_ _)); exact BK102.out, GE102.out, HR101.out⟩), by repeat (first | (with_reducible first | exact HB.out | apply below_alloc | apply pw_below_drewN | apply below_drew1 | refine below_set ?_ GE102.out) | exact HB.out), by repeat (first | (with_reducible first | exact HBW.out | apply below_alloc | apply pw_below_drewN | apply below_drew1 | refine below_set ?_ GW102.out) | exact HBW.out)⟩
  ·rw [if_neg c3] at H
   exact absurd H (by simp)
 ·rw [if_neg c2] at H
  have c2b0 : decide (2000 < (l0.length : Int)) = false := decide_eq_false c2
  have c2b1 : decide (2000 < l0.length) = false := decide_eq_false (by omega)
  clear c2
  simp only [Option.some.injEq, Prod.mk.injEq] at H
  obtain ⟨rfl, rfl⟩ := H
  go_enter Try.func76, Try.ntmps76
  go_wp2_with (first | ((with_reducible refine gate_dst (N := 10) rfl ?_); refine box_event ?hg (N := 10) ?hd (cs := #[.slice A0 l0.length c0, .int .i64 0]) (t := 76) ?hr ?_; (case hd => rfl); (case hg => rfl); (case hr => first | (go_simp; done) | (go_simp; rfl)); intro gb103 hg w6 hbox hb; have n0_ := Aside0.mk (below_step HBW.out hb); have n1_ := Aside0.mk (below_step (bb_ HB) hb); have n2_ := Aside0.mk (hbox); have n3_ := Aside0.mk ((by rw [hg]; exact (below_size (by repeat (first | (with_reducible first | exact HBW.out | apply below_alloc | apply pw_below_drewN | apply below_drew1) | exact HBW.out))) : w.heap.size ≤ gb103)); have n4_ := Aside0.mk ((Nat.le_trans HW0.out (by rw [hg]; exact (below_size (by repeat (first | (with_reducible first | exact HBW.out | apply below_alloc | apply pw_below_drewN | apply below_drew1) | exact HBW.out))) : w.heap.size ≤ gb103) : w0.heap.size ≤ gb103)); clear HBW; clear HB; have HBW := n0_; have HB := n1_; have BK103 := n2_; have GW103 := n3_; have GE103 := n4_; clear n0_ n1_ n2_ n3_ n4_; clear hb hbox hg))
  go_ret
  exact ⟨_, rfl, (show IsS76 w0 _ gb103 l0 0 from ⟨_, _, by (with_reducible repeat (first | refine blk_drewN ?_ _ | refine blk_drew ?_ | refine blk_alloc ?_ _)); exact BK103.out, GE103.out, HR0.out⟩), by repeat (first | (with_reducible first | exact HB.out | apply below_alloc | apply pw_below_drewN | apply below_drew1 | refine below_set ?_ GE103.out) | exact HB.out), by repeat (first | (with_reducible first | exact HBW.out | apply below_alloc | apply pw_below_drewN | apply below_drew1 | refine below_set ?_ GW103.out) | exact HBW.out)⟩
end Go.Proofs.Ytcbkoecanldlpaa.P

namespace Go.Proofs.Ytcbkoecanldlpaa.P
open Go.RowKit Go.Proofs.YtcbkoecanldlpaaW.PrintWords Go.Proofs.YtcbkoecanldlpaaW.PrintLast
set_option linter.unusedVariables false
set_option linter.unusedSimpArgs false

def spec_l6Rd_pick.j0 : Nat → Int → Bool → List Int → Int → Option (Int × Int)
 | 0, _, _, _, _ => none
 | k + 1, x1, x24, x1000, x1001 => if x24 = true then (some (0, x1001)) else (if (wrap64 (x1001 - 1)) < (x1000.length : Int) then (if 0 ≤ (wrap64 (x1001 - 1)) then (if x1 = 0 then (none) else (some (Int.tmod (wrap64 (rd x1000 (wrap64 (x1001 - 1)))) x1, x1001))) else (none)) else (if (x1000.length : Int) = 0 then (none) else (if 0 ≤ (Int.tmod (wrap64 (x1001 - 1)) (x1000.length : Int)) then (if (Int.tmod (wrap64 (x1001 - 1)) (x1000.length : Int)) < (x1000.length : Int) then (if 0 ≤ (Int.tmod (wrap64 ((wrap64 ((wrap64 (x1001 - 1)) * 7)) + 3)) (x1000.length : Int)) then (if (Int.tmod (wrap64 ((wrap64 ((wrap64 (x1001 - 1)) * 7)) + 3)) (x1000.length : Int)) < (x1000.length : Int) then (if x1 = 0 then (none) else (some (Int.tmod (Go.bits .xor .i64 (wrap64 ((wrap64 ((wrap64 ((wrap64 ((wrap64 (rd x1000 (Int.tmod (wrap64 (x1001 - 1)) (x1000.length : Int)))) * 131)) + (wrap64 ((wrap64 (rd x1000 (Int.tmod (wrap64 ((wrap64 ((wrap64 (x1001 - 1)) * 7)) + 3)) (x1000.length : Int)))) * 1117)))) + (wrap64 ((wrap64 (x1001 - 1)) * 29)))) + (wrap64 ((wrap64 (Int.tdiv (wrap64 (x1001 - 1)) (x1000.length : Int))) * 53)))) (wrap64 (Int.tdiv (wrap64 ((wrap64 ((wrap64 ((wrap64 ((wrap64 (rd x1000 (Int.tmod (wrap64 (x1001 - 1)) (x1000.length : Int)))) * 131)) + (wrap64 ((wrap64 (rd x1000 (Int.tmod (wrap64 ((wrap64 ((wrap64 (x1001 - 1)) * 7)) + 3)) (x1000.length : Int)))) * 1117)))) + (wrap64 ((wrap64 (x1001 - 1)) * 29)))) + (wrap64 ((wrap64 (Int.tdiv (wrap64 (x1001 - 1)) (x1000.length : Int))) * 53)))) 64))) x1, x1001))) else (none)) else (none)) else (none)) else (none))))
def spec_l6Rd_pick.f (k : Nat) (s0_0 : List Int) (s0_1 : Int) (a1 : Int) : Option (Int × Int) := if a1 < 1 then (spec_l6Rd_pick.j0 k a1 true s0_0 (wrap64 (s0_1 + 1))) else (spec_l6Rd_pick.j0 k a1 ((s0_0.length : Int) == 0) s0_0 (wrap64 (s0_1 + 1)))
set_option maxHeartbeats 8000000 in
set_option maxRecDepth 100000 in
theorem spec_l6Rd_pick.calls (k : Nat) (g : Nat) (s0_0 : List Int) (s0_1 : Int) (a1 : Int) (r1 : Int) (r2 : Int) (w0 w : World) (hI : IsS76 w0 w g s0_0 s0_1) (hB : Below w0.heap.size w0 w) (h : spec_l6Rd_pick.f k s0_0 s0_1 a1 = some (r1, r2)) :
  Calls Try.prog 79 #[.pointer (some ⟨g, 0, none⟩), .int .i64 a1] w fun e w' => e = .returned (.int .i64 r1) ∧ IsS76 w0 w' g s0_0 r2 ∧ Below w0.heap.size w0 w' ∧ KeepBut w w' g none := by
 have HI0 := Aside0.mk hI
 have HK := Aside0.mk (KeepBut.refl w g none)
 have HL := Aside0.mk hB.size
 clear hI
 have HW0 := Aside0.mk hB.size
 have HB := Aside0.mk hB
 clear hB
 have H : (if a1 < 1 then (spec_l6Rd_pick.j0 k a1 true s0_0 (wrap64 (s0_1 + 1))) else (spec_l6Rd_pick.j0 k a1 ((s0_0.length : Int) == 0) s0_0 (wrap64 (s0_1 + 1)))) = some (r1, r2) := h
 clear h
 have HC3 := Aside0.mk H
 clear H
 obtain ⟨ASz4_0, cSz4_0, HGz4, hgz4, HSz4_0⟩ := HI0.out
 have hcz4_0 := cellS76_0 HGz4
 have hcz4_1 := cellS76_1 HGz4
 have hfz4_1 := blk_frozen HGz4 1
 clear HGz4 hgz4
 go_enter Try.func79, Try.ntmps79
 go_upto_region 2 with (fail)
 repeat (go_quiet (fail); go_upto_region 2 with (fail))
 go_cut [24] (fun v24 wc => ∃ (kq : Nat) (x24_2 : Bool), v24 = .bool x24_2 ∧ Aside0 (spec_l6Rd_pick.j0 kq a1 x24_2 s0_0 (wrap64 (s0_1 + 1)) = some (r1, r2)) ∧ Aside0 (kq ≤ k) ∧ Aside0 (IsS76 w0 wc g s0_0 (wrap64 (s0_1 + 1))) ∧ Aside0 (KeepBut w wc g none) ∧ Aside0 (Below w0.heap.size w0 wc))
 case first =>
  have H := HC3.out
  clear HC3
  by_cases c5 : a1 < 1
  ·rw [if_pos c5] at H
   have c5b0 : decide (a1 < 1) = true := decide_eq_true c5
   clear c5
   (first | rw [c5b0] | (simp only [i64_w, i32_w]; rw [c5b0]) | skip)
   have H' := Aside0.mk H
   clear H
   go_wp2
   repeat (go_quiet (fail); try go_wp2)
   go_meet
   case rel => exact ⟨_, (true), (by first | rfl | (simp; done) | (simp [*]; done)), H', ⟨by first | omega | exact Nat.le_refl _⟩, ⟨by repeat (first | (with_reducible first | exact HI0.out | apply IsS76.alloc | apply IsS76.drewN | apply IsS76.drew | apply IsS76.set_1) | exact HI0.out)⟩, ⟨by repeat (first | (with_reducible first | exact HK.out | apply KeepBut.set_ | apply keep_drewN | apply keep_drew | apply keep_alloc) | exact HK.out)⟩, ⟨by repeat (first | (with_reducible first | exact HB.out | apply below_alloc | apply pw_below_drewN | apply below_drew1 | refine below_set ?_ (IsS76.ge HI0.out)) | exact HB.out)⟩⟩
  ·rw [if_neg c5] at H
   have c5b0 : decide (a1 < 1) = false := decide_eq_false c5
   clear c5
   (first | rw [c5b0] | (simp only [i64_w, i32_w]; rw [c5b0]) | skip)
   have H' := Aside0.mk H
   clear H
   obtain ⟨ASz6_0, cSz6_0, HGz6, hgz6, HSz6_0⟩ := HI0.out
   have hcz6_0 := cellS76_0 HGz6
   have hcz6_1 := cellS76_1 HGz6
   have hfz6_1 := blk_frozen HGz6 1
   clear HGz6 hgz6
   go_wp2
   repeat (go_quiet (fail); try go_wp2)
   go_meet
   case rel => exact ⟨_, (((s0_0.length : Int) == 0)), (by first | rfl | (simp; done) | (simp [*]; done)), H', ⟨by first | omega | exact Nat.le_refl _⟩, ⟨by repeat (first | (with_reducible first | exact HI0.out | apply IsS76.alloc | apply IsS76.drewN | apply IsS76.drew | apply IsS76.set_1) | exact HI0.out)⟩, ⟨by repeat (first | (with_reducible first | exact HK.out | apply KeepBut.set_ | apply keep_drewN | apply keep_drew | apply keep_alloc) | exact HK.out)⟩, ⟨by repeat (first | (with_reducible first | exact HB.out | apply below_alloc | apply pw_below_drewN | apply below_drew1 | refine below_set ?_ (IsS76.ge HI0.out)) | exact HB.out)⟩⟩
 case rest =>
  clear HC3
  try clear p2
  try clear c5
  try clear c5b0
  try clear p6
  try clear hcz4_0
  try clear hcz4_1
  try clear hcz6_0
  try clear hcz6_1
  try clear hfz4_1
  try clear hfz6_1
  obtain ⟨kq, x24_2, rfl, HA, HJ2, HI0, HK, HB⟩ := hcut
  cases kq with
  | zero => exact absurd HA.out (by simp [spec_l6Rd_pick.j0])
  | succ kj2 =>
   have H := HA.out
   clear HA
   simp only [spec_l6Rd_pick.j0] at H
   by_cases c7 : x24_2 = true
   ·subst c7
    have H1 : (some (0, (wrap64 (s0_1 + 1)))) = some (r1, r2) := by rw [if_pos rfl] at H; exact H
    clear H
    have H := H1
    clear H1
    simp only [Option.some.injEq, Prod.mk.injEq] at H
    obtain ⟨rfl, rfl⟩ := H
    go_wp2
    repeat (go_quiet (fail); try go_wp2)
    go_ret
    exact ⟨ee_, by repeat (first | (with_reducible first | exact HI0.out | apply IsS76.alloc | apply IsS76.drewN | apply IsS76.drew | apply IsS76.set_1) | exact HI0.out), by repeat (first | (with_reducible first | exact HB.out | apply below_alloc | apply pw_below_drewN | apply below_drew1 | refine below_set ?_ (IsS76.ge HI0.out)) | exact HB.out), by repeat (first | (with_reducible first | exact HK.out | apply KeepBut.set_ | apply keep_drewN | apply keep_drew | apply keep_alloc) | exact HK.out)⟩
   ·replace c7 := Bool.eq_false_iff.mpr c7
    subst c7
    have H1 : (if (wrap64 ((wrap64 (s0_1 + 1)) - 1)) < (s0_0.length : Int) then (if 0 ≤ (wrap64 ((wrap64 (s0_1 + 1)) - 1)) then (if a1 = 0 then (none) else (some (Int.tmod (wrap64 (rd s0_0 (wrap64 ((wrap64 (s0_1 + 1)) - 1)))) a1, (wrap64 (s0_1 + 1))))) else (none)) else (if (s0_0.length : Int) = 0 then (none) else (if 0 ≤ (Int.tmod (wrap64 ((wrap64 (s0_1 + 1)) - 1)) (s0_0.length : Int)) then (if (Int.tmod (wrap64 ((wrap64 (s0_1 + 1)) - 1)) (s0_0.length : Int)) < (s0_0.length : Int) then (if 0 ≤ (Int.tmod (wrap64 ((wrap64 ((wrap64 ((wrap64 (s0_1 + 1)) - 1)) * 7)) + 3)) (s0_0.length : Int)) then (if (Int.tmod (wrap64 ((wrap64 ((wrap64 ((wrap64 (s0_1 + 1)) - 1)) * 7)) + 3)) (s0_0.length : Int)) < (s0_0.length : Int) then (if a1 = 0 then (none) else (some (Int.tmod (Go.bits .xor .i64 (wrap64 ((wrap64 ((wrap64 ((wrap64 ((wrap64 (rd s0_0 (Int.tmod (wrap64 ((wrap64 (s0_1 + 1)) - 1)) (s0_0.length : Int)))) * 131)) + (wrap64 ((wrap64 (rd s0_0 (Int.tmod (wrap64 ((wrap64 ((wrap64 ((wrap64 (s0_1 + 1)) - 1)) * 7)) + 3)) (s0_0.length : Int)))) * 1117)))) + (wrap64 ((wrap64 ((wrap64 (s0_1 + 1)) - 1)) * 29)))) + (wrap64 ((wrap64 (Int.tdiv (wrap64 ((wrap64 (s0_1 + 1)) - 1)) (s0_0.length : Int))) * 53)))) (wrap64 (Int.tdiv (wrap64 ((wrap64 ((wrap64 ((wrap64 ((wrap64 (rd s0_0 (Int.tmod (wrap64 ((wrap64 (s0_1 + 1)) - 1)) (s0_0.length : Int)))) * 131)) + (wrap64 ((wrap64 (rd s0_0 (Int.tmod (wrap64 ((wrap64 ((wrap64 ((wrap64 (s0_1 + 1)) - 1)) * 7)) + 3)) (s0_0.length : Int)))) * 1117)))) + (wrap64 ((wrap64 ((wrap64 (s0_1 + 1)) - 1)) * 29)))) + (wrap64 ((wrap64 (Int.tdiv (wrap64 ((wrap64 (s0_1 + 1)) - 1)) (s0_0.length : Int))) * 53)))) 64))) a1, (wrap64 (s0_1 + 1))))) else (none)) else (none)) else (none)) else (none)))) = some (r1, r2) := by rw [if_neg (show ¬ (false = true) by decide)] at H; exact H
    clear H
    have H := H1
    clear H1
    by_cases c8 : (wrap64 ((wrap64 (s0_1 + 1)) - 1)) < (s0_0.length : Int)
    ·rw [if_pos c8] at H
     have c8b0 : decide ((wrap64 ((wrap64 (s0_1 + 1)) - 1)) < (s0_0.length : Int)) = true := decide_eq_true c8
     clear c8
     obtain ⟨ji9, hji9⟩ : ∃ j_ : Int, (wrap64 ((wrap64 (s0_1 + 1)) - 1)) = j_ := ⟨_, rfl⟩
     replace H : (if 0 ≤ (ji9) then (if a1 = 0 then (none) else (some (Int.tmod (wrap64 (rd s0_0 (ji9))) a1, (wrap64 (s0_1 + 1))))) else (none)) = some (r1, r2) := by first | (rw [hji9] at H; exact H) | (simp only [hji9] at H ⊢; exact H)
     (try rw [hji9] at c8b0)
     have hji9w : (IntKind.i64.wrap ((wrap64 (s0_1 + 1)) - 1)) = ji9 := (i64_w _).trans hji9
     by_cases c10 : 0 ≤ (ji9)
     ·rw [if_pos c10] at H
      have c10b0 : decide (0 ≤ (ji9)) = true := decide_eq_true c10
      clear c10
      by_cases c11 : a1 = 0
      ·rw [if_pos c11] at H
       exact absurd H (by simp)
      ·rw [if_neg c11] at H
       have c11b0 : (a1 == 0) = false := beq_eq_false_iff_ne.mpr c11
       have c11b1 : (a1 != 0) = true := bne_iff_ne.mpr c11
       simp only [Option.some.injEq, Prod.mk.injEq] at H
       obtain ⟨rfl, rfl⟩ := H
       obtain ⟨ASz12_0, cSz12_0, HGz12, hgz12, HSz12_0⟩ := HI0.out
       have hcz12_0 := cellS76_0 HGz12
       have hcz12_1 := cellS76_1 HGz12
       have hfz12_1 := blk_frozen HGz12 1
       clear HGz12 hgz12
       have p104 : 0 ≤ ((ji9) : Int) := dd_
       have q104 : (ji9) < (s0_0.length : Int) := dd_
       obtain ⟨ad104, e104, hx104_0⟩ := Kd.at_int HSz12_0 (ji9) p104 q104
       cases e104
       replace hx104_0 := pw_cell_below HB.out hx104_0
       replace p104 := eq_true p104
       replace q104 := eq_true q104
       go_wp2
       repeat (go_quiet (fail); try go_wp2)
       go_ret
       exact ⟨by first | rfl | (simp [errW_none, errW_some] <;> rfl) | (simp only [← hji9]; first | rfl | (simp [errW_none, errW_some] <;> rfl)) | (simp [*, errW_none, errW_some] <;> rfl), by repeat (first | (with_reducible first | exact HI0.out | apply IsS76.alloc | apply IsS76.drewN | apply IsS76.drew | apply IsS76.set_1) | exact HI0.out), by repeat (first | (with_reducible first | exact HB.out | apply below_alloc | apply pw_below_drewN | apply below_drew1 | refine below_set ?_ (IsS76.ge HI0.out)) | exact HB.out), by repeat (first | (with_reducible first | exact HK.out | apply KeepBut.set_ | apply keep_drewN | apply keep_drew | apply keep_alloc) | exact HK.out)⟩
     ·rw [if_neg c10] at H
      exact absurd H (by simp)
    ·rw [if_neg c8] at H
     have c8b0 : decide ((wrap64 ((wrap64 (s0_1 + 1)) - 1)) < (s0_0.length : Int)) = false := decide_eq_false c8
     clear c8
     by_cases c13 : (s0_0.length : Int) = 0
     ·rw [if_pos c13] at H
      exact absurd H (by simp)
     ·rw [if_neg c13] at H
      have c13b0 : ((s0_0.length : Int) == 0) = false := beq_eq_false_iff_ne.mpr c13
      have c13b1 : ((s0_0.length : Int) != 0) = true := bne_iff_ne.mpr c13
      have c13b2 : ¬ (s0_0 = []) := fun h_ => c13 (by rw [h_]; rfl)
      obtain ⟨ji14, hji14⟩ : ∃ j_ : Int, (Int.tmod (wrap64 ((wrap64 (s0_1 + 1)) - 1)) (s0_0.length : Int)) = j_ := ⟨_, rfl⟩
      replace H : (if 0 ≤ (ji14) then (if (ji14) < (s0_0.length : Int) then (if 0 ≤ (Int.tmod (wrap64 ((wrap64 ((wrap64 ((wrap64 (s0_1 + 1)) - 1)) * 7)) + 3)) (s0_0.length : Int)) then (if (Int.tmod (wrap64 ((wrap64 ((wrap64 ((wrap64 (s0_1 + 1)) - 1)) * 7)) + 3)) (s0_0.length : Int)) < (s0_0.length : Int) then (if a1 = 0 then (none) else (some (Int.tmod (Go.bits .xor .i64 (wrap64 ((wrap64 ((wrap64 ((wrap64 ((wrap64 (rd s0_0 (ji14))) * 131)) + (wrap64 ((wrap64 (rd s0_0 (Int.tmod (wrap64 ((wrap64 ((wrap64 ((wrap64 (s0_1 + 1)) - 1)) * 7)) + 3)) (s0_0.length : Int)))) * 1117)))) + (wrap64 ((wrap64 ((wrap64 (s0_1 + 1)) - 1)) * 29)))) + (wrap64 ((wrap64 (Int.tdiv (wrap64 ((wrap64 (s0_1 + 1)) - 1)) (s0_0.length : Int))) * 53)))) (wrap64 (Int.tdiv (wrap64 ((wrap64 ((wrap64 ((wrap64 ((wrap64 (rd s0_0 (ji14))) * 131)) + (wrap64 ((wrap64 (rd s0_0 (Int.tmod (wrap64 ((wrap64 ((wrap64 ((wrap64 (s0_1 + 1)) - 1)) * 7)) + 3)) (s0_0.length : Int)))) * 1117)))) + (wrap64 ((wrap64 ((wrap64 (s0_1 + 1)) - 1)) * 29)))) + (wrap64 ((wrap64 (Int.tdiv (wrap64 ((wrap64 (s0_1 + 1)) - 1)) (s0_0.length : Int))) * 53)))) 64))) a1, (wrap64 (s0_1 + 1))))) else (none)) else (none)) else (none)) else (none)) = some (r1, r2) := by first | (rw [hji14] at H; exact H) | (simp only [hji14] at H ⊢; exact H)
      by_cases c15 : 0 ≤ (ji14)
      ·rw [if_pos c15] at H
       have c15b0 : decide (0 ≤ (ji14)) = true := decide_eq_true c15
       clear c15
       by_cases c16 : (ji14) < (s0_0.length : Int)
       ·rw [if_pos c16] at H
        have c16b0 : decide ((ji14) < (s0_0.length : Int)) = true := decide_eq_true c16
        clear c16
        obtain ⟨ji17, hji17⟩ : ∃ j_ : Int, (Int.tmod (wrap64 ((wrap64 ((wrap64 ((wrap64 (s0_1 + 1)) - 1)) * 7)) + 3)) (s0_0.length : Int)) = j_ := ⟨_, rfl⟩
        replace H : (if 0 ≤ (ji17) then (if (ji17) < (s0_0.length : Int) then (if a1 = 0 then (none) else (some (Int.tmod (Go.bits .xor .i64 (wrap64 ((wrap64 ((wrap64 ((wrap64 ((wrap64 (rd s0_0 (ji14))) * 131)) + (wrap64 ((wrap64 (rd s0_0 (ji17))) * 1117)))) + (wrap64 ((wrap64 ((wrap64 (s0_1 + 1)) - 1)) * 29)))) + (wrap64 ((wrap64 (Int.tdiv (wrap64 ((wrap64 (s0_1 + 1)) - 1)) (s0_0.length : Int))) * 53)))) (wrap64 (Int.tdiv (wrap64 ((wrap64 ((wrap64 ((wrap64 ((wrap64 (rd s0_0 (ji14))) * 131)) + (wrap64 ((wrap64 (rd s0_0 (ji17))) * 1117)))) + (wrap64 ((wrap64 ((wrap64 (s0_1 + 1)) - 1)) * 29)))) + (wrap64 ((wrap64 (Int.tdiv (wrap64 ((wrap64 (s0_1 + 1)) - 1)) (s0_0.length : Int))) * 53)))) 64))) a1, (wrap64 (s0_1 + 1))))) else (none)) else (none)) = some (r1, r2) := by first | (rw [hji17] at H; exact H) | (simp only [hji17] at H ⊢; exact H)
        by_cases c18 : 0 ≤ (ji17)
        ·rw [if_pos c18] at H
         have c18b0 : decide (0 ≤ (ji17)) = true := decide_eq_true c18
         clear c18
         by_cases c19 : (ji17) < (s0_0.length : Int)
         ·rw [if_pos c19] at H
          have c19b0 : decide ((ji17) < (s0_0.length : Int)) = true := decide_eq_true c19
          clear c19
          by_cases c20 : a1 = 0
          ·rw [if_pos c20] at H
           exact absurd H (by simp)
          ·rw [if_neg c20] at H
           have c20b0 : (a1 == 0) = false := beq_eq_false_iff_ne.mpr c20
           have c20b1 : (a1 != 0) = true := bne_iff_ne.mpr c20
           simp only [Option.some.injEq, Prod.mk.injEq] at H
           obtain ⟨rfl, rfl⟩ := H
           obtain ⟨ASz21_0, cSz21_0, HGz21, hgz21, HSz21_0⟩ := HI0.out
           have hcz21_0 := cellS76_0 HGz21
           have hcz21_1 := cellS76_1 HGz21
           have hfz21_1 := blk_frozen HGz21 1
           clear HGz21 hgz21
           have p105 : 0 ≤ ((ji14) : Int) := dd_
           have q105 : (ji14) < (s0_0.length : Int) := dd_
           obtain ⟨ad105, e105, hx105_0⟩ := Kd.at_int HSz21_0 (ji14) p105 q105
           cases e105
           replace hx105_0 := pw_cell_below HB.out hx105_0
           replace p105 := eq_true p105
           replace q105 := eq_true q105
           have p106 : 0 ≤ ((ji17) : Int) := dd_
           have q106 : (ji17) < (s0_0.length : Int) := dd_
           obtain ⟨ad106, e106, hx106_0⟩ := Kd.at_int HSz21_0 (ji17) p106 q106
           obtain rfl : ad105 = ad106 := (by injection e106)
           replace hx106_0 := pw_cell_below HB.out hx106_0
           replace p106 := eq_true p106
           replace q106 := eq_true q106
           go_wp2
           repeat (go_quiet (fail); try go_wp2)
           go_ret
           exact ⟨by first | rfl | (simp [errW_none, errW_some] <;> rfl) | (simp only [← hji14, ← hji17]; first | rfl | (simp [errW_none, errW_some] <;> rfl)) | (simp [*, errW_none, errW_some] <;> rfl), by repeat (first | (with_reducible first | exact HI0.out | apply IsS76.alloc | apply IsS76.drewN | apply IsS76.drew | apply IsS76.set_1) | exact HI0.out), by repeat (first | (with_reducible first | exact HB.out | apply below_alloc | apply pw_below_drewN | apply below_drew1 | refine below_set ?_ (IsS76.ge HI0.out)) | exact HB.out), by repeat (first | (with_reducible first | exact HK.out | apply KeepBut.set_ | apply keep_drewN | apply keep_drew | apply keep_alloc) | exact HK.out)⟩
         ·rw [if_neg c19] at H
          exact absurd H (by simp)
        ·rw [if_neg c18] at H
         exact absurd H (by simp)
       ·rw [if_neg c16] at H
        exact absurd H (by simp)
      ·rw [if_neg c15] at H
       exact absurd H (by simp)
end Go.Proofs.Ytcbkoecanldlpaa.P

namespace Go.Proofs.Ytcbkoecanldlpaa.P
open Go.RowKit Go.Proofs.YtcbkoecanldlpaaW.PrintWords Go.Proofs.YtcbkoecanldlpaaW.PrintLast
set_option linter.unusedVariables false
set_option linter.unusedSimpArgs false

def spec_l3Points.l0 : Nat → List Int → Int → List Int → Int → Option (List Int)
 | 0, _, _, _, _ => none
 | k + 1, x0, x1, x5, x6 => if x6 < 91 then ((spec_l3On.f x0 x6 x1).bind fun t188 => (if t188 = true then (if x5.length < 17592186044416 then (spec_l3Points.l0 k x0 x1 (x5 ++ [x6]) (wrap64 (x6 + 1))) else (none)) else (spec_l3Points.l0 k x0 x1 x5 (wrap64 (x6 + 1))))) else (some x5)
def spec_l3Points.f (k : Nat) (l0 : List Int) (a1 : Int) : Option (List Int) := spec_l3Points.l0 k l0 a1 (([] : List Int)) 0
set_option maxHeartbeats 8000000 in
set_option maxRecDepth 100000 in
theorem spec_l3Points.calls (k : Nat) (A0 : Option Addr) (c0 : Nat) (l0 : List Int) (a1 : Int) (r : List Int) (w : World) (hr0 : Kd.C (Kd.int .i64) w A0 l0.length l0) (hc0 : l0.length ≤ c0) (h : spec_l3Points.f k l0 a1 = some r) :
  Calls Try.prog 162 #[.slice A0 l0.length c0, .int .i64 a1] w fun e w' => ∃ v0_ : Value, e = .returned (v0_) ∧ Kd.R (Kd.int .i64) 3 w' w.heap.size (fun _ => True) v0_ r ∧ Below w.heap.size w w' := by
 have HR0 := Aside0.mk hr0
 have HC0 := Aside0.mk hc0
 clear hr0 hc0
 have HB := Aside0.mk (Below.refl w.heap.size w)
 have H : (spec_l3Points.l0 k l0 a1 (([] : List Int)) 0) = some r := h
 clear h
 obtain ⟨y185, hy185⟩ : ∃ y_ : List Int, y_ = (([] : List Int)) := ⟨_, rfl⟩
 replace H : (spec_l3Points.l0 k l0 a1 y185 0) = some r := by first | (rw [hy185]; with_reducible exact H) | (have H2_ := (Option.bind_some _ _).symm.trans H; rw [hy185]; with_reducible exact H2_) | (have H2_ := (Option.bind_some _ _).symm.trans H; with_reducible exact H2_) | with_reducible exact H | (rw [hy185]; exact H) | exact H
 have Ny185 := Aside0.mk hy185
 clear hy185
 have H' := Aside0.mk H
 clear H
 go_enter Try.func162, Try.ntmps162
 go_wp2_with (first | ((with_reducible refine gate_dst (N := 7) rfl ?_); refine Kd.R_lit (Kd.int .i64) _ 3 ?hg (N := 7) ?hd (xs := ([] : List Int)) (inner := []) (ok := fun _ => True) (okp := fun _ => True) ?hr ?hp (fun _ hk => hk) trivial (Below.refl _ _) (Nat.le_refl _) (by simp) ?_; (case hd => rfl); (case hg => rfl); (case hr => first | (go_simp; done) | (go_simp; rfl)); (case hp => exact (Reps.none _ _)); intro v186 w3 ho4 hb hg_ hnew_; clear hg_ hnew_; (first | rw [← Ny185.out] at ho4 | (simp only [Int.reduceToNat] at ho4; rw [← Ny185.out] at ho4)); have n0_ := Aside0.mk (Kd.R_lower ho4 (below_size (bb_ HB))); have n1_ := Aside0.mk (below_step (bb_ HB) hb); clear HB; have HO187 := n0_; have HB := n1_; clear n0_ n1_; clear hb ho4))
 go_loopg [5, 6] k (fun kq v5 v6 w' => ∃ (x5_1 : List Int) (x6_1 : Int), v6 = .int .i64 x6_1 ∧ Aside0 (spec_l3Points.l0 kq l0 a1 x5_1 x6_1 = some r) ∧ Aside0 (kq ≤ k) ∧ Aside0 (Kd.R (Kd.int .i64) 3 w' w.heap.size (fun _ => True) v5 x5_1) ∧ Aside0 (Below w.heap.size w w'))
 case atStart => exact ⟨(y185), (0), (by first | rfl | (simp; done) | (simp [*]; done)), H', ⟨Nat.le_refl _⟩, ⟨rr_ HO187⟩, ⟨by repeat (first | (with_reducible first | exact HB.out | apply below_alloc | apply pw_below_drewN | apply below_drew1) | exact HB.out)⟩⟩
 case round =>
  clear H'
  try clear c1
  try clear p2
  obtain ⟨x5_1, x6_1, rfl, HA, HK1, HO_5, HB⟩ := hrel
  cases gk with
  | zero => exact absurd HA.out (by simp [spec_l3Points.l0])
  | succ k1 =>
   have H := HA.out
   clear HA
   simp only [spec_l3Points.l0] at H
   by_cases c5 : x6_1 < 91
   ·rw [if_pos c5] at H
    have c5b0 : decide (x6_1 < 91) = true := decide_eq_true c5
    clear c5
    replace H := Option.bind_eq_some_iff.mp H
    obtain ⟨t188, A60, H⟩ := H
    replace H : (if t188 = true then (if x5_1.length < 17592186044416 then (spec_l3Points.l0 k1 l0 a1 (x5_1 ++ [x6_1]) (wrap64 (x6_1 + 1))) else (none)) else (spec_l3Points.l0 k1 l0 a1 x5_1 (wrap64 (x6_1 + 1)))) = some r := H
    have A6 := Aside0.mk A60
    clear A60
    by_cases c7 : t188 = true
    ·subst c7
     have H1 : (if x5_1.length < 17592186044416 then (spec_l3Points.l0 k1 l0 a1 (x5_1 ++ [x6_1]) (wrap64 (x6_1 + 1))) else (none)) = some r := by rw [if_pos rfl] at H; exact H
     clear H
     have H := H1
     clear H1
     by_cases c8 : x5_1.length < 17592186044416
     ·rw [if_pos c8] at H
      have LMc8 := Aside0.mk c8
      clear c8
      obtain ⟨y189, hy189⟩ : ∃ y_ : List Int, y_ = (x5_1 ++ [x6_1]) := ⟨_, rfl⟩
      replace H : (spec_l3Points.l0 k1 l0 a1 y189 (wrap64 (x6_1 + 1))) = some r := by first | (rw [hy189]; with_reducible exact H) | (have H2_ := (Option.bind_some _ _).symm.trans H; rw [hy189]; with_reducible exact H2_) | (have H2_ := (Option.bind_some _ _).symm.trans H; with_reducible exact H2_) | with_reducible exact H | (rw [hy189]; exact H) | exact H
      have Ny189 := Aside0.mk hy189
      clear hy189
      have H' := Aside0.mk H
      clear H
      go_wp2_with (first | (refine goesL_ (some 15) rfl rfl Try.func106 (by kernel_rfl) rfl #[.slice A0 l0.length c0, .int .i64 x6_1, .int .i64 a1] rfl ll_ ?_; (with_reducible refine (spec_l3On.calls _ _ l0 x6_1 a1 true _ ?side1 ?side2 A6.out).mono ?_); (case side1 => exact sb_ HR0 HB); (case side2 => exact HC0.out); rintro e w' ⟨rfl, ⟨nd, rfl⟩⟩; refine ⟨_, rfl, ?_⟩) | (at_builtin; refine Kd.R_append (Kd.int .i64) (w0 := w) w.heap.size rfl (.tmp 16) (.tmp 18) 23 3 (.int .i64 0) 8 rfl Try.underlying23 info3 rfl (by decide) (by omega) u5 x5_1 x6_1 [.int .i64 x6_1] (fun _ => True) (fun _ => False) rfl rfl ?aP (fun _ hk => hk.elim) ?aF ?aO ?aB ?aS ?aL ?_; (case aP => exact rfl); (case aB => exact (bb_ HB)); (case aF => exact (fun _ _ => trivial)); (case aO => exact (rr_ HO_5)); (case aS => exact (below_size (bb_ HB))); (case aL => have := LMc8.out; omega); intro v190 w9 ho hb hg hat; rw [← Ny189.out] at ho; have n0_ := Aside0.mk (hb); have n1_ := Aside0.mk (ho); clear HB; clear HO_5; have HB := n0_; have HO191 := n1_; clear n0_ n1_; clear ho hb hg hat))
      go_roundg k1
      case measure => have := HK1.out; omega
      case rel => exact ⟨(y189), (wrap64 (x6_1 + 1)), (by first | rfl | (simp; done) | (simp [*]; done)), H', ⟨by have := HK1.out; omega⟩, ⟨rr_ HO191⟩, ⟨by repeat (first | (with_reducible first | exact HB.out | apply below_alloc | apply pw_below_drewN | apply below_drew1) | exact HB.out)⟩⟩
     ·rw [if_neg c8] at H
      exact absurd H (by simp)
    ·replace c7 := Bool.eq_false_iff.mpr c7
     subst c7
     have H1 : (spec_l3Points.l0 k1 l0 a1 x5_1 (wrap64 (x6_1 + 1))) = some r := by rw [if_neg (show ¬ (false = true) by decide)] at H; exact H
     clear H
     have H := H1
     clear H1
     have H' := Aside0.mk H
     clear H
     go_wp2_with (first | (refine goesL_ (some 15) rfl rfl Try.func106 (by kernel_rfl) rfl #[.slice A0 l0.length c0, .int .i64 x6_1, .int .i64 a1] rfl ll_ ?_; (with_reducible refine (spec_l3On.calls _ _ l0 x6_1 a1 false _ ?side1 ?side2 A6.out).mono ?_); (case side1 => exact sb_ HR0 HB); (case side2 => exact HC0.out); rintro e w' ⟨rfl, ⟨nd, rfl⟩⟩; refine ⟨_, rfl, ?_⟩))
     go_roundg k1
     case measure => have := HK1.out; omega
     case rel => exact ⟨(x5_1), (wrap64 (x6_1 + 1)), (by first | rfl | (simp; done) | (simp [*]; done)), H', ⟨by have := HK1.out; omega⟩, ⟨rr_ HO_5⟩, ⟨by repeat (first | (with_reducible first | exact HB.out | apply below_alloc | apply pw_below_drewN | apply below_drew1) | exact HB.out)⟩⟩
   ·rw [if_neg c5] at H
    have c5b0 : decide (x6_1 < 91) = false := decide_eq_false c5
    clear c5
    obtain rfl := Option.some.inj H
    go_wp2
    go_ret
    exact ⟨_, ee_, by (with_reducible repeat (first | apply Kd.R_alloc | apply Kd.R_drewN | apply Kd.R_drew)); exact HO_5.out, bb_ HB⟩
end Go.Proofs.Ytcbkoecanldlpaa.P

namespace Go.Proofs.Ytcbkoecanldlpaa.P
open Go.RowKit Go.Proofs.YtcbkoecanldlpaaW.PrintWords Go.Proofs.YtcbkoecanldlpaaW.PrintLast
set_option linter.unusedVariables false
set_option linter.unusedSimpArgs false

def spec_l91On.f (k : Nat) (s0_0 : List Int) (s0_1 : Int) (l1 : List Int) (a2 : Int) : Option (Int × Int) := (spec_l3Points.f k l1 a2).bind fun t192 => (if (t192.length : Int) = 0 then (some (0, s0_1)) else ((spec_l6Rd_pick.f k s0_0 s0_1 (t192.length : Int)).bind fun bt195 => (if 0 ≤ bt195.1 then (if bt195.1 < (t192.length : Int) then (some (rd t192 bt195.1, bt195.2)) else (none)) else (none))))
set_option maxHeartbeats 8000000 in
set_option maxRecDepth 100000 in
theorem spec_l91On.calls (k : Nat) (g : Nat) (s0_0 : List Int) (s0_1 : Int) (A1 : Option Addr) (c1 : Nat) (l1 : List Int) (a2 : Int) (r1 : Int) (r2 : Int) (w0 w : World) (hI : IsS76 w0 w g s0_0 s0_1) (hB : Below w0.heap.size w0 w) (hr1 : Kd.C (Kd.int .i64) w A1 l1.length l1) (hc1 : l1.length ≤ c1) (hf1 : ∀ ad, A1 = some ad → 0 < l1.length → ad.block ≠ g) (h : spec_l91On.f k s0_0 s0_1 l1 a2 = some (r1, r2)) :
  Calls Try.prog 119 #[.pointer (some ⟨g, 0, none⟩), .slice A1 l1.length c1, .int .i64 a2] w fun e w' => e = .returned (.int .i64 r1) ∧ IsS76 w0 w' g s0_0 r2 ∧ Below w0.heap.size w0 w' ∧ KeepBut w w' g none := by
 have HR1 := Aside0.mk hr1
 have HC1 := Aside0.mk hc1
 clear hr1 hc1
 have HI0 := Aside0.mk hI
 have HK := Aside0.mk (KeepBut.refl w g none)
 have HL := Aside0.mk hB.size
 clear hI
 have HW0 := Aside0.mk hB.size
 have HB := Aside0.mk hB
 clear hB
 have H : ((spec_l3Points.f k l1 a2).bind fun t192 => (if (t192.length : Int) = 0 then (some (0, s0_1)) else ((spec_l6Rd_pick.f k s0_0 s0_1 (t192.length : Int)).bind fun bt195 => (if 0 ≤ bt195.1 then (if bt195.1 < (t192.length : Int) then (some (rd t192 bt195.1, bt195.2)) else (none)) else (none))))) = some (r1, r2) := h
 clear h
 replace H := Option.bind_eq_some_iff.mp H
 obtain ⟨t192, A40, H⟩ := H
 replace H : (if (t192.length : Int) = 0 then (some (0, s0_1)) else ((spec_l6Rd_pick.f k s0_0 s0_1 (t192.length : Int)).bind fun bt195 => (if 0 ≤ bt195.1 then (if bt195.1 < (t192.length : Int) then (some (rd t192 bt195.1, bt195.2)) else (none)) else (none)))) = some (r1, r2) := H
 have A4 := Aside0.mk A40
 clear A40
 by_cases c5 : (t192.length : Int) = 0
 ·rw [if_pos c5] at H
  have c5b0 : ((t192.length : Int) == 0) = true := beq_iff_eq.mpr c5
  have c5b1 : ((t192.length : Int) != 0) = false := bne_eq_false_iff_eq.mpr c5
  clear c5
  simp only [Option.some.injEq, Prod.mk.injEq] at H
  obtain ⟨rfl, rfl⟩ := H
  go_enter Try.func119, Try.ntmps119
  go_wp2_with (first | (refine goesL_ (some 10) rfl rfl Try.func162 (by kernel_rfl) rfl #[.slice A1 l1.length c1, .int .i64 a2] rfl ll_ ?_; (with_reducible refine (spec_l3Points.calls k _ _ l1 a2 t192 _ ?side1 ?side2 A4.out).mono ?_); (case side1 => exact Kd.C_keep 0 HR1.out (by repeat (first | (with_reducible first | exact HK.out | apply KeepBut.set_ | apply keep_drewN | apply keep_drew | apply keep_alloc) | exact HK.out)) hf1); (case side2 => exact HC1.out); rintro e w6 ⟨v193, rfl, ho0, hb⟩; refine ⟨_, rfl, ?_⟩; have n0_ := Aside0.mk (Kd.R_lower ho0 (keep_size (w := w) (g := g) (row := none) (by repeat (first | (with_reducible first | exact HK.out | apply KeepBut.set_ | apply keep_drewN | apply keep_drew | apply keep_alloc) | exact HK.out)))); have n1_ := Aside0.mk (IsS76.below (by repeat (first | (with_reducible first | exact HI0.out | apply IsS76.alloc | apply IsS76.drewN | apply IsS76.drew | apply IsS76.set_1) | exact HI0.out)) hb); have n2_ := Aside0.mk (KeepBut.trans (by repeat (first | (with_reducible first | exact HK.out | apply KeepBut.set_ | apply keep_drewN | apply keep_drew | apply keep_alloc) | exact HK.out)) (KeepBut.of_below hb g none) (.inl rfl)); have n3_ := Aside0.mk (below_step (by repeat (first | (with_reducible first | exact HB.out | apply below_alloc | apply pw_below_drewN | apply below_drew1 | refine below_set ?_ (IsS76.ge HI0.out)) | exact HB.out)) hb); clear HI0; clear HK; clear HB; have HO194 := n0_; have HI0 := n1_; have HK := n2_; have HB := n3_; clear n0_ n1_ n2_ n3_; (try clear hb); (try clear hb2); (try clear hk); (try clear hi); (try clear ho0); obtain ⟨Ao7, co7, eo7⟩ := Kd.R_slice HO194.out; subst eo7))
  go_ret
  exact ⟨ee_, by repeat (first | (with_reducible first | exact HI0.out | apply IsS76.alloc | apply IsS76.drewN | apply IsS76.drew | apply IsS76.set_1) | exact HI0.out), by repeat (first | (with_reducible first | exact HB.out | apply below_alloc | apply pw_below_drewN | apply below_drew1 | refine below_set ?_ (IsS76.ge HI0.out)) | exact HB.out), by repeat (first | (with_reducible first | exact HK.out | apply KeepBut.set_ | apply keep_drewN | apply keep_drew | apply keep_alloc) | exact HK.out)⟩
 ·rw [if_neg c5] at H
  have c5b0 : ((t192.length : Int) == 0) = false := beq_eq_false_iff_ne.mpr c5
  have c5b1 : ((t192.length : Int) != 0) = true := bne_iff_ne.mpr c5
  have c5b2 : ¬ (t192 = []) := fun h_ => c5 (by rw [h_]; rfl)
  replace H := Option.bind_eq_some_iff.mp H
  obtain ⟨⟨t195, t196⟩, A80, H⟩ := H
  replace H : (if 0 ≤ t195 then (if t195 < (t192.length : Int) then (some (rd t192 t195, t196)) else (none)) else (none)) = some (r1, r2) := H
  have A8 := Aside0.mk A80
  clear A80
  by_cases c9 : 0 ≤ t195
  ·rw [if_pos c9] at H
   have c9b0 : decide (0 ≤ t195) = true := decide_eq_true c9
   clear c9
   by_cases c10 : t195 < (t192.length : Int)
   ·rw [if_pos c10] at H
    have c10b0 : decide (t195 < (t192.length : Int)) = true := decide_eq_true c10
    clear c10
    simp only [Option.some.injEq, Prod.mk.injEq] at H
    obtain ⟨rfl, rfl⟩ := H
    go_enter Try.func119, Try.ntmps119
    go_wp2_with (first | (refine goesL_ (some 10) rfl rfl Try.func162 (by kernel_rfl) rfl #[.slice A1 l1.length c1, .int .i64 a2] rfl ll_ ?_; (with_reducible refine (spec_l3Points.calls k _ _ l1 a2 t192 _ ?side1 ?side2 A4.out).mono ?_); (case side1 => exact Kd.C_keep 0 HR1.out (by repeat (first | (with_reducible first | exact HK.out | apply KeepBut.set_ | apply keep_drewN | apply keep_drew | apply keep_alloc) | exact HK.out)) hf1); (case side2 => exact HC1.out); rintro e w11 ⟨v193, rfl, ho0, hb⟩; refine ⟨_, rfl, ?_⟩; have n0_ := Aside0.mk (Kd.R_lower ho0 (keep_size (w := w) (g := g) (row := none) (by repeat (first | (with_reducible first | exact HK.out | apply KeepBut.set_ | apply keep_drewN | apply keep_drew | apply keep_alloc) | exact HK.out)))); have n1_ := Aside0.mk (IsS76.below (by repeat (first | (with_reducible first | exact HI0.out | apply IsS76.alloc | apply IsS76.drewN | apply IsS76.drew | apply IsS76.set_1) | exact HI0.out)) hb); have n2_ := Aside0.mk (KeepBut.trans (by repeat (first | (with_reducible first | exact HK.out | apply KeepBut.set_ | apply keep_drewN | apply keep_drew | apply keep_alloc) | exact HK.out)) (KeepBut.of_below hb g none) (.inl rfl)); have n3_ := Aside0.mk (below_step (by repeat (first | (with_reducible first | exact HB.out | apply below_alloc | apply pw_below_drewN | apply below_drew1 | refine below_set ?_ (IsS76.ge HI0.out)) | exact HB.out)) hb); clear HI0; clear HK; clear HB; have HO194 := n0_; have HI0 := n1_; have HK := n2_; have HB := n3_; clear n0_ n1_ n2_ n3_; (try clear hb); (try clear hb2); (try clear hk); (try clear hi); (try clear ho0); obtain ⟨Ao12, co12, eo12⟩ := Kd.R_slice HO194.out; subst eo12) | (refine goesL_ (some 18) rfl rfl Try.func79 (by kernel_rfl) rfl #[.pointer (some ⟨g, 0, none⟩), .int .i64 (t192.length : Int)] rfl ll_ ?_; (with_reducible refine (spec_l6Rd_pick.calls k g s0_0 s0_1 (t192.length : Int) t195 t196 w0 _ ?side1 ?side2 A8.out).mono ?_); (case side1 => repeat (first | (with_reducible first | exact HI0.out | apply IsS76.alloc | apply IsS76.drewN | apply IsS76.drew | apply IsS76.set_1) | exact HI0.out)); (case side2 => repeat (first | (with_reducible first | exact HB.out | apply below_alloc | apply pw_below_drewN | apply below_drew1 | refine below_set ?_ (IsS76.ge HI0.out)) | exact HB.out)); rintro e w13 ⟨rfl, hi, hb, hk⟩; refine ⟨_, rfl, ?_⟩; have n0_ := Aside0.mk (Kd.R_mono (Kd.R_keep (IsS76.apart (show IsS76 w0 _ g s0_0 s0_1 from by repeat (first | (with_reducible first | exact HI0.out | apply IsS76.alloc | apply IsS76.drewN | apply IsS76.drew | apply IsS76.set_1) | exact HI0.out)) (rr_ HO194) (by decide)) hk (fun _ h => h.2)) (fun _ h => h.1)); have n1_ := Aside0.mk (KeepBut.trans (by repeat (first | (with_reducible first | exact HK.out | apply KeepBut.set_ | apply keep_drewN | apply keep_drew | apply keep_alloc) | exact HK.out)) hk (.inl rfl)); have n2_ := Aside0.mk (hb); have n3_ := Aside0.mk (hi); clear HO194; clear HK; clear HB; clear HI0; have HO194 := n0_; have HK := n1_; have HB := n2_; have HI0 := n3_; clear n0_ n1_ n2_ n3_; (try clear hb); (try clear hb2); (try clear hk); (try clear hi); have p197 : 0 ≤ (t195 : Int) := dd_; have q197 : t195 < (t192.length : Int) := dd_; obtain ⟨ad197, e197, hx197_0⟩ := Kd.at_int (Kd.R_reads' HO194.out).2.2 t195 p197 q197; cases e197; replace p197 := eq_true p197; replace q197 := eq_true q197))
    go_ret
    exact ⟨ee_, by repeat (first | (with_reducible first | exact HI0.out | apply IsS76.alloc | apply IsS76.drewN | apply IsS76.drew | apply IsS76.set_1) | exact HI0.out), by repeat (first | (with_reducible first | exact HB.out | apply below_alloc | apply pw_below_drewN | apply below_drew1 | refine below_set ?_ (IsS76.ge HI0.out)) | exact HB.out), by repeat (first | (with_reducible first | exact HK.out | apply KeepBut.set_ | apply keep_drewN | apply keep_drew | apply keep_alloc) | exact HK.out)⟩
   ·rw [if_neg c10] at H
    exact absurd H (by simp)
  ·rw [if_neg c9] at H
   exact absurd H (by simp)
end Go.Proofs.Ytcbkoecanldlpaa.P

namespace Go.Proofs.Ytcbkoecanldlpaa.P
open Go.RowKit Go.Proofs.YtcbkoecanldlpaaW.PrintWords Go.Proofs.YtcbkoecanldlpaaW.PrintLast
set_option linter.unusedVariables false
set_option linter.unusedSimpArgs false

def spec_l91Point.f (k : Nat) (s0_0 : List Int) (s0_1 : Int) : Option (Int × Int) := (spec_l6Rd_pick.f k s0_0 s0_1 30).bind fun bt143 => (if bt143.1 = 0 then ((some (([(-1), 91] : List Int) : List Int)).bind fun y145 => ((spec_l6Rd_pick.f k s0_0 bt143.2 2).bind fun bt148 => (if 0 ≤ bt148.1 then (if bt148.1 < (y145.length : Int) then (some (rd y145 bt148.1, bt148.2)) else (none)) else (none)))) else ((spec_l6Rd_pick.f k s0_0 bt143.2 4).bind fun bt151 => (if bt151.1 = 0 then ((spec_l6Rd_pick.f k s0_0 bt151.2 10).bind fun bt153 => (some (wrap64 (81 + bt153.1), bt153.2))) else ((spec_l6Rd_pick.f k s0_0 bt151.2 81).bind fun bt155 => (some (bt155.1, bt155.2))))))
set_option maxHeartbeats 8000000 in
set_option maxRecDepth 100000 in
theorem spec_l91Point.calls (k : Nat) (g : Nat) (s0_0 : List Int) (s0_1 : Int) (r1 : Int) (r2 : Int) (w0 w : World) (hI : IsS76 w0 w g s0_0 s0_1) (hB : Below w0.heap.size w0 w) (h : spec_l91Point.f k s0_0 s0_1 = some (r1, r2)) :
  Calls Try.prog 137 #[.pointer (some ⟨g, 0, none⟩)] w fun e w' => e = .returned (.int .i64 r1) ∧ IsS76 w0 w' g s0_0 r2 ∧ Below w0.heap.size w0 w' ∧ KeepBut w w' g none := by
 have HI0 := Aside0.mk hI
 have HK := Aside0.mk (KeepBut.refl w g none)
 have HL := Aside0.mk hB.size
 clear hI
 have HW0 := Aside0.mk hB.size
 have HB := Aside0.mk hB
 clear hB
 have H : ((spec_l6Rd_pick.f k s0_0 s0_1 30).bind fun bt143 => (if bt143.1 = 0 then ((some (([(-1), 91] : List Int) : List Int)).bind fun y145 => ((spec_l6Rd_pick.f k s0_0 bt143.2 2).bind fun bt148 => (if 0 ≤ bt148.1 then (if bt148.1 < (y145.length : Int) then (some (rd y145 bt148.1, bt148.2)) else (none)) else (none)))) else ((spec_l6Rd_pick.f k s0_0 bt143.2 4).bind fun bt151 => (if bt151.1 = 0 then ((spec_l6Rd_pick.f k s0_0 bt151.2 10).bind fun bt153 => (some (wrap64 (81 + bt153.1), bt153.2))) else ((spec_l6Rd_pick.f k s0_0 bt151.2 81).bind fun bt155 => (some (bt155.1, bt155.2))))))) = some (r1, r2) := h
 clear h
 replace H := Option.bind_eq_some_iff.mp H
 obtain ⟨⟨t143, t144⟩, A20, H⟩ := H
 replace H : (if t143 = 0 then ((some (([(-1), 91] : List Int) : List Int)).bind fun y145 => ((spec_l6Rd_pick.f k s0_0 t144 2).bind fun bt148 => (if 0 ≤ bt148.1 then (if bt148.1 < (y145.length : Int) then (some (rd y145 bt148.1, bt148.2)) else (none)) else (none)))) else ((spec_l6Rd_pick.f k s0_0 t144 4).bind fun bt151 => (if bt151.1 = 0 then ((spec_l6Rd_pick.f k s0_0 bt151.2 10).bind fun bt153 => (some (wrap64 (81 + bt153.1), bt153.2))) else ((spec_l6Rd_pick.f k s0_0 bt151.2 81).bind fun bt155 => (some (bt155.1, bt155.2)))))) = some (r1, r2) := H
 have A2 := Aside0.mk A20
 clear A20
 by_cases c3 : t143 = 0
 ·rw [if_pos c3] at H
  have c3b0 : (t143 == 0) = true := beq_iff_eq.mpr c3
  have c3b1 : (t143 != 0) = false := bne_eq_false_iff_eq.mpr c3
  clear c3
  obtain ⟨y145, hy145⟩ : ∃ y_ : List Int, y_ = (([(-1), 91] : List Int)) := ⟨_, rfl⟩
  replace H : ((spec_l6Rd_pick.f k s0_0 t144 2).bind fun bt148 => (if 0 ≤ bt148.1 then (if bt148.1 < (y145.length : Int) then (some (rd y145 bt148.1, bt148.2)) else (none)) else (none))) = some (r1, r2) := by first | (rw [hy145]; with_reducible exact H) | (have H2_ := (Option.bind_some _ _).symm.trans H; rw [hy145]; with_reducible exact H2_) | (have H2_ := (Option.bind_some _ _).symm.trans H; with_reducible exact H2_) | with_reducible exact H | (rw [hy145]; exact H) | exact H
  have Ny145 := Aside0.mk hy145
  clear hy145
  replace H := Option.bind_eq_some_iff.mp H
  obtain ⟨⟨t148, t149⟩, A40, H⟩ := H
  replace H : (if 0 ≤ t148 then (if t148 < (y145.length : Int) then (some (rd y145 t148, t149)) else (none)) else (none)) = some (r1, r2) := H
  have A4 := Aside0.mk A40
  clear A40
  by_cases c5 : 0 ≤ t148
  ·rw [if_pos c5] at H
   have c5b0 : decide (0 ≤ t148) = true := decide_eq_true c5
   clear c5
   by_cases c6 : t148 < (y145.length : Int)
   ·rw [if_pos c6] at H
    have c6b0 : decide (t148 < (y145.length : Int)) = true := decide_eq_true c6
    clear c6
    simp only [Option.some.injEq, Prod.mk.injEq] at H
    obtain ⟨rfl, rfl⟩ := H
    go_enter Try.func137, Try.ntmps137
    go_wp2_with (first | (refine goesL_ (some 4) rfl rfl Try.func79 (by kernel_rfl) rfl #[.pointer (some ⟨g, 0, none⟩), .int .i64 30] rfl ll_ ?_; (with_reducible refine (spec_l6Rd_pick.calls k g s0_0 s0_1 30 t143 t144 w0 _ ?side1 ?side2 A2.out).mono ?_); (case side1 => repeat (first | (with_reducible first | exact HI0.out | apply IsS76.alloc | apply IsS76.drewN | apply IsS76.drew | apply IsS76.set_1) | exact HI0.out)); (case side2 => repeat (first | (with_reducible first | exact HB.out | apply below_alloc | apply pw_below_drewN | apply below_drew1 | refine below_set ?_ (IsS76.ge HI0.out)) | exact HB.out)); rintro e w7 ⟨rfl, hi, hb, hk⟩; refine ⟨_, rfl, ?_⟩; have n0_ := Aside0.mk (KeepBut.trans (by repeat (first | (with_reducible first | exact HK.out | apply KeepBut.set_ | apply keep_drewN | apply keep_drew | apply keep_alloc) | exact HK.out)) hk (.inl rfl)); have n1_ := Aside0.mk (hb); have n2_ := Aside0.mk (hi); clear HK; clear HB; clear HI0; have HK := n0_; have HB := n1_; have HI0 := n2_; clear n0_ n1_ n2_; (try clear hb); (try clear hb2); (try clear hk); (try clear hi)) | ((with_reducible refine gate_dst (N := 6) rfl ?_); refine Kd.R_lit (Kd.int .i64) _ 3 ?hg (N := 6) ?hd (xs := ([(-1), 91] : List Int)) (inner := [.int .i64 (-1), .int .i64 91]) (ok := fun _ => True) (okp := fun _ => True) ?hr ?hp (fun _ hk => hk) trivial (Below.refl _ _) (Nat.le_refl _) (by simp) ?_; (case hd => rfl); (case hg => rfl); (case hr => first | (go_simp; done) | (go_simp; rfl)); (case hp => exact (Reps.one (show Kd.M (Kd.int .i64) _ _ _ (-1) [.int .i64 (-1)] from rfl) (Reps.one (show Kd.M (Kd.int .i64) _ _ _ 91 [.int .i64 91] from rfl) (Reps.none _ _)))); intro v146 w8 ho9 hb hg_ hnew_; clear hg_ hnew_; (first | rw [← Ny145.out] at ho9 | (simp only [Int.reduceToNat] at ho9; rw [← Ny145.out] at ho9)); have n0_ := Aside0.mk (Kd.R_lower ho9 (keep_size (w := w) (g := g) (row := none) (by repeat (first | (with_reducible first | exact HK.out | apply KeepBut.set_ | apply keep_drewN | apply keep_drew | apply keep_alloc) | exact HK.out)))); have n1_ := Aside0.mk (IsS76.below (by repeat (first | (with_reducible first | exact HI0.out | apply IsS76.alloc | apply IsS76.drewN | apply IsS76.drew | apply IsS76.set_1) | exact HI0.out)) hb); have n2_ := Aside0.mk (KeepBut.trans (by repeat (first | (with_reducible first | exact HK.out | apply KeepBut.set_ | apply keep_drewN | apply keep_drew | apply keep_alloc) | exact HK.out)) (KeepBut.of_below hb g none) (.inl rfl)); have n3_ := Aside0.mk (below_step (by repeat (first | (with_reducible first | exact HB.out | apply below_alloc | apply pw_below_drewN | apply below_drew1 | refine below_set ?_ (IsS76.ge HI0.out)) | exact HB.out)) hb); clear HI0; clear HK; clear HB; have HO147 := n0_; have HI0 := n1_; have HK := n2_; have HB := n3_; clear n0_ n1_ n2_ n3_; clear hb ho9) | (refine goesL_ (some 8) rfl rfl Try.func79 (by kernel_rfl) rfl #[.pointer (some ⟨g, 0, none⟩), .int .i64 2] rfl ll_ ?_; (with_reducible refine (spec_l6Rd_pick.calls k g s0_0 t144 2 t148 t149 w0 _ ?side1 ?side2 A4.out).mono ?_); (case side1 => repeat (first | (with_reducible first | exact HI0.out | apply IsS76.alloc | apply IsS76.drewN | apply IsS76.drew | apply IsS76.set_1) | exact HI0.out)); (case side2 => repeat (first | (with_reducible first | exact HB.out | apply below_alloc | apply pw_below_drewN | apply below_drew1 | refine below_set ?_ (IsS76.ge HI0.out)) | exact HB.out)); rintro e w10 ⟨rfl, hi, hb, hk⟩; refine ⟨_, rfl, ?_⟩; have n0_ := Aside0.mk (Kd.R_mono (Kd.R_keep (IsS76.apart (show IsS76 w0 _ g s0_0 t144 from by repeat (first | (with_reducible first | exact HI0.out | apply IsS76.alloc | apply IsS76.drewN | apply IsS76.drew | apply IsS76.set_1) | exact HI0.out)) (rr_ HO147) (by decide)) hk (fun _ h => h.2)) (fun _ h => h.1)); have n1_ := Aside0.mk (KeepBut.trans (by repeat (first | (with_reducible first | exact HK.out | apply KeepBut.set_ | apply keep_drewN | apply keep_drew | apply keep_alloc) | exact HK.out)) hk (.inl rfl)); have n2_ := Aside0.mk (hb); have n3_ := Aside0.mk (hi); clear HO147; clear HK; clear HB; clear HI0; have HO147 := n0_; have HK := n1_; have HB := n2_; have HI0 := n3_; clear n0_ n1_ n2_ n3_; (try clear hb); (try clear hb2); (try clear hk); (try clear hi); obtain ⟨Ao11, co11, eo11⟩ := Kd.R_slice HO147.out; subst eo11; have p150 : 0 ≤ (t148 : Int) := dd_; have q150 : t148 < (y145.length : Int) := dd_; obtain ⟨ad150, e150, hx150_0⟩ := Kd.at_int (Kd.R_reads' HO147.out).2.2 t148 p150 q150; cases e150; replace p150 := eq_true p150; replace q150 := eq_true q150))
    go_ret
    exact ⟨ee_, by repeat (first | (with_reducible first | exact HI0.out | apply IsS76.alloc | apply IsS76.drewN | apply IsS76.drew | apply IsS76.set_1) | exact HI0.out), by repeat (first | (with_reducible first | exact HB.out | apply below_alloc | apply pw_below_drewN | apply below_drew1 | refine below_set ?_ (IsS76.ge HI0.out)) | exact HB.out), by repeat (first | (with_reducible first | exact HK.out | apply KeepBut.set_ | apply keep_drewN | apply keep_drew | apply keep_alloc) | exact HK.out)⟩
   ·rw [if_neg c6] at H
    exact absurd H (by simp)
  ·rw [if_neg c5] at H
   exact absurd H (by simp)
 ·rw [if_neg c3] at H
  have c3b0 : (t143 == 0) = false := beq_eq_false_iff_ne.mpr c3
  have c3b1 : (t143 != 0) = true := bne_iff_ne.mpr c3
  replace H := Option.bind_eq_some_iff.mp H
  obtain ⟨⟨t151, t152⟩, A120, H⟩ := H
  replace H : (if t151 = 0 then ((spec_l6Rd_pick.f k s0_0 t152 10).bind fun bt153 => (some (wrap64 (81 + bt153.1), bt153.2))) else ((spec_l6Rd_pick.f k s0_0 t152 81).bind fun bt155 => (some (bt155.1, bt155.2)))) = some (r1, r2) := H
  have A12 := Aside0.mk A120
  clear A120
  by_cases c13 : t151 = 0
  ·rw [if_pos c13] at H
   have c13b0 : (t151 == 0) = true := beq_iff_eq.mpr c13
   have c13b1 : (t151 != 0) = false := bne_eq_false_iff_eq.mpr c13
   clear c13
   replace H := Option.bind_eq_some_iff.mp H
   obtain ⟨⟨t153, t154⟩, A140, H⟩ := H
   replace H : (some (wrap64 (81 + t153), t154)) = some (r1, r2) := H
   have A14 := Aside0.mk A140
   clear A140
   simp only [Option.some.injEq, Prod.mk.injEq] at H
   obtain ⟨rfl, rfl⟩ := H
   go_enter Try.func137, Try.ntmps137
   go_wp2_with (first | (refine goesL_ (some 4) rfl rfl Try.func79 (by kernel_rfl) rfl #[.pointer (some ⟨g, 0, none⟩), .int .i64 30] rfl ll_ ?_; (with_reducible refine (spec_l6Rd_pick.calls k g s0_0 s0_1 30 t143 t144 w0 _ ?side1 ?side2 A2.out).mono ?_); (case side1 => repeat (first | (with_reducible first | exact HI0.out | apply IsS76.alloc | apply IsS76.drewN | apply IsS76.drew | apply IsS76.set_1) | exact HI0.out)); (case side2 => repeat (first | (with_reducible first | exact HB.out | apply below_alloc | apply pw_below_drewN | apply below_drew1 | refine below_set ?_ (IsS76.ge HI0.out)) | exact HB.out)); rintro e w15 ⟨rfl, hi, hb, hk⟩; refine ⟨_, rfl, ?_⟩; have n0_ := Aside0.mk (KeepBut.trans (by repeat (first | (with_reducible first | exact HK.out | apply KeepBut.set_ | apply keep_drewN | apply keep_drew | apply keep_alloc) | exact HK.out)) hk (.inl rfl)); have n1_ := Aside0.mk (hb); have n2_ := Aside0.mk (hi); clear HK; clear HB; clear HI0; have HK := n0_; have HB := n1_; have HI0 := n2_; clear n0_ n1_ n2_; (try clear hb); (try clear hb2); (try clear hk); (try clear hi)) | (refine goesL_ (some 12) rfl rfl Try.func79 (by kernel_rfl) rfl #[.pointer (some ⟨g, 0, none⟩), .int .i64 4] rfl ll_ ?_; (with_reducible refine (spec_l6Rd_pick.calls k g s0_0 t144 4 t151 t152 w0 _ ?side1 ?side2 A12.out).mono ?_); (case side1 => repeat (first | (with_reducible first | exact HI0.out | apply IsS76.alloc | apply IsS76.drewN | apply IsS76.drew | apply IsS76.set_1) | exact HI0.out)); (case side2 => repeat (first | (with_reducible first | exact HB.out | apply below_alloc | apply pw_below_drewN | apply below_drew1 | refine below_set ?_ (IsS76.ge HI0.out)) | exact HB.out)); rintro e w16 ⟨rfl, hi, hb, hk⟩; refine ⟨_, rfl, ?_⟩; have n0_ := Aside0.mk (KeepBut.trans (by repeat (first | (with_reducible first | exact HK.out | apply KeepBut.set_ | apply keep_drewN | apply keep_drew | apply keep_alloc) | exact HK.out)) hk (.inl rfl)); have n1_ := Aside0.mk (hb); have n2_ := Aside0.mk (hi); clear HK; clear HB; clear HI0; have HK := n0_; have HB := n1_; have HI0 := n2_; clear n0_ n1_ n2_; (try clear hb); (try clear hb2); (try clear hk); (try clear hi)) | (refine goesL_ (some 15) rfl rfl Try.func79 (by kernel_rfl) rfl #[.pointer (some ⟨g, 0, none⟩), .int .i64 10] rfl ll_ ?_; (with_reducible refine (spec_l6Rd_pick.calls k g s0_0 t152 10 t153 t154 w0 _ ?side1 ?side2 A14.out).mono ?_); (case side1 => repeat (first | (with_reducible first | exact HI0.out | apply IsS76.alloc | apply IsS76.drewN | apply IsS76.drew | apply IsS76.set_1) | exact HI0.out)); (case side2 => repeat (first | (with_reducible first | exact HB.out | apply below_alloc | apply pw_below_drewN | apply below_drew1 | refine below_set ?_ (IsS76.ge HI0.out)) | exact HB.out)); rintro e w17 ⟨rfl, hi, hb, hk⟩; refine ⟨_, rfl, ?_⟩; have n0_ := Aside0.mk (KeepBut.trans (by repeat (first | (with_reducible first | exact HK.out | apply KeepBut.set_ | apply keep_drewN | apply keep_drew | apply keep_alloc) | exact HK.out)) hk (.inl rfl)); have n1_ := Aside0.mk (hb); have n2_ := Aside0.mk (hi); clear HK; clear HB; clear HI0; have HK := n0_; have HB := n1_; have HI0 := n2_; clear n0_ n1_ n2_; (try clear hb); (try clear hb2); (try clear hk); (try clear hi)))
   go_ret
   exact ⟨ee_, by repeat (first | (with_reducible first | exact HI0.out | apply IsS76.alloc | apply IsS76.drewN | apply IsS76.drew | apply IsS76.set_1) | exact HI0.out), by repeat (first | (with_reducible first | exact HB.out | apply below_alloc | apply pw_below_drewN | apply below_drew1 | refine below_set ?_ (IsS76.ge HI0.out)) | exact HB.out), by repeat (first | (with_reducible first | exact HK.out | apply KeepBut.set_ | apply keep_drewN | apply keep_drew | apply keep_alloc) | exact HK.out)⟩
  ·rw [if_neg c13] at H
   have c13b0 : (t151 == 0) = false := beq_eq_false_iff_ne.mpr c13
   have c13b1 : (t151 != 0) = true := bne_iff_ne.mpr c13
   replace H := Option.bind_eq_some_iff.mp H
   obtain ⟨⟨t155, t156⟩, A180, H⟩ := H
   replace H : (some (t155, t156)) = some (r1, r2) := H
   have A18 := Aside0.mk A180
   clear A180
   simp only [Option.some.injEq, Prod.mk.injEq] at H
   obtain ⟨rfl, rfl⟩ := H
   go_enter Try.func137, Try.ntmps137
   go_wp2_with (first | (refine goesL_ (some 4) rfl rfl Try.func79 (by kernel_rfl) rfl #[.pointer (some ⟨g, 0, none⟩), .int .i64 30] rfl ll_ ?_; (with_reducible refine (spec_l6Rd_pick.calls k g s0_0 s0_1 30 t143 t144 w0 _ ?side1 ?side2 A2.out).mono ?_); (case side1 => repeat (first | (with_reducible first | exact HI0.out | apply IsS76.alloc | apply IsS76.drewN | apply IsS76.drew | apply IsS76.set_1) | exact HI0.out)); (case side2 => repeat (first | (with_reducible first | exact HB.out | apply below_alloc | apply pw_below_drewN | apply below_drew1 | refine below_set ?_ (IsS76.ge HI0.out)) | exact HB.out)); rintro e w19 ⟨rfl, hi, hb, hk⟩; refine ⟨_, rfl, ?_⟩; have n0_ := Aside0.mk (KeepBut.trans (by repeat (first | (with_reducible first | exact HK.out | apply KeepBut.set_ | apply keep_drewN | apply keep_drew | apply keep_alloc) | exact HK.out)) hk (.inl rfl)); have n1_ := Aside0.mk (hb); have n2_ := Aside0.mk (hi); clear HK; clear HB; clear HI0; have HK := n0_; have HB := n1_; have HI0 := n2_; clear n0_ n1_ n2_; (try clear hb); (try clear hb2); (try clear hk); (try clear hi)) | (refine goesL_ (some 12) rfl rfl Try.func79 (by kernel_rfl) rfl #[.pointer (some ⟨g, 0, none⟩), .int .i64 4] rfl ll_ ?_; (with_reducible refine (spec_l6Rd_pick.calls k g s0_0 t144 4 t151 t152 w0 _ ?side1 ?side2 A12.out).mono ?_); (case side1 => repeat (first | (with_reducible first | exact HI0.out | apply IsS76.alloc | apply IsS76.drewN | apply IsS76.drew | apply IsS76.set_1) | exact HI0.out)); (case side2 => repeat (first | (with_reducible first | exact HB.out | apply below_alloc | apply pw_below_drewN | apply below_drew1 | refine below_set ?_ (IsS76.ge HI0.out)) | exact HB.out)); rintro e w20 ⟨rfl, hi, hb, hk⟩; refine ⟨_, rfl, ?_⟩; have n0_ := Aside0.mk (KeepBut.trans (by repeat (first | (with_reducible first | exact HK.out | apply KeepBut.set_ | apply keep_drewN | apply keep_drew | apply keep_alloc) | exact HK.out)) hk (.inl rfl)); have n1_ := Aside0.mk (hb); have n2_ := Aside0.mk (hi); clear HK; clear HB; clear HI0; have HK := n0_; have HB := n1_; have HI0 := n2_; clear n0_ n1_ n2_; (try clear hb); (try clear hb2); (try clear hk); (try clear hi)) | (refine goesL_ (some 18) rfl rfl Try.func79 (by kernel_rfl) rfl #[.pointer (some ⟨g, 0, none⟩), .int .i64 81] rfl ll_ ?_; (with_reducible refine (spec_l6Rd_pick.calls k g s0_0 t152 81 t155 t156 w0 _ ?side1 ?side2 A18.out).mono ?_); (case side1 => repeat (first | (with_reducible first | exact HI0.out | apply IsS76.alloc | apply IsS76.drewN | apply IsS76.drew | apply IsS76.set_1) | exact HI0.out)); (case side2 => repeat (first | (with_reducible first | exact HB.out | apply below_alloc | apply pw_below_drewN | apply below_drew1 | refine below_set ?_ (IsS76.ge HI0.out)) | exact HB.out)); rintro e w21 ⟨rfl, hi, hb, hk⟩; refine ⟨_, rfl, ?_⟩; have n0_ := Aside0.mk (KeepBut.trans (by repeat (first | (with_reducible first | exact HK.out | apply KeepBut.set_ | apply keep_drewN | apply keep_drew | apply keep_alloc) | exact HK.out)) hk (.inl rfl)); have n1_ := Aside0.mk (hb); have n2_ := Aside0.mk (hi); clear HK; clear HB; clear HI0; have HK := n0_; have HB := n1_; have HI0 := n2_; clear n0_ n1_ n2_; (try clear hb); (try clear hb2); (try clear hk); (try clear hi)))
   go_ret
   exact ⟨ee_, by repeat (first | (with_reducible first | exact HI0.out | apply IsS76.alloc | apply IsS76.drewN | apply IsS76.drew | apply IsS76.set_1) | exact HI0.out), by repeat (first | (with_reducible first | exact HB.out | apply below_alloc | apply pw_below_drewN | apply below_drew1 | refine below_set ?_ (IsS76.ge HI0.out)) | exact HB.out), by repeat (first | (with_reducible first | exact HK.out | apply KeepBut.set_ | apply keep_drewN | apply keep_drew | apply keep_alloc) | exact HK.out)⟩
end Go.Proofs.Ytcbkoecanldlpaa.P

namespace Go.Proofs.Ytcbkoecanldlpaa.P
open Go.RowKit Go.Proofs.YtcbkoecanldlpaaW.PrintWords Go.Proofs.YtcbkoecanldlpaaW.PrintLast
set_option linter.unusedVariables false
set_option linter.unusedSimpArgs false

def spec_l91Quad.l0 : Nat → List Int → Int → List Int → Int → Option (List Int × Int)
 | 0, _, _, _, _ => none
 | k + 1, x3, x4, x1000, x1001 => if x4 < 4 then ((spec_l91Point.f k x1000 x1001).bind fun bt160 => (if x3.length < 17592186044416 then (spec_l91Quad.l0 k (x3 ++ [bt160.1]) (wrap64 (x4 + 1)) x1000 bt160.2) else (none))) else (some (x3, x1001))
def spec_l91Quad.f (k : Nat) (s0_0 : List Int) (s0_1 : Int) : Option (List Int × Int) := spec_l91Quad.l0 k (([] : List Int)) 0 s0_0 s0_1
set_option maxHeartbeats 8000000 in
set_option maxRecDepth 100000 in
theorem spec_l91Quad.calls (k : Nat) (g : Nat) (s0_0 : List Int) (s0_1 : Int) (r1 : List Int) (r2 : Int) (w0 w : World) (hI : IsS76 w0 w g s0_0 s0_1) (hB : Below w0.heap.size w0 w) (h : spec_l91Quad.f k s0_0 s0_1 = some (r1, r2)) :
  Calls Try.prog 78 #[.pointer (some ⟨g, 0, none⟩)] w fun e w' => ∃ v0_ : Value, e = .returned (v0_) ∧ Kd.R (Kd.int .i64) 3 w' w.heap.size (fun _ => True) v0_ r1 ∧ IsS76 w0 w' g s0_0 r2 ∧ Below w0.heap.size w0 w' ∧ KeepBut w w' g none := by
 have HI0 := Aside0.mk hI
 have HK := Aside0.mk (KeepBut.refl w g none)
 have HL := Aside0.mk hB.size
 clear hI
 have HW0 := Aside0.mk hB.size
 have HB := Aside0.mk hB
 clear hB
 have H : (spec_l91Quad.l0 k (([] : List Int)) 0 s0_0 s0_1) = some (r1, r2) := h
 clear h
 obtain ⟨y157, hy157⟩ : ∃ y_ : List Int, y_ = (([] : List Int)) := ⟨_, rfl⟩
 replace H : (spec_l91Quad.l0 k y157 0 s0_0 s0_1) = some (r1, r2) := by first | (rw [hy157]; with_reducible exact H) | (have H2_ := (Option.bind_some _ _).symm.trans H; rw [hy157]; with_reducible exact H2_) | (have H2_ := (Option.bind_some _ _).symm.trans H; with_reducible exact H2_) | with_reducible exact H | (rw [hy157]; exact H) | exact H
 have Ny157 := Aside0.mk hy157
 clear hy157
 have H' := Aside0.mk H
 clear H
 go_enter Try.func78, Try.ntmps78
 go_wp2_with (first | ((with_reducible refine gate_dst (N := 5) rfl ?_); refine Kd.R_lit (Kd.int .i64) _ 3 ?hg (N := 5) ?hd (xs := ([] : List Int)) (inner := []) (ok := fun _ => True) (okp := fun _ => True) ?hr ?hp (fun _ hk => hk) trivial (Below.refl _ _) (Nat.le_refl _) (by simp) ?_; (case hd => rfl); (case hg => rfl); (case hr => first | (go_simp; done) | (go_simp; rfl)); (case hp => exact (Reps.none _ _)); intro v158 w2 ho3 hb hg_ hnew_; clear hg_ hnew_; (first | rw [← Ny157.out] at ho3 | (simp only [Int.reduceToNat] at ho3; rw [← Ny157.out] at ho3)); have n0_ := Aside0.mk (Kd.R_lower ho3 (keep_size (w := w) (g := g) (row := none) (by repeat (first | (with_reducible first | exact HK.out | apply KeepBut.set_ | apply keep_drewN | apply keep_drew | apply keep_alloc) | exact HK.out)))); have n1_ := Aside0.mk (IsS76.below (by repeat (first | (with_reducible first | exact HI0.out | apply IsS76.alloc | apply IsS76.drewN | apply IsS76.drew | apply IsS76.set_1) | exact HI0.out)) hb); have n2_ := Aside0.mk (KeepBut.trans (by repeat (first | (with_reducible first | exact HK.out | apply KeepBut.set_ | apply keep_drewN | apply keep_drew | apply keep_alloc) | exact HK.out)) (KeepBut.of_below hb g none) (.inl rfl)); have n3_ := Aside0.mk (below_step (by repeat (first | (with_reducible first | exact HB.out | apply below_alloc | apply pw_below_drewN | apply below_drew1 | refine below_set ?_ (IsS76.ge HI0.out)) | exact HB.out)) hb); clear HI0; clear HK; clear HB; have HO159 := n0_; have HI0 := n1_; have HK := n2_; have HB := n3_; clear n0_ n1_ n2_ n3_; clear hb ho3))
 go_loopg [3, 4] k (fun kq v3 v4 w' => ∃ (x3_1 : List Int) (x4_1 : Int) (x1001_1 : Int), v4 = .int .i64 x4_1 ∧ Aside0 (spec_l91Quad.l0 kq x3_1 x4_1 s0_0 x1001_1 = some (r1, r2)) ∧ Aside0 (kq ≤ k) ∧ Aside0 (Kd.R (Kd.int .i64) 3 w' w.heap.size (fun _ => True) v3 x3_1) ∧ Aside0 (IsS76 w0 w' g s0_0 x1001_1) ∧ Aside0 (KeepBut w w' g none) ∧ Aside0 (Below w0.heap.size w0 w'))
 case atStart => exact ⟨(y157), (0), (s0_1), (by first | rfl | (simp; done) | (simp [*]; done)), H', ⟨Nat.le_refl _⟩, ⟨rr_ HO159⟩, ⟨by repeat (first | (with_reducible first | exact HI0.out | apply IsS76.alloc | apply IsS76.drewN | apply IsS76.drew | apply IsS76.set_1) | exact HI0.out)⟩, ⟨by repeat (first | (with_reducible first | exact HK.out | apply KeepBut.set_ | apply keep_drewN | apply keep_drew | apply keep_alloc) | exact HK.out)⟩, ⟨by repeat (first | (with_reducible first | exact HB.out | apply below_alloc | apply pw_below_drewN | apply below_drew1 | refine below_set ?_ (IsS76.ge HI0.out)) | exact HB.out)⟩⟩
 case round =>
  clear H'
  try clear p2
  obtain ⟨x3_1, x4_1, x1001_1, rfl, HA, HK1, HO_3, HI0, HK, HB⟩ := hrel
  cases gk with
  | zero => exact absurd HA.out (by simp [spec_l91Quad.l0])
  | succ k1 =>
   have H := HA.out
   clear HA
   simp only [spec_l91Quad.l0] at H
   by_cases c4 : x4_1 < 4
   ·rw [if_pos c4] at H
    have c4b0 : decide (x4_1 < 4) = true := decide_eq_true c4
    clear c4
    replace H := Option.bind_eq_some_iff.mp H
    obtain ⟨⟨t160, t161⟩, A50, H⟩ := H
    replace H : (if x3_1.length < 17592186044416 then (spec_l91Quad.l0 k1 (x3_1 ++ [t160]) (wrap64 (x4_1 + 1)) s0_0 t161) else (none)) = some (r1, r2) := H
    have A5 := Aside0.mk A50
    clear A50
    by_cases c6 : x3_1.length < 17592186044416
    ·rw [if_pos c6] at H
     have LMc6 := Aside0.mk c6
     clear c6
     obtain ⟨y162, hy162⟩ : ∃ y_ : List Int, y_ = (x3_1 ++ [t160]) := ⟨_, rfl⟩
     replace H : (spec_l91Quad.l0 k1 y162 (wrap64 (x4_1 + 1)) s0_0 t161) = some (r1, r2) := by first | (rw [hy162]; with_reducible exact H) | (have H2_ := (Option.bind_some _ _).symm.trans H; rw [hy162]; with_reducible exact H2_) | (have H2_ := (Option.bind_some _ _).symm.trans H; with_reducible exact H2_) | with_reducible exact H | (rw [hy162]; exact H) | exact H
     have Ny162 := Aside0.mk hy162
     clear hy162
     have H' := Aside0.mk H
     clear H
     go_wp2_with (first | (refine goesL_ (some 12) rfl rfl Try.func137 (by kernel_rfl) rfl #[.pointer (some ⟨g, 0, none⟩)] rfl ll_ ?_; (with_reducible refine (spec_l91Point.calls k1 g s0_0 x1001_1 t160 t161 w0 _ ?side1 ?side2 A5.out).mono ?_); (case side1 => repeat (first | (with_reducible first | exact HI0.out | apply IsS76.alloc | apply IsS76.drewN | apply IsS76.drew | apply IsS76.set_1) | exact HI0.out)); (case side2 => repeat (first | (with_reducible first | exact HB.out | apply below_alloc | apply pw_below_drewN | apply below_drew1 | refine below_set ?_ (IsS76.ge HI0.out)) | exact HB.out)); rintro e w7 ⟨rfl, hi, hb, hk⟩; refine ⟨_, rfl, ?_⟩; have n0_ := Aside0.mk (Kd.R_mono (Kd.R_keep (IsS76.apart (show IsS76 w0 _ g s0_0 x1001_1 from by repeat (first | (with_reducible first | exact HI0.out | apply IsS76.alloc | apply IsS76.drewN | apply IsS76.drew | apply IsS76.set_1) | exact HI0.out)) (rr_ HO_3) (by decide)) hk (fun _ h => h.2)) (fun _ h => h.1)); have n1_ := Aside0.mk (KeepBut.trans (by repeat (first | (with_reducible first | exact HK.out | apply KeepBut.set_ | apply keep_drewN | apply keep_drew | apply keep_alloc) | exact HK.out)) hk (.inl rfl)); have n2_ := Aside0.mk (hb); have n3_ := Aside0.mk (hi); clear HO_3; clear HK; clear HB; clear HI0; have HO_3 := n0_; have HK := n1_; have HB := n2_; have HI0 := n3_; clear n0_ n1_ n2_ n3_; (try clear hb); (try clear hb2); (try clear hk); (try clear hi)) | (at_builtin; refine Kd.R_append (Kd.int .i64) w.heap.size rfl (.tmp 10) (.tmp 13) 23 3 (.int .i64 0) 8 rfl Try.underlying23 info3 rfl (by decide) (by omega) u3 x3_1 t160 [.int .i64 t160] (fun _ => True) (fun _ => False) rfl rfl ?aP (fun _ hk => hk.elim) ?aF ?aO (Below.refl _ _) ?aS ?aL ?_; (case aP => exact rfl); (case aF => exact (fun _ _ => trivial)); (case aO => exact (rr_ HO_3)); (case aS => exact (keep_size (w := w) (g := g) (row := none) (by repeat (first | (with_reducible first | exact HK.out | apply KeepBut.set_ | apply keep_drewN | apply keep_drew | apply keep_alloc) | exact HK.out)))); (case aL => have := LMc6.out; omega); intro v163 w8 ho hb hg hat; rw [← Ny162.out] at ho; have n0_ := Aside0.mk (IsS76.grown (by repeat (first | (with_reducible first | exact HI0.out | apply IsS76.alloc | apply IsS76.drewN | apply IsS76.drew | apply IsS76.set_1) | exact HI0.out)) hg (IsS76.own_ne HI0.out HO_3.out (by decide))); have n1_ := Aside0.mk (below_weaken (by repeat (first | (with_reducible first | exact HB.out | apply below_alloc | apply pw_below_drewN | apply below_drew1 | refine below_set ?_ (IsS76.ge HI0.out)) | exact HB.out)) HL.out hb); have n2_ := Aside0.mk (KeepBut.trans (by repeat (first | (with_reducible first | exact HK.out | apply KeepBut.set_ | apply keep_drewN | apply keep_drew | apply keep_alloc) | exact HK.out)) (KeepBut.of_grown hg g) (Kd.R_base2 HO_3.out)); have n3_ := Aside0.mk (ho); clear HI0; clear HB; clear HK; clear HO_3; have HI0 := n0_; have HB := n1_; have HK := n2_; have HO164 := n3_; clear n0_ n1_ n2_ n3_; clear ho hb hg hat))
     go_roundg k1
     case measure => have := HK1.out; omega
     case rel => exact ⟨(y162), (wrap64 (x4_1 + 1)), (t161), (by first | rfl | (simp; done) | (simp [*]; done)), H', ⟨by have := HK1.out; omega⟩, ⟨rr_ HO164⟩, ⟨by repeat (first | (with_reducible first | exact HI0.out | apply IsS76.alloc | apply IsS76.drewN | apply IsS76.drew | apply IsS76.set_1) | exact HI0.out)⟩, ⟨by repeat (first | (with_reducible first | exact HK.out | apply KeepBut.set_ | apply keep_drewN | apply keep_drew | apply keep_alloc) | exact HK.out)⟩, ⟨by repeat (first | (with_reducible first | exact HB.out | apply below_alloc | apply pw_below_drewN | apply below_drew1 | refine below_set ?_ (IsS76.ge HI0.out)) | exact HB.out)⟩⟩
    ·rw [if_neg c6] at H
     exact absurd H (by simp)
   ·rw [if_neg c4] at H
    have c4b0 : decide (x4_1 < 4) = false := decide_eq_false c4
    clear c4
    simp only [Option.some.injEq, Prod.mk.injEq] at H
    obtain ⟨rfl, rfl⟩ := H
    go_wp2
    go_ret
    exact ⟨_, ee_, by (with_reducible repeat (first | apply Kd.R_alloc | apply Kd.R_drewN | apply Kd.R_drew)); exact HO_3.out, by repeat (first | (with_reducible first | exact HI0.out | apply IsS76.alloc | apply IsS76.drewN | apply IsS76.drew | apply IsS76.set_1) | exact HI0.out), by repeat (first | (with_reducible first | exact HB.out | apply below_alloc | apply pw_below_drewN | apply below_drew1 | refine below_set ?_ (IsS76.ge HI0.out)) | exact HB.out), by repeat (first | (with_reducible first | exact HK.out | apply KeepBut.set_ | apply keep_drewN | apply keep_drew | apply keep_alloc) | exact HK.out)⟩
end Go.Proofs.Ytcbkoecanldlpaa.P

namespace Go.Proofs.Ytcbkoecanldlpaa.P
open Go.RowKit Go.Proofs.YtcbkoecanldlpaaW.PrintWords Go.Proofs.YtcbkoecanldlpaaW.PrintLast
set_option linter.unusedVariables false
set_option linter.unusedSimpArgs false

def spec_l1Times.f (a0 : Int) (a1 : Int) : Option (Int) := some (wrap64 ((Int.tmod (wrap64 ((wrap64 ((Int.tmod a0 3) * (Int.tmod a1 3))) + (wrap64 ((wrap64 (2 * (wrap64 (Int.tdiv a0 3)))) * (wrap64 (Int.tdiv a1 3)))))) 3) + (wrap64 ((Int.tmod (wrap64 ((wrap64 ((Int.tmod a0 3) * (wrap64 (Int.tdiv a1 3)))) + (wrap64 ((wrap64 (Int.tdiv a0 3)) * (Int.tmod a1 3))))) 3) * 3))))
set_option maxHeartbeats 8000000 in
set_option maxRecDepth 100000 in
theorem spec_l1Times.calls (a0 : Int) (a1 : Int) (r : Int) (w : World) (h : spec_l1Times.f a0 a1 = some r) :
  Calls Try.prog 191 #[.int .i64 a0, .int .i64 a1] w fun e w' => e = .returned (.int .i64 r) ∧ Drawn0 w w' := by
 have H : (some (wrap64 ((Int.tmod (wrap64 ((wrap64 ((Int.tmod a0 3) * (Int.tmod a1 3))) + (wrap64 ((wrap64 (2 * (wrap64 (Int.tdiv a0 3)))) * (wrap64 (Int.tdiv a1 3)))))) 3) + (wrap64 ((Int.tmod (wrap64 ((wrap64 ((Int.tmod a0 3) * (wrap64 (Int.tdiv a1 3)))) + (wrap64 ((wrap64 (Int.tdiv a0 3)) * (Int.tmod a1 3))))) 3) * 3))))) = some r := h
 clear h
 obtain rfl := Option.some.inj H
 go_enter Try.func191, Try.ntmps191
 go_wp2
 go_ret
 exact ⟨by first | rfl | (simp; done) | (simp [*]; done), by repeat (first | exact Drawn0.refl _ | apply Drawn0.step)⟩
end Go.Proofs.Ytcbkoecanldlpaa.P

namespace Go.Proofs.Ytcbkoecanldlpaa.P
open Go.RowKit Go.Proofs.YtcbkoecanldlpaaW.PrintWords Go.Proofs.YtcbkoecanldlpaaW.PrintLast
set_option linter.unusedVariables false
set_option linter.unusedSimpArgs false

def spec_l1Cube.f (a0 : Int) : Option (Int) := (spec_l1Times.f a0 a0).bind fun t108 => ((spec_l1Times.f a0 t108).bind fun t109 => (some t109))
set_option maxHeartbeats 8000000 in
set_option maxRecDepth 100000 in
theorem spec_l1Cube.calls (a0 : Int) (r : Int) (w : World) (h : spec_l1Cube.f a0 = some r) :
  Calls Try.prog 192 #[.int .i64 a0] w fun e w' => e = .returned (.int .i64 r) ∧ Drawn0 w w' := by
 have H : ((spec_l1Times.f a0 a0).bind fun t108 => ((spec_l1Times.f a0 t108).bind fun t109 => (some t109))) = some r := h
 clear h
 replace H := Option.bind_eq_some_iff.mp H
 obtain ⟨t108, A20, H⟩ := H
 replace H : ((spec_l1Times.f a0 t108).bind fun t109 => (some t109)) = some r := H
 have A2 := Aside0.mk A20
 clear A20
 replace H := Option.bind_eq_some_iff.mp H
 obtain ⟨t109, A30, H⟩ := H
 replace H : (some t109) = some r := H
 have A3 := Aside0.mk A30
 clear A30
 obtain rfl := Option.some.inj H
 go_enter Try.func192, Try.ntmps192
 go_wp2_with (first | (refine goesL_ (some 6) rfl rfl Try.func191 (by kernel_rfl) rfl #[.int .i64 a0, .int .i64 a0] rfl ll_ ?_; (with_reducible refine (spec_l1Times.calls a0 a0 t108 _ A2.out).mono ?_); rintro e w' ⟨rfl, ⟨nd, rfl⟩⟩; refine ⟨_, rfl, ?_⟩) | (refine goesL_ (some 7) rfl rfl Try.func191 (by kernel_rfl) rfl #[.int .i64 a0, .int .i64 t108] rfl ll_ ?_; (with_reducible refine (spec_l1Times.calls a0 t108 t109 _ A3.out).mono ?_); rintro e w' ⟨rfl, ⟨nd, rfl⟩⟩; refine ⟨_, rfl, ?_⟩))
 go_ret
 exact ⟨by first | rfl | (simp; done) | (simp [*]; done), by repeat (first | exact Drawn0.refl _ | apply Drawn0.step)⟩
end Go.Proofs.Ytcbkoecanldlpaa.P

namespace Go.Proofs.Ytcbkoecanldlpaa.P
open Go.RowKit Go.Proofs.YtcbkoecanldlpaaW.PrintWords Go.Proofs.YtcbkoecanldlpaaW.PrintLast
set_option linter.unusedVariables false
set_option linter.unusedSimpArgs false

def spec_l1Square.l0 : Nat → Int → Int → Option (Bool)
 | 0, _, _ => none
 | k + 1, x0, x3 => if x3 < 9 then ((spec_l1Times.f x3 x3).bind fun t107 => (if t107 = x0 then (some true) else (spec_l1Square.l0 k x0 (wrap64 (x3 + 1))))) else (some false)
def spec_l1Square.f (k : Nat) (a0 : Int) : Option (Bool) := spec_l1Square.l0 k a0 1
theorem spec_l1Square.mono_l : ∀ k, (∀ y0 y1, LeO (spec_l1Square.l0 k y0 y1) (spec_l1Square.l0 (k + 1) y0 y1))
 | 0 => fun _ _ r h => by simp [spec_l1Square.l0] at h
 | k + 1 => by
  have ih0 := spec_l1Square.mono_l k
  ·intro y0 y1
   unfold spec_l1Square.l0
   repeat' first
   | (with_reducible exact ih0 _ _)
   | (with_reducible exact LeO.refl _)
   | (with_reducible exact LeO.none _)
   | (with_reducible refine LeO.ite ?_ ?_)
   | (with_reducible refine LeO.bind ?_ (fun _ => ?_))
   | exact ih0 _ _
   | exact LeO.none _
   | refine LeO.ite ?_ ?_
   | refine LeO.bind ?_ (fun _ => ?_)
theorem spec_l1Square.mono : ∀ a0 k, LeO (spec_l1Square.f k a0) (spec_l1Square.f (k + 1) a0) := by
 intro a0 k
 have ih0 := spec_l1Square.mono_l k
 unfold spec_l1Square.f
 repeat' first
   | (with_reducible exact ih0 _ _)
   | (with_reducible exact LeO.refl _)
   | (with_reducible exact LeO.none _)
   | (with_reducible refine LeO.ite ?_ ?_)
   | (with_reducible refine LeO.bind ?_ (fun _ => ?_))
   | exact ih0 _ _
   | exact LeO.none _
   | refine LeO.ite ?_ ?_
   | refine LeO.bind ?_ (fun _ => ?_)
set_option maxHeartbeats 8000000 in
set_option maxRecDepth 100000 in
theorem spec_l1Square.calls (k : Nat) (a0 : Int) (r : Bool) (w : World) (h : spec_l1Square.f k a0 = some r) :
  Calls Try.prog 190 #[.int .i64 a0] w fun e w' => e = .returned (.bool r) ∧ Drawn0 w w' := by
 have H : (spec_l1Square.l0 k a0 1) = some r := h
 clear h
 have H' := Aside0.mk H
 clear H
 go_enter Try.func190, Try.ntmps190
 go_wp2
 go_loopg [3] k (fun kq v3 w' => ∃ (x3_1 : Int), v3 = .int .i64 x3_1 ∧ Aside0 (spec_l1Square.l0 kq a0 x3_1 = some r) ∧ Aside0 (kq ≤ k) ∧ Drawn0 w w')
 case atStart => exact ⟨(1), (by first | rfl | (simp; done) | (simp [*]; done)), H', ⟨Nat.le_refl _⟩, by repeat (first | exact Drawn0.refl _ | apply Drawn0.step)⟩
 case round =>
  clear H'
  try clear c1
  obtain ⟨x3_1, rfl, HA, HK1, ⟨m1, rfl⟩⟩ := hrel
  cases gk with
  | zero => exact absurd HA.out (by simp [spec_l1Square.l0])
  | succ k1 =>
   have H := HA.out
   clear HA
   simp only [spec_l1Square.l0] at H
   by_cases c2 : x3_1 < 9
   ·rw [if_pos c2] at H
    have c2b0 : decide (x3_1 < 9) = true := decide_eq_true c2
    clear c2
    replace H := Option.bind_eq_some_iff.mp H
    obtain ⟨t107, A30, H⟩ := H
    replace H : (if t107 = a0 then (some true) else (spec_l1Square.l0 k1 a0 (wrap64 (x3_1 + 1)))) = some r := H
    have A3 := Aside0.mk A30
    clear A30
    by_cases c4 : t107 = a0
    ·rw [if_pos c4] at H
     have c4b0 : (t107 == a0) = true := beq_iff_eq.mpr c4
     have c4b1 : (t107 != a0) = false := bne_eq_false_iff_eq.mpr c4
     clear c4
     obtain rfl := Option.some.inj H
     go_wp2_with (first | (refine goesL_ (some 10) rfl rfl Try.func191 (by kernel_rfl) rfl #[.int .i64 x3_1, .int .i64 x3_1] rfl ll_ ?_; (with_reducible refine (spec_l1Times.calls x3_1 x3_1 t107 _ A3.out).mono ?_); rintro e w' ⟨rfl, ⟨nd, rfl⟩⟩; refine ⟨_, rfl, ?_⟩))
     go_ret
     exact ⟨by first | rfl | (simp; done) | (simp [*]; done), by repeat (first | exact Drawn0.refl _ | apply Drawn0.step)⟩
    ·rw [if_neg c4] at H
     have c4b0 : (t107 == a0) = false := beq_eq_false_iff_ne.mpr c4
     have c4b1 : (t107 != a0) = true := bne_iff_ne.mpr c4
     have H' := Aside0.mk H
     clear H
     go_wp2_with (first | (refine goesL_ (some 10) rfl rfl Try.func191 (by kernel_rfl) rfl #[.int .i64 x3_1, .int .i64 x3_1] rfl ll_ ?_; (with_reducible refine (spec_l1Times.calls x3_1 x3_1 t107 _ A3.out).mono ?_); rintro e w' ⟨rfl, ⟨nd, rfl⟩⟩; refine ⟨_, rfl, ?_⟩))
     go_roundg k1
     case measure => have := HK1.out; omega
     case rel => exact ⟨(wrap64 (x3_1 + 1)), (by first | rfl | (simp; done) | (simp [*]; done)), H', ⟨by have := HK1.out; omega⟩, by repeat (first | exact Drawn0.refl _ | apply Drawn0.step)⟩
   ·rw [if_neg c2] at H
    have c2b0 : decide (x3_1 < 9) = false := decide_eq_false c2
    clear c2
    obtain rfl := Option.some.inj H
    go_wp2
    go_ret
    exact ⟨by first | rfl | (simp; done) | (simp [*]; done), by repeat (first | exact Drawn0.refl _ | apply Drawn0.step)⟩
end Go.Proofs.Ytcbkoecanldlpaa.P

namespace Go.Proofs.Ytcbkoecanldlpaa.P
open Go.RowKit Go.Proofs.YtcbkoecanldlpaaW.PrintWords Go.Proofs.YtcbkoecanldlpaaW.PrintLast
set_option linter.unusedVariables false
set_option linter.unusedSimpArgs false

def spec_l2Hall.f (a0 : Int) (a1 : Int) (a2 : Int) (a3 : Int) : Option (Int) := if (wrap64 (Int.tdiv a1 3)) = 0 then ((spec_l1Times.f a0 a1).bind fun t110 => (some t110)) else (some (wrap64 ((Int.tmod (wrap64 ((wrap64 ((Int.tmod a0 3) * (Int.tmod a1 3))) + (wrap64 ((wrap64 (2 * (wrap64 (Int.tdiv a0 3)))) * (wrap64 ((wrap64 ((wrap64 ((wrap64 ((Int.tmod a1 3) * (Int.tmod a1 3))) + (wrap64 ((wrap64 (2 * a2)) * (Int.tmod a1 3))))) + (wrap64 (2 * a3)))) * (wrap64 (Int.tdiv a1 3)))))))) 3) + (wrap64 ((Int.tmod (wrap64 ((wrap64 ((wrap64 ((Int.tmod a0 3) * (wrap64 (Int.tdiv a1 3)))) + (wrap64 ((wrap64 (2 * (wrap64 (Int.tdiv a0 3)))) * (Int.tmod a1 3))))) + (wrap64 ((wrap64 (Int.tdiv a0 3)) * a2)))) 3) * 3)))))
set_option maxHeartbeats 8000000 in
set_option maxRecDepth 100000 in
theorem spec_l2Hall.calls (a0 : Int) (a1 : Int) (a2 : Int) (a3 : Int) (r : Int) (w : World) (h : spec_l2Hall.f a0 a1 a2 a3 = some r) :
  Calls Try.prog 193 #[.int .i64 a0, .int .i64 a1, .int .i64 a2, .int .i64 a3] w fun e w' => e = .returned (.int .i64 r) ∧ Drawn0 w w' := by
 have H : (if (wrap64 (Int.tdiv a1 3)) = 0 then ((spec_l1Times.f a0 a1).bind fun t110 => (some t110)) else (some (wrap64 ((Int.tmod (wrap64 ((wrap64 ((Int.tmod a0 3) * (Int.tmod a1 3))) + (wrap64 ((wrap64 (2 * (wrap64 (Int.tdiv a0 3)))) * (wrap64 ((wrap64 ((wrap64 ((wrap64 ((Int.tmod a1 3) * (Int.tmod a1 3))) + (wrap64 ((wrap64 (2 * a2)) * (Int.tmod a1 3))))) + (wrap64 (2 * a3)))) * (wrap64 (Int.tdiv a1 3)))))))) 3) + (wrap64 ((Int.tmod (wrap64 ((wrap64 ((wrap64 ((Int.tmod a0 3) * (wrap64 (Int.tdiv a1 3)))) + (wrap64 ((wrap64 (2 * (wrap64 (Int.tdiv a0 3)))) * (Int.tmod a1 3))))) + (wrap64 ((wrap64 (Int.tdiv a0 3)) * a2)))) 3) * 3)))))) = some r := h
 clear h
 by_cases c5 : (wrap64 (Int.tdiv a1 3)) = 0
 ·rw [if_pos c5] at H
  have c5b0 : ((wrap64 (Int.tdiv a1 3)) == 0) = true := beq_iff_eq.mpr c5
  have c5b1 : ((wrap64 (Int.tdiv a1 3)) != 0) = false := bne_eq_false_iff_eq.mpr c5
  clear c5
  replace H := Option.bind_eq_some_iff.mp H
  obtain ⟨t110, A60, H⟩ := H
  replace H : (some t110) = some r := H
  have A6 := Aside0.mk A60
  clear A60
  obtain rfl := Option.some.inj H
  go_enter Try.func193, Try.ntmps193
  go_wp2_with (first | (refine goesL_ (some 22) rfl rfl Try.func191 (by kernel_rfl) rfl #[.int .i64 a0, .int .i64 a1] rfl ll_ ?_; (with_reducible refine (spec_l1Times.calls a0 a1 t110 _ A6.out).mono ?_); rintro e w' ⟨rfl, ⟨nd, rfl⟩⟩; refine ⟨_, rfl, ?_⟩))
  go_ret
  exact ⟨by first | rfl | (simp; done) | (simp [*]; done), by repeat (first | exact Drawn0.refl _ | apply Drawn0.step)⟩
 ·rw [if_neg c5] at H
  have c5b0 : ((wrap64 (Int.tdiv a1 3)) == 0) = false := beq_eq_false_iff_ne.mpr c5
  have c5b1 : ((wrap64 (Int.tdiv a1 3)) != 0) = true := bne_iff_ne.mpr c5
  obtain rfl := Option.some.inj H
  go_enter Try.func193, Try.ntmps193
  go_wp2
  go_ret
  exact ⟨by first | rfl | (simp; done) | (simp [*]; done), by repeat (first | exact Drawn0.refl _ | apply Drawn0.step)⟩
end Go.Proofs.Ytcbkoecanldlpaa.P

namespace Go.Proofs.Ytcbkoecanldlpaa.P
open Go.RowKit Go.Proofs.YtcbkoecanldlpaaW.PrintWords Go.Proofs.YtcbkoecanldlpaaW.PrintLast
set_option linter.unusedVariables false
set_option linter.unusedSimpArgs false

def spec_l2Product.j0 : Nat → Int → Int → Bool → Option (Int)
 | 0, _, _, _ => none
 | k + 1, x1, x2, x16 => if x16 = true then ((spec_l1Cube.f x1).bind fun t112 => ((spec_l1Times.f t112 x2).bind fun t113 => (some t113))) else ((spec_l1Times.f x1 x2).bind fun t114 => (some t114))
def spec_l2Product.f (k : Nat) (a0 : Int) (a1 : Int) (a2 : Int) : Option (Int) := if a0 = 1 then (if a2 = 0 then (spec_l2Product.j0 k a1 a2 false) else ((spec_l1Square.f k a2).bind fun t111 => (spec_l2Product.j0 k a1 a2 (!t111)))) else (if a0 = 2 then ((spec_l2Hall.f a1 a2 0 2).bind fun t115 => (some t115)) else (if a0 = 3 then ((spec_l2Hall.f a1 a2 1 1).bind fun t116 => (some t116)) else (if a0 = 4 then ((spec_l2Hall.f a1 a2 2 1).bind fun t117 => (some t117)) else ((spec_l1Times.f a1 a2).bind fun t118 => (some t118)))))
theorem spec_l2Product.mono_l : ∀ k, (∀ y0 y1 y2, LeO (spec_l2Product.j0 k y0 y1 y2) (spec_l2Product.j0 (k + 1) y0 y1 y2))
 | 0 => fun _ _ _ r h => by simp [spec_l2Product.j0] at h
 | k + 1 => by
  have ih0 := spec_l2Product.mono_l k
  ·intro y0 y1 y2
   unfold spec_l2Product.j0
   repeat' first
   | (with_reducible exact ih0 _ _ _)
   | (with_reducible exact spec_l1Square.mono _ _)
   | (with_reducible exact LeO.refl _)
   | (with_reducible exact LeO.none _)
   | (with_reducible refine LeO.ite ?_ ?_)
   | (with_reducible refine LeO.bind ?_ (fun _ => ?_))
   | exact ih0 _ _ _
   | exact spec_l1Square.mono _ _
   | exact LeO.none _
   | refine LeO.ite ?_ ?_
   | refine LeO.bind ?_ (fun _ => ?_)
theorem spec_l2Product.mono : ∀ a0 a1 a2 k, LeO (spec_l2Product.f k a0 a1 a2) (spec_l2Product.f (k + 1) a0 a1 a2) := by
 intro a0 a1 a2 k
 have ih0 := spec_l2Product.mono_l k
 unfold spec_l2Product.f
 repeat' first
   | (with_reducible exact ih0 _ _ _)
   | (with_reducible exact spec_l1Square.mono _ _)
   | (with_reducible exact LeO.refl _)
   | (with_reducible exact LeO.none _)
   | (with_reducible refine LeO.ite ?_ ?_)
   | (with_reducible refine LeO.bind ?_ (fun _ => ?_))
   | exact ih0 _ _ _
   | exact spec_l1Square.mono _ _
   | exact LeO.none _
   | refine LeO.ite ?_ ?_
   | refine LeO.bind ?_ (fun _ => ?_)
set_option maxHeartbeats 8000000 in
set_option maxRecDepth 100000 in
theorem spec_l2Product.calls (k : Nat) (a0 : Int) (a1 : Int) (a2 : Int) (r : Int) (w : World) (h : spec_l2Product.f k a0 a1 a2 = some r) :
  Calls Try.prog 166 #[.int .i64 a0, .int .i64 a1, .int .i64 a2] w fun e w' => e = .returned (.int .i64 r) ∧ Drawn0 w w' := by
 have H : (if a0 = 1 then (if a2 = 0 then (spec_l2Product.j0 k a1 a2 false) else ((spec_l1Square.f k a2).bind fun t111 => (spec_l2Product.j0 k a1 a2 (!t111)))) else (if a0 = 2 then ((spec_l2Hall.f a1 a2 0 2).bind fun t115 => (some t115)) else (if a0 = 3 then ((spec_l2Hall.f a1 a2 1 1).bind fun t116 => (some t116)) else (if a0 = 4 then ((spec_l2Hall.f a1 a2 2 1).bind fun t117 => (some t117)) else ((spec_l1Times.f a1 a2).bind fun t118 => (some t118)))))) = some r := h
 clear h
 by_cases c4 : a0 = 1
 ·rw [if_pos c4] at H
  have c4b0 : (a0 == 1) = true := beq_iff_eq.mpr c4
  have c4b1 : (a0 != 1) = false := bne_eq_false_iff_eq.mpr c4
  clear c4
  have HC5 := Aside0.mk H
  clear H
  go_enter Try.func166, Try.ntmps166
  go_upto_region 3 with (fail)
  go_cut [16] (fun v16 wc => ∃ (kq : Nat) (x16_4 : Bool), v16 = .bool x16_4 ∧ Aside0 (spec_l2Product.j0 kq a1 a2 x16_4 = some r) ∧ Aside0 (kq ≤ k) ∧ Drawn0 w wc)
  case first =>
   have H := HC5.out
   clear HC5
   by_cases c6 : a2 = 0
   ·rw [if_pos c6] at H
    have c6b0 : (a2 == 0) = true := beq_iff_eq.mpr c6
    have c6b1 : (a2 != 0) = false := bne_eq_false_iff_eq.mpr c6
    clear c6
    (first | rw [c6b0] | (simp only [i64_w, i32_w]; rw [c6b0]) | skip)
    have H' := Aside0.mk H
    clear H
    go_wp2
    go_meet
    case rel => exact ⟨_, (false), (by first | rfl | (simp; done) | (simp [*]; done)), H', ⟨by first | omega | exact Nat.le_refl _⟩, by repeat (first | exact Drawn0.refl _ | apply Drawn0.step)⟩
   ·rw [if_neg c6] at H
    have c6b0 : (a2 == 0) = false := beq_eq_false_iff_ne.mpr c6
    have c6b1 : (a2 != 0) = true := bne_iff_ne.mpr c6
    (first | rw [c6b0] | (simp only [i64_w, i32_w]; rw [c6b0]) | skip)
    replace H := Option.bind_eq_some_iff.mp H
    obtain ⟨t111, A70, H⟩ := H
    replace H : (spec_l2Product.j0 k a1 a2 (!t111)) = some r := H
    have A7 := Aside0.mk A70
    clear A70
    have H' := Aside0.mk H
    clear H
    go_wp2_with (first | (go_at_call 190; (with_reducible refine (spec_l1Square.calls k a2 t111 _ A7.out).mono ?_); rintro e w' ⟨rfl, ⟨nd, rfl⟩⟩))
    go_meet
    case rel => exact ⟨_, (!t111), (by first | rfl | (simp; done) | (simp [*]; done)), H', ⟨by first | omega | exact Nat.le_refl _⟩, by repeat (first | exact Drawn0.refl _ | apply Drawn0.step)⟩
  case rest =>
   clear HC5
   try clear c1
   try clear p2
   try clear c4
   try clear c4b0
   try clear c4b1
   try clear c6
   try clear c6b0
   try clear c6b1
   obtain ⟨kq, x16_4, rfl, HA, HJ4, ⟨mc4, rfl⟩⟩ := hcut
   cases kq with
   | zero => exact absurd HA.out (by simp [spec_l2Product.j0])
   | succ kj4 =>
    have H := HA.out
    clear HA
    simp only [spec_l2Product.j0] at H
    by_cases c8 : x16_4 = true
    ·subst c8
     have H1 : ((spec_l1Cube.f a1).bind fun t112 => ((spec_l1Times.f t112 a2).bind fun t113 => (some t113))) = some r := by rw [if_pos rfl] at H; exact H
     clear H
     have H := H1
     clear H1
     replace H := Option.bind_eq_some_iff.mp H
     obtain ⟨t112, A90, H⟩ := H
     replace H : ((spec_l1Times.f t112 a2).bind fun t113 => (some t113)) = some r := H
     have A9 := Aside0.mk A90
     clear A90
     replace H := Option.bind_eq_some_iff.mp H
     obtain ⟨t113, A100, H⟩ := H
     replace H : (some t113) = some r := H
     have A10 := Aside0.mk A100
     clear A100
     obtain rfl := Option.some.inj H
     go_wp2_with (first | (refine goesL_ (some 18) rfl rfl Try.func192 (by kernel_rfl) rfl #[.int .i64 a1] rfl ll_ ?_; (with_reducible refine (spec_l1Cube.calls a1 t112 _ A9.out).mono ?_); rintro e w' ⟨rfl, ⟨nd, rfl⟩⟩; refine ⟨_, rfl, ?_⟩) | (refine goesL_ (some 20) rfl rfl Try.func191 (by kernel_rfl) rfl #[.int .i64 t112, .int .i64 a2] rfl ll_ ?_; (with_reducible refine (spec_l1Times.calls t112 a2 t113 _ A10.out).mono ?_); rintro e w' ⟨rfl, ⟨nd, rfl⟩⟩; refine ⟨_, rfl, ?_⟩))
     go_ret
     exact ⟨by first | rfl | (simp; done) | (simp [*]; done), by repeat (first | exact Drawn0.refl _ | apply Drawn0.step)⟩
    ·replace c8 := Bool.eq_false_iff.mpr c8
     subst c8
     have H1 : ((spec_l1Times.f a1 a2).bind fun t114 => (some t114)) = some r := by rw [if_neg (show ¬ (false = true) by decide)] at H; exact H
     clear H
     have H := H1
     clear H1
     replace H := Option.bind_eq_some_iff.mp H
     obtain ⟨t114, A110, H⟩ := H
     replace H : (some t114) = some r := H
     have A11 := Aside0.mk A110
     clear A110
     obtain rfl := Option.some.inj H
     go_wp2_with (first | (refine goesL_ (some 38) rfl rfl Try.func191 (by kernel_rfl) rfl #[.int .i64 a1, .int .i64 a2] rfl ll_ ?_; (with_reducible refine (spec_l1Times.calls a1 a2 t114 _ A11.out).mono ?_); rintro e w' ⟨rfl, ⟨nd, rfl⟩⟩; refine ⟨_, rfl, ?_⟩))
     go_ret
     exact ⟨by first | rfl | (simp; done) | (simp [*]; done), by repeat (first | exact Drawn0.refl _ | apply Drawn0.step)⟩
 ·rw [if_neg c4] at H
  have c4b0 : (a0 == 1) = false := beq_eq_false_iff_ne.mpr c4
  have c4b1 : (a0 != 1) = true := bne_iff_ne.mpr c4
  by_cases c12 : a0 = 2
  ·rw [if_pos c12] at H
   have c12b0 : (a0 == 2) = true := beq_iff_eq.mpr c12
   have c12b1 : (a0 != 2) = false := bne_eq_false_iff_eq.mpr c12
   clear c12
   replace H := Option.bind_eq_some_iff.mp H
   obtain ⟨t115, A130, H⟩ := H
   replace H : (some t115) = some r := H
   have A13 := Aside0.mk A130
   clear A130
   obtain rfl := Option.some.inj H
   go_enter Try.func166, Try.ntmps166
   go_wp2_with (first | (refine goesL_ (some 25) rfl rfl Try.func193 (by kernel_rfl) rfl #[.int .i64 a1, .int .i64 a2, .int .i64 0, .int .i64 2] rfl ll_ ?_; (with_reducible refine (spec_l2Hall.calls a1 a2 0 2 t115 _ A13.out).mono ?_); rintro e w' ⟨rfl, ⟨nd, rfl⟩⟩; refine ⟨_, rfl, ?_⟩))
   go_ret
   exact ⟨by first | rfl | (simp; done) | (simp [*]; done), by repeat (first | exact Drawn0.refl _ | apply Drawn0.step)⟩
  ·rw [if_neg c12] at H
   have c12b0 : (a0 == 2) = false := beq_eq_false_iff_ne.mpr c12
   have c12b1 : (a0 != 2) = true := bne_iff_ne.mpr c12
   by_cases c14 : a0 = 3
   ·rw [if_pos c14] at H
    have c14b0 : (a0 == 3) = true := beq_iff_eq.mpr c14
    have c14b1 : (a0 != 3) = false := bne_eq_false_iff_eq.mpr c14
    clear c14
    replace H := Option.bind_eq_some_iff.mp H
    obtain ⟨t116, A150, H⟩ := H
    replace H : (some t116) = some r := H
    have A15 := Aside0.mk A150
    clear A150
    obtain rfl := Option.some.inj H
    go_enter Try.func166, Try.ntmps166
    go_wp2_with (first | (refine goesL_ (some 30) rfl rfl Try.func193 (by kernel_rfl) rfl #[.int .i64 a1, .int .i64 a2, .int .i64 1, .int .i64 1] rfl ll_ ?_; (with_reducible refine (spec_l2Hall.calls a1 a2 1 1 t116 _ A15.out).mono ?_); rintro e w' ⟨rfl, ⟨nd, rfl⟩⟩; refine ⟨_, rfl, ?_⟩))
    go_ret
    exact ⟨by first | rfl | (simp; done) | (simp [*]; done), by repeat (first | exact Drawn0.refl _ | apply Drawn0.step)⟩
   ·rw [if_neg c14] at H
    have c14b0 : (a0 == 3) = false := beq_eq_false_iff_ne.mpr c14
    have c14b1 : (a0 != 3) = true := bne_iff_ne.mpr c14
    by_cases c16 : a0 = 4
    ·rw [if_pos c16] at H
     have c16b0 : (a0 == 4) = true := beq_iff_eq.mpr c16
     have c16b1 : (a0 != 4) = false := bne_eq_false_iff_eq.mpr c16
     clear c16
     replace H := Option.bind_eq_some_iff.mp H
     obtain ⟨t117, A170, H⟩ := H
     replace H : (some t117) = some r := H
     have A17 := Aside0.mk A170
     clear A170
     obtain rfl := Option.some.inj H
     go_enter Try.func166, Try.ntmps166
     go_wp2_with (first | (refine goesL_ (some 35) rfl rfl Try.func193 (by kernel_rfl) rfl #[.int .i64 a1, .int .i64 a2, .int .i64 2, .int .i64 1] rfl ll_ ?_; (with_reducible refine (spec_l2Hall.calls a1 a2 2 1 t117 _ A17.out).mono ?_); rintro e w' ⟨rfl, ⟨nd, rfl⟩⟩; refine ⟨_, rfl, ?_⟩))
     go_ret
     exact ⟨by first | rfl | (simp; done) | (simp [*]; done), by repeat (first | exact Drawn0.refl _ | apply Drawn0.step)⟩
    ·rw [if_neg c16] at H
     have c16b0 : (a0 == 4) = false := beq_eq_false_iff_ne.mpr c16
     have c16b1 : (a0 != 4) = true := bne_iff_ne.mpr c16
     replace H := Option.bind_eq_some_iff.mp H
     obtain ⟨t118, A180, H⟩ := H
     replace H : (some t118) = some r := H
     have A18 := Aside0.mk A180
     clear A180
     obtain rfl := Option.some.inj H
     go_enter Try.func166, Try.ntmps166
     go_wp2_with (first | (refine goesL_ (some 38) rfl rfl Try.func191 (by kernel_rfl) rfl #[.int .i64 a1, .int .i64 a2] rfl ll_ ?_; (with_reducible refine (spec_l1Times.calls a1 a2 t118 _ A18.out).mono ?_); rintro e w' ⟨rfl, ⟨nd, rfl⟩⟩; refine ⟨_, rfl, ?_⟩))
     go_ret
     exact ⟨by first | rfl | (simp; done) | (simp [*]; done), by repeat (first | exact Drawn0.refl _ | apply Drawn0.step)⟩
end Go.Proofs.Ytcbkoecanldlpaa.P
