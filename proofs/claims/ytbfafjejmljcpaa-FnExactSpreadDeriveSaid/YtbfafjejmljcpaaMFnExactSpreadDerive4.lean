/- The law FnExactSpreadDerive of the given program: for every input the call returns true, and each argument reads afterwards as it read before. No conditions. (Part 5 of 5; the last part holds the theorem.) -/
import Derived.Test.YtbfafjejmljcpaaMFnExactSpreadDerive0
import Derived.Test.YtbfafjejmljcpaaMFnExactSpreadDerive2
import Derived.Test.YtbfafjejmljcpaaMFnExactSpreadDerive3
import Derived.Test.YtbfafjejmljcpaaMFnExactSpreadDerive1
import Derived.WalkKit
import Derived.ProofKit
import Derived.OpenShut
import Derived.ChangeOld
import Derived.Deep.Matrix
import Derived.SizedLaws
import Derived.ChangeSlices
import Derived.Test.YtbfafjejmljcpaaRows
import Derived.ShutString
import Derived.Below
namespace Go.Proofs.Ytbfafjejmljcpaa.P
open Go.RowKit Go.Proofs.YtbfafjejmljcpaaW.PrintWords Go.Proofs.YtbfafjejmljcpaaW.PrintLast Go.Proofs.YtbfafjejmljcpaaW.PrintMore
set_option linter.unusedVariables false
set_option linter.unusedSimpArgs false

mutual
def spec_SpreadDerive.l0 : Nat → List (List Int) → List (List Int) → List (List Int) → Int → Option ((List (List Int)) × Bool)
 | 0, _, _, _, _ => none
 | k + 1, x0, x4, x5, x6 => if x6 < 10 then (spec_SpreadDerive.l1 k x0 x4 x5 x6 false 0) else (if (x5.length : Int) = 6 then ((some (([1, 3, 4, 5] : List Int) : List Int)).bind fun y546 => (spec_SpreadDerive.l2 k x5 y546 (y546.length : Int) 0)) else (some ((([] : List (List Int))), false)))
def spec_SpreadDerive.l1 : Nat → List (List Int) → List (List Int) → List (List Int) → Int → Bool → Int → Option ((List (List Int)) × Bool)
 | 0, _, _, _, _, _, _ => none
 | k + 1, x0, x4, x5, x6, x7, x8 => if x8 < 4 then (if x7 = true then (spec_SpreadDerive.l1 k x0 x4 x5 x6 true (wrap64 (x8 + 1))) else (if 0 ≤ x6 then (if x6 < (x0.length : Int) then (if 0 ≤ x8 then (if x8 < (x4.length : Int) then ((spec_l6lSame.f k (rd_LI x0 x6) (rd_LI x4 x8)).bind fun t532 => (spec_SpreadDerive.l1 k x0 x4 x5 x6 t532 (wrap64 (x8 + 1)))) else (none)) else (none)) else (none)) else (none))) else (if x7 = true then (spec_SpreadDerive.l0 k x0 x4 x5 (wrap64 (x6 + 1))) else ((some (([] : List Int) : List Int)).bind fun y533 => (if 0 ≤ x6 then (if x6 < (x0.length : Int) then (if y533.length + (rd_LI x0 x6).length < 17592186044416 then ((spec_l6lPut.f k x5 (y533 ++ (rd_LI x0 x6))).bind fun t540 => (spec_SpreadDerive.l0 k x0 x4 t540 (wrap64 (x6 + 1)))) else (none)) else (none)) else (none))))
def spec_SpreadDerive.l2 : Nat → List (List Int) → List Int → Int → Int → Option ((List (List Int)) × Bool)
 | 0, _, _, _, _ => none
 | k + 1, x5, x51, x52, x53 => if x53 < x52 then (if 0 ≤ x53 then (if x53 < (x51.length : Int) then ((spec_l6lOther.f k (rd x51 x53)).bind fun t550 => ((spec_l6lPut.f k x5 t550).bind fun t553 => (spec_SpreadDerive.l2 k t553 x51 x52 (wrap64 (x53 + 1))))) else (none)) else (none)) else (some (x5, true))
end
def spec_SpreadDerive.f (k : Nat) (l0 : List (List Int)) : Option ((List (List Int)) × Bool) := (spec_SpreadIn.f k l0).bind fun t520 => (if t520 = true then ((spec_l6lRegulus.f k).bind fun t524 => (spec_SpreadDerive.l0 k l0 t524 (([] : List (List Int))) 0)) else (some ((([] : List (List Int))), false)))
set_option maxHeartbeats 8000000 in
set_option maxRecDepth 100000 in
theorem spec_SpreadDerive.calls (k : Nat) (A0 : Option Addr) (c0 : Nat) (l0 : List (List Int)) (r1 : List (List Int)) (r2 : Bool) (w : World) (hr0 : Kd.C (Kd.slice 3 (Kd.int .i64)) w A0 l0.length l0) (hc0 : l0.length ≤ c0) (h : spec_SpreadDerive.f k l0 = some (r1, r2)) :
  Calls Try.prog 39 #[.slice A0 l0.length c0] w fun e w' => ∃ v0_ : Value, e = .returned (.tuple #[v0_, .bool r2]) ∧ Kd.N (Kd.slice 3 (Kd.int .i64)) 23 w' w.heap.size (fun k_ => (w.heap.size ≤ k_)) v0_ r1 ∧ Below w.heap.size w w' := by
 have HR0 := Aside0.mk hr0
 have HC0 := Aside0.mk hc0
 clear hr0 hc0
 have HB := Aside0.mk (Below.refl w.heap.size w)
 have H : ((spec_SpreadIn.f k l0).bind fun t520 => (if t520 = true then ((spec_l6lRegulus.f k).bind fun t524 => (spec_SpreadDerive.l0 k l0 t524 (([] : List (List Int))) 0)) else (some ((([] : List (List Int))), false)))) = some (r1, r2) := h
 clear h
 replace H := Option.bind_eq_some_iff.mp H
 obtain ⟨t520, A20, H⟩ := H
 replace H : (if t520 = true then ((spec_l6lRegulus.f k).bind fun t524 => (spec_SpreadDerive.l0 k l0 t524 (([] : List (List Int))) 0)) else (some ((([] : List (List Int))), false))) = some (r1, r2) := H
 have A2 := Aside0.mk A20
 clear A20
 by_cases c3 : t520 = true
 ·subst c3
  have H1 : ((spec_l6lRegulus.f k).bind fun t524 => (spec_SpreadDerive.l0 k l0 t524 (([] : List (List Int))) 0)) = some (r1, r2) := by rw [if_pos rfl] at H; exact H
  clear H
  have H := H1
  clear H1
  replace H := Option.bind_eq_some_iff.mp H
  obtain ⟨t524, A40, H⟩ := H
  replace H : (spec_SpreadDerive.l0 k l0 t524 (([] : List (List Int))) 0) = some (r1, r2) := H
  have A4 := Aside0.mk A40
  clear A40
  obtain ⟨y527, hy527⟩ : ∃ y_ : List (List Int), y_ = (([] : List (List Int))) := ⟨_, rfl⟩
  replace H : (spec_SpreadDerive.l0 k l0 t524 y527 0) = some (r1, r2) := by first | (rw [hy527]; with_reducible exact H) | (have H2_ := (Option.bind_some _ _).symm.trans H; rw [hy527]; with_reducible exact H2_) | (have H2_ := (Option.bind_some _ _).symm.trans H; with_reducible exact H2_) | with_reducible exact H | (rw [hy527]; exact H) | exact H
  have Ny527 := Aside0.mk hy527
  clear hy527
  have H' := Aside0.mk H
  clear H
  go_enter Try.func39, Try.ntmps39
  go_wp2_with (first | (go_at_call 53; (with_reducible refine (spec_SpreadIn.calls k _ _ l0 true _ ?side1 ?side2 A2.out).mono ?_); (case side1 => exact ss_ HR0); (case side2 => exact HC0.out); rintro e w5 ⟨rfl, hb⟩; have n0_ := Aside0.mk (below_step (bb_ HB) hb); clear HB; have HB := n0_; clear n0_; (try clear hb); (try clear hb2); (try clear hk); (try clear hi)) | (go_at_call 74; (with_reducible refine (spec_l6lRegulus.calls k  t524 _ A4.out).mono ?_); rintro e w6 ⟨v525, rfl, ho0, hb⟩; have n0_ := Aside0.mk (Kd.N_lower (Kd.N_mono (ok' := fun k_ => (w.heap.size ≤ k_)) ho0 (fun k_ hk_ => (Nat.le_trans (below_size (bb_ HB)) hk_))) (below_size (bb_ HB))); have n1_ := Aside0.mk (below_step (bb_ HB) hb); clear HB; have HO526 := n0_; have HB := n1_; clear n0_ n1_; (try clear hb); (try clear hb2); (try clear hk); (try clear hi); (try clear ho0)) | ((with_reducible refine gate_dst (N := 16) rfl ?_); refine Kd.N_lit (Kd.slice 3 (Kd.int .i64)) _ 23 ?hg (N' := 16) ?hd (xs := ([] : List (List Int))) (inner := []) (ok := (fun k_ => (w.heap.size ≤ k_) ∧ some k_ ≠ (v525 : Value).ownBlock)) (okp := (fun k_ => (w.heap.size ≤ k_) ∧ some k_ ≠ (v525 : Value).ownBlock)) ?hr ?hp (fun _ hk => hk) ((show ∀ k_, w6.heap.size ≤ k_ → (fun k_ => (w.heap.size ≤ k_) ∧ some k_ ≠ (v525 : Value).ownBlock) k_ from fun k_ hk => ⟨(Nat.le_trans (below_size (bb_ HB)) hk), Kd.fresh' (Kd.N_lt (by (with_reducible repeat (first | apply Kd.N_alloc | apply Kd.N_drewN | apply Kd.N_drew)); exact HO526.out)) k_ hk⟩) _ (Nat.le_refl _)) (Below.refl _ _) (Nat.le_refl _) (by simp) ?_; (case hd => rfl); (case hg => rfl); (case hr => first | (go_simp; done) | (go_simp; rfl)); (case hp => exact (Reps.none _ _)); intro v528 w7 ho8 hb hg_ hnew_; clear hg_ hnew_; (first | rw [← Ny527.out] at ho8 | (simp only [Int.reduceToNat] at ho8; rw [← Ny527.out] at ho8)); have n0_ := Aside0.mk (Kd.N_elder' (by (with_reducible repeat (first | apply Kd.N_alloc | apply Kd.N_drewN | apply Kd.N_drew)); exact HO526.out) (Kd.N_base ho8) hb); have n1_ := Aside0.mk (Kd.N_lower ho8 (below_size (bb_ HB))); have n2_ := Aside0.mk (below_step (bb_ HB) hb); clear HO526; clear HB; have HO526 := n0_; have HO529 := n1_; have HB := n2_; clear n0_ n1_ n2_; clear hb ho8))
  repeat (go_quiet (first | (go_at_call 53; (with_reducible refine (spec_SpreadIn.calls k _ _ l0 true _ ?side1 ?side2 A2.out).mono ?_); (case side1 => exact ss_ HR0); (case side2 => exact HC0.out); rintro e w5 ⟨rfl, hb⟩; have n0_ := Aside0.mk (below_step (bb_ HB) hb); clear HB; have HB := n0_; clear n0_; (try clear hb); (try clear hb2); (try clear hk); (try clear hi)) | (go_at_call 74; (with_reducible refine (spec_l6lRegulus.calls k  t524 _ A4.out).mono ?_); rintro e w6 ⟨v525, rfl, ho0, hb⟩; have n0_ := Aside0.mk (Kd.N_lower (Kd.N_mono (ok' := fun k_ => (w.heap.size ≤ k_)) ho0 (fun k_ hk_ => (Nat.le_trans (below_size (bb_ HB)) hk_))) (below_size (bb_ HB))); have n1_ := Aside0.mk (below_step (bb_ HB) hb); clear HB; have HO526 := n0_; have HB := n1_; clear n0_ n1_; (try clear hb); (try clear hb2); (try clear hk); (try clear hi); (try clear ho0)) | ((with_reducible refine gate_dst (N := 16) rfl ?_); refine Kd.N_lit (Kd.slice 3 (Kd.int .i64)) _ 23 ?hg (N' := 16) ?hd (xs := ([] : List (List Int))) (inner := []) (ok := (fun k_ => (w.heap.size ≤ k_) ∧ some k_ ≠ (v525 : Value).ownBlock)) (okp := (fun k_ => (w.heap.size ≤ k_) ∧ some k_ ≠ (v525 : Value).ownBlock)) ?hr ?hp (fun _ hk => hk) ((show ∀ k_, w6.heap.size ≤ k_ → (fun k_ => (w.heap.size ≤ k_) ∧ some k_ ≠ (v525 : Value).ownBlock) k_ from fun k_ hk => ⟨(Nat.le_trans (below_size (bb_ HB)) hk), Kd.fresh' (Kd.N_lt (by (with_reducible repeat (first | apply Kd.N_alloc | apply Kd.N_drewN | apply Kd.N_drew)); exact HO526.out)) k_ hk⟩) _ (Nat.le_refl _)) (Below.refl _ _) (Nat.le_refl _) (by simp) ?_; (case hd => rfl); (case hg => rfl); (case hr => first | (go_simp; done) | (go_simp; rfl)); (case hp => exact (Reps.none _ _)); intro v528 w7 ho8 hb hg_ hnew_; clear hg_ hnew_; (first | rw [← Ny527.out] at ho8 | (simp only [Int.reduceToNat] at ho8; rw [← Ny527.out] at ho8)); have n0_ := Aside0.mk (Kd.N_elder' (by (with_reducible repeat (first | apply Kd.N_alloc | apply Kd.N_drewN | apply Kd.N_drew)); exact HO526.out) (Kd.N_base ho8) hb); have n1_ := Aside0.mk (Kd.N_lower ho8 (below_size (bb_ HB))); have n2_ := Aside0.mk (below_step (bb_ HB) hb); clear HO526; clear HB; have HO526 := n0_; have HO529 := n1_; have HB := n2_; clear n0_ n1_ n2_; clear hb ho8)); try go_wp2_with (first | (go_at_call 53; (with_reducible refine (spec_SpreadIn.calls k _ _ l0 true _ ?side1 ?side2 A2.out).mono ?_); (case side1 => exact ss_ HR0); (case side2 => exact HC0.out); rintro e w5 ⟨rfl, hb⟩; have n0_ := Aside0.mk (below_step (bb_ HB) hb); clear HB; have HB := n0_; clear n0_; (try clear hb); (try clear hb2); (try clear hk); (try clear hi)) | (go_at_call 74; (with_reducible refine (spec_l6lRegulus.calls k  t524 _ A4.out).mono ?_); rintro e w6 ⟨v525, rfl, ho0, hb⟩; have n0_ := Aside0.mk (Kd.N_lower (Kd.N_mono (ok' := fun k_ => (w.heap.size ≤ k_)) ho0 (fun k_ hk_ => (Nat.le_trans (below_size (bb_ HB)) hk_))) (below_size (bb_ HB))); have n1_ := Aside0.mk (below_step (bb_ HB) hb); clear HB; have HO526 := n0_; have HB := n1_; clear n0_ n1_; (try clear hb); (try clear hb2); (try clear hk); (try clear hi); (try clear ho0)) | ((with_reducible refine gate_dst (N := 16) rfl ?_); refine Kd.N_lit (Kd.slice 3 (Kd.int .i64)) _ 23 ?hg (N' := 16) ?hd (xs := ([] : List (List Int))) (inner := []) (ok := (fun k_ => (w.heap.size ≤ k_) ∧ some k_ ≠ (v525 : Value).ownBlock)) (okp := (fun k_ => (w.heap.size ≤ k_) ∧ some k_ ≠ (v525 : Value).ownBlock)) ?hr ?hp (fun _ hk => hk) ((show ∀ k_, w6.heap.size ≤ k_ → (fun k_ => (w.heap.size ≤ k_) ∧ some k_ ≠ (v525 : Value).ownBlock) k_ from fun k_ hk => ⟨(Nat.le_trans (below_size (bb_ HB)) hk), Kd.fresh' (Kd.N_lt (by (with_reducible repeat (first | apply Kd.N_alloc | apply Kd.N_drewN | apply Kd.N_drew)); exact HO526.out)) k_ hk⟩) _ (Nat.le_refl _)) (Below.refl _ _) (Nat.le_refl _) (by simp) ?_; (case hd => rfl); (case hg => rfl); (case hr => first | (go_simp; done) | (go_simp; rfl)); (case hp => exact (Reps.none _ _)); intro v528 w7 ho8 hb hg_ hnew_; clear hg_ hnew_; (first | rw [← Ny527.out] at ho8 | (simp only [Int.reduceToNat] at ho8; rw [← Ny527.out] at ho8)); have n0_ := Aside0.mk (Kd.N_elder' (by (with_reducible repeat (first | apply Kd.N_alloc | apply Kd.N_drewN | apply Kd.N_drew)); exact HO526.out) (Kd.N_base ho8) hb); have n1_ := Aside0.mk (Kd.N_lower ho8 (below_size (bb_ HB))); have n2_ := Aside0.mk (below_step (bb_ HB) hb); clear HO526; clear HB; have HO526 := n0_; have HO529 := n1_; have HB := n2_; clear n0_ n1_ n2_; clear hb ho8)))
  go_loopg [5, 6] k (fun kq v5 v6 w' => ∃ (x5_1 : List (List Int)) (x6_1 : Int), v6 = .int .i64 x6_1 ∧ Aside0 (spec_SpreadDerive.l0 kq l0 t524 x5_1 x6_1 = some (r1, r2)) ∧ Aside0 (kq ≤ k) ∧ Aside0 (Kd.N (Kd.slice 3 (Kd.int .i64)) 23 w' w.heap.size (fun k_ => (w.heap.size ≤ k_) ∧ some k_ ≠ (v5 : Value).ownBlock) v525 t524) ∧ Aside0 (Kd.N (Kd.slice 3 (Kd.int .i64)) 23 w' w.heap.size (fun k_ => (w.heap.size ≤ k_) ∧ some k_ ≠ (v525 : Value).ownBlock) v5 x5_1) ∧ Aside0 (Below w.heap.size w w'))
  case atStart => exact ⟨(y527), (0), (by first | rfl | (simp; done) | (simp [*]; done)), H', ⟨Nat.le_refl _⟩, ⟨by (with_reducible repeat (first | apply Kd.N_alloc | apply Kd.N_drewN | apply Kd.N_drew)); exact HO526.out⟩, ⟨by (with_reducible repeat (first | apply Kd.N_alloc | apply Kd.N_drewN | apply Kd.N_drew)); exact HO529.out⟩, ⟨by repeat (first | (with_reducible first | exact HB.out | apply below_alloc | apply pw_below_drewN | apply below_drew1) | exact HB.out)⟩⟩
  case round =>
   clear H'
   try clear p2
   try clear c3
   obtain ⟨x5_1, x6_1, rfl, HA, HK1, HO_4, HO_5, HB⟩ := hrel
   cases gk with
   | zero => exact absurd HA.out (by simp [spec_SpreadDerive.l0])
   | succ k1 =>
    have H := HA.out
    clear HA
    simp only [spec_SpreadDerive.l0] at H
    by_cases c9 : x6_1 < 10
    ·rw [if_pos c9] at H
     have c9b0 : decide (x6_1 < 10) = true := decide_eq_true c9
     clear c9
     have H' := Aside0.mk H
     clear H
     go_wp2
     repeat (go_quiet (fail); try go_wp2)
     go_loopg [7, 8] k1 (fun kq v7 v8 w' => ∃ (x7_2 : Bool) (x8_2 : Int), v7 = .bool x7_2 ∧ v8 = .int .i64 x8_2 ∧ Aside0 (spec_SpreadDerive.l1 kq l0 t524 x5_1 x6_1 x7_2 x8_2 = some (r1, r2)) ∧ Aside0 (kq ≤ k1) ∧ Aside0 (Kd.N (Kd.slice 3 (Kd.int .i64)) 23 w' w.heap.size (fun k_ => (w.heap.size ≤ k_) ∧ some k_ ≠ (u5 : Value).ownBlock) v525 t524) ∧ Aside0 (Kd.N (Kd.slice 3 (Kd.int .i64)) 23 w' w.heap.size (fun k_ => (w.heap.size ≤ k_) ∧ some k_ ≠ (v525 : Value).ownBlock) u5 x5_1) ∧ Aside0 (Below w.heap.size w w'))
     case atStart => exact ⟨(false), (0), (by first | rfl | (simp; done) | (simp [*]; done)), (by first | rfl | (simp; done) | (simp [*]; done)), H', ⟨Nat.le_refl _⟩, ⟨by (with_reducible repeat (first | apply Kd.N_alloc | apply Kd.N_drewN | apply Kd.N_drew)); exact HO_4.out⟩, ⟨by (with_reducible repeat (first | apply Kd.N_alloc | apply Kd.N_drewN | apply Kd.N_drew)); exact HO_5.out⟩, ⟨by repeat (first | (with_reducible first | exact HB.out | apply below_alloc | apply pw_below_drewN | apply below_drew1) | exact HB.out)⟩⟩
     case round =>
      clear H'
      try clear p2
      try clear c3
      try clear c9
      try clear c9b0
      try clear p2
      obtain ⟨x7_2, x8_2, rfl, rfl, HA, HK2, HO_4, HO_5, HB⟩ := hrel
      cases gk with
      | zero => exact absurd HA.out (by simp [spec_SpreadDerive.l1])
      | succ k2 =>
       have H := HA.out
       clear HA
       simp only [spec_SpreadDerive.l1] at H
       by_cases c10 : x8_2 < 4
       ·rw [if_pos c10] at H
        have c10b0 : decide (x8_2 < 4) = true := decide_eq_true c10
        clear c10
        by_cases c11 : x7_2 = true
        ·subst c11
         have H1 : (spec_SpreadDerive.l1 k2 l0 t524 x5_1 x6_1 true (wrap64 (x8_2 + 1))) = some (r1, r2) := by rw [if_pos rfl] at H; exact H
         clear H
         have H := H1
         clear H1
         have H' := Aside0.mk H
         clear H
         go_wp2
         repeat (go_quiet (fail); try go_wp2)
         go_roundg k2
         case measure => have := HK1.out; have := HK2.out; omega
         case rel => exact ⟨(true), (wrap64 (x8_2 + 1)), (by first | rfl | (simp; done) | (simp [*]; done)), (by first | rfl | (simp; done) | (simp [*]; done)), H', ⟨by have := HK1.out; have := HK2.out; omega⟩, ⟨by (with_reducible repeat (first | apply Kd.N_alloc | apply Kd.N_drewN | apply Kd.N_drew)); exact HO_4.out⟩, ⟨by (with_reducible repeat (first | apply Kd.N_alloc | apply Kd.N_drewN | apply Kd.N_drew)); exact HO_5.out⟩, ⟨by repeat (first | (with_reducible first | exact HB.out | apply below_alloc | apply pw_below_drewN | apply below_drew1) | exact HB.out)⟩⟩
        ·replace c11 := Bool.eq_false_iff.mpr c11
         subst c11
         have H1 : (if 0 ≤ x6_1 then (if x6_1 < (l0.length : Int) then (if 0 ≤ x8_2 then (if x8_2 < (t524.length : Int) then ((spec_l6lSame.f k2 (rd_LI l0 x6_1) (rd_LI t524 x8_2)).bind fun t532 => (spec_SpreadDerive.l1 k2 l0 t524 x5_1 x6_1 t532 (wrap64 (x8_2 + 1)))) else (none)) else (none)) else (none)) else (none)) = some (r1, r2) := by rw [if_neg (show ¬ (false = true) by decide)] at H; exact H
         clear H
         have H := H1
         clear H1
         by_cases c12 : 0 ≤ x6_1
         ·rw [if_pos c12] at H
          have c12b0 : decide (0 ≤ x6_1) = true := decide_eq_true c12
          clear c12
          by_cases c13 : x6_1 < (l0.length : Int)
          ·rw [if_pos c13] at H
           have c13b0 : decide (x6_1 < (l0.length : Int)) = true := decide_eq_true c13
           clear c13
           by_cases c14 : 0 ≤ x8_2
           ·rw [if_pos c14] at H
            have c14b0 : decide (0 ≤ x8_2) = true := decide_eq_true c14
            clear c14
            by_cases c15 : x8_2 < (t524.length : Int)
            ·rw [if_pos c15] at H
             have c15b0 : decide (x8_2 < (t524.length : Int)) = true := decide_eq_true c15
             clear c15
             replace H := Option.bind_eq_some_iff.mp H
             obtain ⟨t532, A160, H⟩ := H
             replace H : (spec_SpreadDerive.l1 k2 l0 t524 x5_1 x6_1 t532 (wrap64 (x8_2 + 1))) = some (r1, r2) := H
             have A16 := Aside0.mk A160
             clear A160
             have H' := Aside0.mk H
             clear H
             have p530 : 0 ≤ (x6_1 : Int) := dd_
             have q530 : x6_1 < (l0.length : Int) := dd_
             obtain ⟨ad530, A530_0, c530_0, e530, hx530_0, hl530_0, hi530_0⟩ := at_LI HR0.out x6_1 p530 q530
             cases e530
             replace hx530_0 := hc_ HB hx530_0
             have HR530_0 := Aside0.mk hi530_0
             have HC530_0 := Aside0.mk hl530_0
             clear hi530_0 hl530_0
             replace p530 := eq_true p530
             replace q530 := eq_true q530
             obtain ⟨Ao17, co17, eo17⟩ := Kd.N_slice HO_4.out
             subst eo17
             have p531 : 0 ≤ (x8_2 : Int) := dd_
             have q531 : x8_2 < (t524.length : Int) := dd_
             obtain ⟨ad531, A531_0, c531_0, e531, hx531_0, hl531_0, hi531_0⟩ := at_LI (Kd.N_reads' HO_4.out).2.2 x8_2 p531 q531
             cases e531
             obtain ⟨ce531, hce531, hMe531, hcc531⟩ := Kd.N_get HO_4.out [] x8_2 p531 (by first | exact q531 | exact dd_ | (have e_ := (Kd.N_reads' HO_4.out).1; omega))
             obtain ⟨ua531_0, uc531_0, rfl, ul531_0, ge531_0⟩ := Kd.FK_slice_open hMe531
             have hv531_0 := hcc531 0 _ rfl
             rw [Nat.add_zero, show ((Kd.slice 3 (Kd.int .i64))).sz = 1 from rfl, Nat.mul_one] at hv531_0
             replace hv531_0 := Option.some.inj (hv531_0.symm.trans hx531_0)
             injection hv531_0 with hva_ hvn_ hvc_
             rw [hva_] at ge531_0
             rw [hvc_] at ul531_0
             have HL531_0 := Aside0.mk (show Kd.V (Kd.int .i64) 3 _ w.heap.size _ _ (rd_LI t524 x8_2) from Kd.V_mk ul531_0 ge531_0)
             clear hva_ hvn_ hvc_ ge531_0 ul531_0
             clear hcc531 hce531
             have HR531_0 := Aside0.mk hi531_0
             have HC531_0 := Aside0.mk hl531_0
             clear hi531_0 hl531_0
             replace p531 := eq_true p531
             replace q531 := eq_true q531
             go_wp2_with (first | (go_at_call 54; (with_reducible refine (spec_l6lSame.calls k2 _ _ (rd_LI l0 x6_1) _ _ (rd_LI t524 x8_2) t532 _ ?side1 ?side2 ?side3 ?side4 A16.out).mono ?_); (case side1 => exact sb_ HR530_0 HB); (case side2 => exact HC530_0.out); (case side3 => repeat (first | exact (by repeat (first | (with_reducible exact HR531_0.out) | (with_reducible refine Kd.C_alloc ?_ _) | (with_reducible refine Kd.C_drewN ?_ _) | (with_reducible refine Kd.C_drew ?_) | exact HR531_0.out)) | (with_reducible refine Kd.C_alloc ?_ _) | (with_reducible refine Kd.C_drewN ?_ _) | (with_reducible refine Kd.C_drew ?_))); (case side4 => exact HC531_0.out); rintro e w' ⟨rfl, ⟨nd, rfl⟩⟩; (try first | exact ⟨rfl, _, World.drewN_drewN _ _ _⟩ | exact ⟨rfl, _, Eq.trans (World.drewN_drewN _ _ _) (congrArg (World.drewN _) (Nat.add_assoc _ _ _))⟩)))
             repeat (go_quiet (first | (go_at_call 54; (with_reducible refine (spec_l6lSame.calls k2 _ _ (rd_LI l0 x6_1) _ _ (rd_LI t524 x8_2) t532 _ ?side1 ?side2 ?side3 ?side4 A16.out).mono ?_); (case side1 => exact sb_ HR530_0 HB); (case side2 => exact HC530_0.out); (case side3 => repeat (first | exact (by repeat (first | (with_reducible exact HR531_0.out) | (with_reducible refine Kd.C_alloc ?_ _) | (with_reducible refine Kd.C_drewN ?_ _) | (with_reducible refine Kd.C_drew ?_) | exact HR531_0.out)) | (with_reducible refine Kd.C_alloc ?_ _) | (with_reducible refine Kd.C_drewN ?_ _) | (with_reducible refine Kd.C_drew ?_))); (case side4 => exact HC531_0.out); rintro e w' ⟨rfl, ⟨nd, rfl⟩⟩; (try first | exact ⟨rfl, _, World.drewN_drewN _ _ _⟩ | exact ⟨rfl, _, Eq.trans (World.drewN_drewN _ _ _) (congrArg (World.drewN _) (Nat.add_assoc _ _ _))⟩))); try go_wp2_with (first | (go_at_call 54; (with_reducible refine (spec_l6lSame.calls k2 _ _ (rd_LI l0 x6_1) _ _ (rd_LI t524 x8_2) t532 _ ?side1 ?side2 ?side3 ?side4 A16.out).mono ?_); (case side1 => exact sb_ HR530_0 HB); (case side2 => exact HC530_0.out); (case side3 => repeat (first | exact (by repeat (first | (with_reducible exact HR531_0.out) | (with_reducible refine Kd.C_alloc ?_ _) | (with_reducible refine Kd.C_drewN ?_ _) | (with_reducible refine Kd.C_drew ?_) | exact HR531_0.out)) | (with_reducible refine Kd.C_alloc ?_ _) | (with_reducible refine Kd.C_drewN ?_ _) | (with_reducible refine Kd.C_drew ?_))); (case side4 => exact HC531_0.out); rintro e w' ⟨rfl, ⟨nd, rfl⟩⟩; (try first | exact ⟨rfl, _, World.drewN_drewN _ _ _⟩ | exact ⟨rfl, _, Eq.trans (World.drewN_drewN _ _ _) (congrArg (World.drewN _) (Nat.add_assoc _ _ _))⟩))))
             go_roundg k2
             case measure => have := HK1.out; have := HK2.out; omega
             case rel => exact ⟨(t532), (wrap64 (x8_2 + 1)), (by first | rfl | (simp; done) | (simp [*]; done)), (by first | rfl | (simp; done) | (simp [*]; done)), H', ⟨by have := HK1.out; have := HK2.out; omega⟩, ⟨by (with_reducible repeat (first | apply Kd.N_alloc | apply Kd.N_drewN | apply Kd.N_drew)); exact HO_4.out⟩, ⟨by (with_reducible repeat (first | apply Kd.N_alloc | apply Kd.N_drewN | apply Kd.N_drew)); exact HO_5.out⟩, ⟨by repeat (first | (with_reducible first | exact HB.out | apply below_alloc | apply pw_below_drewN | apply below_drew1) | exact HB.out)⟩⟩
            ·rw [if_neg c15] at H
             exact absurd H (by simp)
           ·rw [if_neg c14] at H
            exact absurd H (by simp)
          ·rw [if_neg c13] at H
           exact absurd H (by simp)
         ·rw [if_neg c12] at H
          exact absurd H (by simp)
       ·rw [if_neg c10] at H
        have c10b0 : decide (x8_2 < 4) = false := decide_eq_false c10
        clear c10
        by_cases c18 : x7_2 = true
        ·subst c18
         have H1 : (spec_SpreadDerive.l0 k2 l0 t524 x5_1 (wrap64 (x6_1 + 1))) = some (r1, r2) := by rw [if_pos rfl] at H; exact H
         clear H
         have H := H1
         clear H1
         have H' := Aside0.mk H
         clear H
         go_wp2
         repeat (go_quiet (fail); try go_wp2)
         go_roundg k2
         case measure => have := HK1.out; have := HK2.out; omega
         case rel => exact ⟨(x5_1), (wrap64 (x6_1 + 1)), (by first | rfl | (simp; done) | (simp [*]; done)), H', ⟨by have := HK1.out; have := HK2.out; omega⟩, ⟨by (with_reducible repeat (first | apply Kd.N_alloc | apply Kd.N_drewN | apply Kd.N_drew)); exact HO_4.out⟩, ⟨by (with_reducible repeat (first | apply Kd.N_alloc | apply Kd.N_drewN | apply Kd.N_drew)); exact HO_5.out⟩, ⟨by repeat (first | (with_reducible first | exact HB.out | apply below_alloc | apply pw_below_drewN | apply below_drew1) | exact HB.out)⟩⟩
        ·replace c18 := Bool.eq_false_iff.mpr c18
         subst c18
         have H1 : ((some (([] : List Int) : List Int)).bind fun y533 => (if 0 ≤ x6_1 then (if x6_1 < (l0.length : Int) then (if y533.length + (rd_LI l0 x6_1).length < 17592186044416 then ((spec_l6lPut.f k2 x5_1 (y533 ++ (rd_LI l0 x6_1))).bind fun t540 => (spec_SpreadDerive.l0 k2 l0 t524 t540 (wrap64 (x6_1 + 1)))) else (none)) else (none)) else (none))) = some (r1, r2) := by rw [if_neg (show ¬ (false = true) by decide)] at H; exact H
         clear H
         have H := H1
         clear H1
         obtain ⟨y533, hy533⟩ : ∃ y_ : List Int, y_ = (([] : List Int)) := ⟨_, rfl⟩
         replace H : (if 0 ≤ x6_1 then (if x6_1 < (l0.length : Int) then (if y533.length + (rd_LI l0 x6_1).length < 17592186044416 then ((spec_l6lPut.f k2 x5_1 (y533 ++ (rd_LI l0 x6_1))).bind fun t540 => (spec_SpreadDerive.l0 k2 l0 t524 t540 (wrap64 (x6_1 + 1)))) else (none)) else (none)) else (none)) = some (r1, r2) := by first | (rw [hy533]; with_reducible exact H) | (have H2_ := (Option.bind_some _ _).symm.trans H; rw [hy533]; with_reducible exact H2_) | (have H2_ := (Option.bind_some _ _).symm.trans H; with_reducible exact H2_) | with_reducible exact H | (rw [hy533]; exact H) | exact H
         have Ny533 := Aside0.mk hy533
         clear hy533
         by_cases c19 : 0 ≤ x6_1
         ·rw [if_pos c19] at H
          have c19b0 : decide (0 ≤ x6_1) = true := decide_eq_true c19
          clear c19
          by_cases c20 : x6_1 < (l0.length : Int)
          ·rw [if_pos c20] at H
           have c20b0 : decide (x6_1 < (l0.length : Int)) = true := decide_eq_true c20
           clear c20
           by_cases c21 : y533.length + (rd_LI l0 x6_1).length < 17592186044416
           ·rw [if_pos c21] at H
            have LMc21 := Aside0.mk c21
            clear c21
            obtain ⟨y537, hy537⟩ : ∃ y_ : List Int, y_ = (y533 ++ (rd_LI l0 x6_1)) := ⟨_, rfl⟩
            replace H : ((spec_l6lPut.f k2 x5_1 y537).bind fun t540 => (spec_SpreadDerive.l0 k2 l0 t524 t540 (wrap64 (x6_1 + 1)))) = some (r1, r2) := by first | (rw [hy537]; with_reducible exact H) | (have H2_ := (Option.bind_some _ _).symm.trans H; rw [hy537]; with_reducible exact H2_) | (have H2_ := (Option.bind_some _ _).symm.trans H; with_reducible exact H2_) | with_reducible exact H | (rw [hy537]; exact H) | exact H
            have Ny537 := Aside0.mk hy537
            clear hy537
            replace H := Option.bind_eq_some_iff.mp H
            obtain ⟨t540, A220, H⟩ := H
            replace H : (spec_SpreadDerive.l0 k2 l0 t524 t540 (wrap64 (x6_1 + 1))) = some (r1, r2) := H
            have A22 := Aside0.mk A220
            clear A220
            have H' := Aside0.mk H
            clear H
            go_wp2_with (first | ((with_reducible refine gate_dst (N := 40) rfl ?_); refine Kd.R_lit (Kd.int .i64) _ 3 ?hg (N := 40) ?hd (xs := ([] : List Int)) (inner := []) (ok := fun _ => True) (okp := fun _ => True) ?hr ?hp (fun _ hk => hk) trivial (Below.refl _ _) (Nat.le_refl _) (by simp) ?_; (case hd => rfl); (case hg => rfl); (case hr => first | (go_simp; done) | (go_simp; rfl)); (case hp => exact (Reps.none _ _)); intro v534 w23 ho24 hb hg_ hnew_; clear hg_ hnew_; (first | rw [← Ny533.out] at ho24 | (simp only [Int.reduceToNat] at ho24; rw [← Ny533.out] at ho24)); have n0_ := Aside0.mk (Kd.N_elder' (by (with_reducible repeat (first | apply Kd.N_alloc | apply Kd.N_drewN | apply Kd.N_drew)); exact HO_4.out) (Kd.R_base ho24) hb); have n1_ := Aside0.mk (Kd.N_elder' (by (with_reducible repeat (first | apply Kd.N_alloc | apply Kd.N_drewN | apply Kd.N_drew)); exact HO_5.out) (Kd.R_base ho24) hb); have n2_ := Aside0.mk (Kd.R_lower (Kd.R_newM (M := fun k_ => (w.heap.size ≤ k_)) ho24 (below_size (bb_ HB)) (fun k_ h_ => h_)) (below_size (bb_ HB))); have n3_ := Aside0.mk (below_step (bb_ HB) hb); clear HO_4; clear HO_5; clear HB; have HO_4 := n0_; have HO_5 := n1_; have HO535 := n2_; have HB := n3_; clear n0_ n1_ n2_ n3_; clear hb ho24; have p536 : 0 ≤ (x6_1 : Int) := dd_; have q536 : x6_1 < (l0.length : Int) := dd_; obtain ⟨ad536, A536_0, c536_0, e536, hx536_0, hl536_0, hi536_0⟩ := at_LI HR0.out x6_1 p536 q536; cases e536; replace hx536_0 := hc_ HB hx536_0; have HR536_0 := Aside0.mk hi536_0; have HC536_0 := Aside0.mk hl536_0; clear hi536_0 hl536_0; replace p536 := eq_true p536; replace q536 := eq_true q536) | (at_builtin; refine Kd.R_append_rows (Kd.int .i64) (w0 := w) w.heap.size rfl (.tmp 40) (.tmp 44) 23 3 (.int .i64 0) 8 rfl Try.underlying23 info3 rfl (by decide) (by omega) v534 y533 (rd_LI l0 x6_1) _ _ _ (fun k_ => (w.heap.size ≤ k_)) (fun _ => False) rfl rfl ?aO ?aR (fun _ _ h => h) (fun _ h => h.elim) ?aF ?aB ?aS ?aL ?_; (case aR => exact sb_ HR536_0 HB); (case aB => exact (bb_ HB)); (case aF => exact (fun k_ hk => (Nat.le_trans (below_size (bb_ HB)) hk))); (case aO => exact (by (with_reducible repeat (first | apply Kd.R_alloc | apply Kd.R_drewN | apply Kd.R_drew)); exact Kd.R_mono HO535.out (fun _ hk => hk.1))); (case aS => exact (below_size (bb_ HB))); (case aL => have := LMc21.out; omega); intro v538 w25 ho hb hg hat; rw [← Ny537.out] at ho; have n0_ := Aside0.mk (Kd.N_afterv (ok := (fun k_ => (w.heap.size ≤ k_) ∧ some k_ ≠ (u5 : Value).ownBlock)) (by (with_reducible repeat (first | apply Kd.N_alloc | apply Kd.N_drewN | apply Kd.N_drew)); exact HO_4.out) hg hat); have n1_ := Aside0.mk (Kd.N_afterv (ok := (fun k_ => (w.heap.size ≤ k_) ∧ some k_ ≠ (v525 : Value).ownBlock)) (by (with_reducible repeat (first | apply Kd.N_alloc | apply Kd.N_drewN | apply Kd.N_drew)); exact HO_5.out) hg hat); have n2_ := Aside0.mk (hb); have n3_ := Aside0.mk (ho); clear HO_4; clear HO_5; clear HB; clear HO535; have HO_4 := n0_; have HO_5 := n1_; have HB := n2_; have HO539 := n3_; clear n0_ n1_ n2_ n3_; clear ho hb hg hat; obtain ⟨Ao26, co26, eo26⟩ := Kd.N_slice HO_5.out; subst eo26; obtain ⟨Ao27, co27, eo27⟩ := Kd.R_slice HO539.out; subst eo27) | (go_at_call 65; (with_reducible refine (spec_l6lPut.calls k2 (fun k_ => (((w.heap.size ≤ k_) ∧ some k_ ≠ (v525 : Value).ownBlock) ∧ some k_ ≠ (.slice Ao27 y537.length co27 : Value).ownBlock)) _ _ x5_1 (fun k_ => some k_ = (.slice Ao27 y537.length co27 : Value).ownBlock) _ _ y537 t540 _ ?side1 ?side2 A22.out).mono ?_); (case side1 => exact Kd.N_V (HO_5.out)); (case side2 => exact Kd.R_V (Kd.R_tight rfl (Kd.R_apart' (Kd.R_apart' (HO539.out) (Kd.N_typed HO_4.out) (by decide)) (Kd.N_typed HO_5.out) (by decide)))); rintro e w28 ⟨v541, rfl, ho0, hb⟩; have n0_ := Aside0.mk (Kd.N_elder' (by (with_reducible repeat (first | apply Kd.N_alloc | apply Kd.N_drewN | apply Kd.N_drew)); exact HO_4.out) (Kd.N_base ho0) hb); have n1_ := Aside0.mk (Kd.N_elder' (by (with_reducible repeat (first | apply Kd.N_alloc | apply Kd.N_drewN | apply Kd.N_drew)); exact HO_5.out) (Kd.N_base ho0) hb); have n2_ := Aside0.mk (Kd.R_below (rr_ HO539) hb); have n3_ := Aside0.mk (Kd.N_lower (Kd.N_mono (ok' := fun k_ => (w.heap.size ≤ k_) ∧ some k_ ≠ (v525 : Value).ownBlock) ho0 (fun k_ hk_ => ⟨Or.elim hk_ (fun hs_ => Or.elim hs_ (fun hs_ => hs_.1.1) (fun hs_ => ((Kd.R_apart' (Kd.R_apart' (HO539.out) (Kd.N_typed HO_4.out) (by decide)) (Kd.N_typed HO_5.out) (by decide)).1 k_ hs_.symm).1.1)) (fun hn_ => (Nat.le_trans (below_size (bb_ HB)) hn_)), Or.elim hk_ (fun hs_ => Or.elim hs_ (fun hs_ => hs_.1.2) (fun hs_ => ((Kd.R_apart' (Kd.R_apart' (HO539.out) (Kd.N_typed HO_4.out) (by decide)) (Kd.N_typed HO_5.out) (by decide)).1 k_ hs_.symm).1.2)) (fun hn_ => (Kd.fresh' (Kd.N_lt (by (with_reducible repeat (first | apply Kd.N_alloc | apply Kd.N_drewN | apply Kd.N_drew)); exact HO_4.out)) k_ hn_))⟩)) (below_size (bb_ HB))); have n4_ := Aside0.mk (below_step (bb_ HB) hb); clear HO_4; clear HO_5; clear HO539; clear HB; have HO_4 := n0_; have HO_5 := n1_; have HO539 := n2_; have HO542 := n3_; have HB := n4_; clear n0_ n1_ n2_ n3_ n4_; (try clear hb); (try clear hb2); (try clear hk); (try clear hi); (try clear ho0)))
            repeat (go_quiet (first | ((with_reducible refine gate_dst (N := 40) rfl ?_); refine Kd.R_lit (Kd.int .i64) _ 3 ?hg (N := 40) ?hd (xs := ([] : List Int)) (inner := []) (ok := fun _ => True) (okp := fun _ => True) ?hr ?hp (fun _ hk => hk) trivial (Below.refl _ _) (Nat.le_refl _) (by simp) ?_; (case hd => rfl); (case hg => rfl); (case hr => first | (go_simp; done) | (go_simp; rfl)); (case hp => exact (Reps.none _ _)); intro v534 w23 ho24 hb hg_ hnew_; clear hg_ hnew_; (first | rw [← Ny533.out] at ho24 | (simp only [Int.reduceToNat] at ho24; rw [← Ny533.out] at ho24)); have n0_ := Aside0.mk (Kd.N_elder' (by (with_reducible repeat (first | apply Kd.N_alloc | apply Kd.N_drewN | apply Kd.N_drew)); exact HO_4.out) (Kd.R_base ho24) hb); have n1_ := Aside0.mk (Kd.N_elder' (by (with_reducible repeat (first | apply Kd.N_alloc | apply Kd.N_drewN | apply Kd.N_drew)); exact HO_5.out) (Kd.R_base ho24) hb); have n2_ := Aside0.mk (Kd.R_lower (Kd.R_newM (M := fun k_ => (w.heap.size ≤ k_)) ho24 (below_size (bb_ HB)) (fun k_ h_ => h_)) (below_size (bb_ HB))); have n3_ := Aside0.mk (below_step (bb_ HB) hb); clear HO_4; clear HO_5; clear HB; have HO_4 := n0_; have HO_5 := n1_; have HO535 := n2_; have HB := n3_; clear n0_ n1_ n2_ n3_; clear hb ho24; have p536 : 0 ≤ (x6_1 : Int) := dd_; have q536 : x6_1 < (l0.length : Int) := dd_; obtain ⟨ad536, A536_0, c536_0, e536, hx536_0, hl536_0, hi536_0⟩ := at_LI HR0.out x6_1 p536 q536; cases e536; replace hx536_0 := hc_ HB hx536_0; have HR536_0 := Aside0.mk hi536_0; have HC536_0 := Aside0.mk hl536_0; clear hi536_0 hl536_0; replace p536 := eq_true p536; replace q536 := eq_true q536) | (at_builtin; refine Kd.R_append_rows (Kd.int .i64) (w0 := w) w.heap.size rfl (.tmp 40) (.tmp 44) 23 3 (.int .i64 0) 8 rfl Try.underlying23 info3 rfl (by decide) (by omega) v534 y533 (rd_LI l0 x6_1) _ _ _ (fun k_ => (w.heap.size ≤ k_)) (fun _ => False) rfl rfl ?aO ?aR (fun _ _ h => h) (fun _ h => h.elim) ?aF ?aB ?aS ?aL ?_; (case aR => exact sb_ HR536_0 HB); (case aB => exact (bb_ HB)); (case aF => exact (fun k_ hk => (Nat.le_trans (below_size (bb_ HB)) hk))); (case aO => exact (by (with_reducible repeat (first | apply Kd.R_alloc | apply Kd.R_drewN | apply Kd.R_drew)); exact Kd.R_mono HO535.out (fun _ hk => hk.1))); (case aS => exact (below_size (bb_ HB))); (case aL => have := LMc21.out; omega); intro v538 w25 ho hb hg hat; rw [← Ny537.out] at ho; have n0_ := Aside0.mk (Kd.N_afterv (ok := (fun k_ => (w.heap.size ≤ k_) ∧ some k_ ≠ (u5 : Value).ownBlock)) (by (with_reducible repeat (first | apply Kd.N_alloc | apply Kd.N_drewN | apply Kd.N_drew)); exact HO_4.out) hg hat); have n1_ := Aside0.mk (Kd.N_afterv (ok := (fun k_ => (w.heap.size ≤ k_) ∧ some k_ ≠ (v525 : Value).ownBlock)) (by (with_reducible repeat (first | apply Kd.N_alloc | apply Kd.N_drewN | apply Kd.N_drew)); exact HO_5.out) hg hat); have n2_ := Aside0.mk (hb); have n3_ := Aside0.mk (ho); clear HO_4; clear HO_5; clear HB; clear HO535; have HO_4 := n0_; have HO_5 := n1_; have HB := n2_; have HO539 := n3_; clear n0_ n1_ n2_ n3_; clear ho hb hg hat; obtain ⟨Ao26, co26, eo26⟩ := Kd.N_slice HO_5.out; subst eo26; obtain ⟨Ao27, co27, eo27⟩ := Kd.R_slice HO539.out; subst eo27) | (go_at_call 65; (with_reducible refine (spec_l6lPut.calls k2 (fun k_ => (((w.heap.size ≤ k_) ∧ some k_ ≠ (v525 : Value).ownBlock) ∧ some k_ ≠ (.slice Ao27 y537.length co27 : Value).ownBlock)) _ _ x5_1 (fun k_ => some k_ = (.slice Ao27 y537.length co27 : Value).ownBlock) _ _ y537 t540 _ ?side1 ?side2 A22.out).mono ?_); (case side1 => exact Kd.N_V (HO_5.out)); (case side2 => exact Kd.R_V (Kd.R_tight rfl (Kd.R_apart' (Kd.R_apart' (HO539.out) (Kd.N_typed HO_4.out) (by decide)) (Kd.N_typed HO_5.out) (by decide)))); rintro e w28 ⟨v541, rfl, ho0, hb⟩; have n0_ := Aside0.mk (Kd.N_elder' (by (with_reducible repeat (first | apply Kd.N_alloc | apply Kd.N_drewN | apply Kd.N_drew)); exact HO_4.out) (Kd.N_base ho0) hb); have n1_ := Aside0.mk (Kd.N_elder' (by (with_reducible repeat (first | apply Kd.N_alloc | apply Kd.N_drewN | apply Kd.N_drew)); exact HO_5.out) (Kd.N_base ho0) hb); have n2_ := Aside0.mk (Kd.R_below (rr_ HO539) hb); have n3_ := Aside0.mk (Kd.N_lower (Kd.N_mono (ok' := fun k_ => (w.heap.size ≤ k_) ∧ some k_ ≠ (v525 : Value).ownBlock) ho0 (fun k_ hk_ => ⟨Or.elim hk_ (fun hs_ => Or.elim hs_ (fun hs_ => hs_.1.1) (fun hs_ => ((Kd.R_apart' (Kd.R_apart' (HO539.out) (Kd.N_typed HO_4.out) (by decide)) (Kd.N_typed HO_5.out) (by decide)).1 k_ hs_.symm).1.1)) (fun hn_ => (Nat.le_trans (below_size (bb_ HB)) hn_)), Or.elim hk_ (fun hs_ => Or.elim hs_ (fun hs_ => hs_.1.2) (fun hs_ => ((Kd.R_apart' (Kd.R_apart' (HO539.out) (Kd.N_typed HO_4.out) (by decide)) (Kd.N_typed HO_5.out) (by decide)).1 k_ hs_.symm).1.2)) (fun hn_ => (Kd.fresh' (Kd.N_lt (by (with_reducible repeat (first | apply Kd.N_alloc | apply Kd.N_drewN | apply Kd.N_drew)); exact HO_4.out)) k_ hn_))⟩)) (below_size (bb_ HB))); have n4_ := Aside0.mk (below_step (bb_ HB) hb); clear HO_4; clear HO_5; clear HO539; clear HB; have HO_4 := n0_; have HO_5 := n1_; have HO539 := n2_; have HO542 := n3_; have HB := n4_; clear n0_ n1_ n2_ n3_ n4_; (try clear hb); (try clear hb2); (try clear hk); (try clear hi); (try clear ho0))); try go_wp2_with (first | ((with_reducible refine gate_dst (N := 40) rfl ?_); refine Kd.R_lit (Kd.int .i64) _ 3 ?hg (N := 40) ?hd (xs := ([] : List Int)) (inner := []) (ok := fun _ => True) (okp := fun _ => True) ?hr ?hp (fun _ hk => hk) trivial (Below.refl _ _) (Nat.le_refl _) (by simp) ?_; (case hd => rfl); (case hg => rfl); (case hr => first | (go_simp; done) | (go_simp; rfl)); (case hp => exact (Reps.none _ _)); intro v534 w23 ho24 hb hg_ hnew_; clear hg_ hnew_; (first | rw [← Ny533.out] at ho24 | (simp only [Int.reduceToNat] at ho24; rw [← Ny533.out] at ho24)); have n0_ := Aside0.mk (Kd.N_elder' (by (with_reducible repeat (first | apply Kd.N_alloc | apply Kd.N_drewN | apply Kd.N_drew)); exact HO_4.out) (Kd.R_base ho24) hb); have n1_ := Aside0.mk (Kd.N_elder' (by (with_reducible repeat (first | apply Kd.N_alloc | apply Kd.N_drewN | apply Kd.N_drew)); exact HO_5.out) (Kd.R_base ho24) hb); have n2_ := Aside0.mk (Kd.R_lower (Kd.R_newM (M := fun k_ => (w.heap.size ≤ k_)) ho24 (below_size (bb_ HB)) (fun k_ h_ => h_)) (below_size (bb_ HB))); have n3_ := Aside0.mk (below_step (bb_ HB) hb); clear HO_4; clear HO_5; clear HB; have HO_4 := n0_; have HO_5 := n1_; have HO535 := n2_; have HB := n3_; clear n0_ n1_ n2_ n3_; clear hb ho24; have p536 : 0 ≤ (x6_1 : Int) := dd_; have q536 : x6_1 < (l0.length : Int) := dd_; obtain ⟨ad536, A536_0, c536_0, e536, hx536_0, hl536_0, hi536_0⟩ := at_LI HR0.out x6_1 p536 q536; cases e536; replace hx536_0 := hc_ HB hx536_0; have HR536_0 := Aside0.mk hi536_0; have HC536_0 := Aside0.mk hl536_0; clear hi536_0 hl536_0; replace p536 := eq_true p536; replace q536 := eq_true q536) | (at_builtin; refine Kd.R_append_rows (Kd.int .i64) (w0 := w) w.heap.size rfl (.tmp 40) (.tmp 44) 23 3 (.int .i64 0) 8 rfl Try.underlying23 info3 rfl (by decide) (by omega) v534 y533 (rd_LI l0 x6_1) _ _ _ (fun k_ => (w.heap.size ≤ k_)) (fun _ => False) rfl rfl ?aO ?aR (fun _ _ h => h) (fun _ h => h.elim) ?aF ?aB ?aS ?aL ?_; (case aR => exact sb_ HR536_0 HB); (case aB => exact (bb_ HB)); (case aF => exact (fun k_ hk => (Nat.le_trans (below_size (bb_ HB)) hk))); (case aO => exact (by (with_reducible repeat (first | apply Kd.R_alloc | apply Kd.R_drewN | apply Kd.R_drew)); exact Kd.R_mono HO535.out (fun _ hk => hk.1))); (case aS => exact (below_size (bb_ HB))); (case aL => have := LMc21.out; omega); intro v538 w25 ho hb hg hat; rw [← Ny537.out] at ho; have n0_ := Aside0.mk (Kd.N_afterv (ok := (fun k_ => (w.heap.size ≤ k_) ∧ some k_ ≠ (u5 : Value).ownBlock)) (by (with_reducible repeat (first | apply Kd.N_alloc | apply Kd.N_drewN | apply Kd.N_drew)); exact HO_4.out) hg hat); have n1_ := Aside0.mk (Kd.N_afterv (ok := (fun k_ => (w.heap.size ≤ k_) ∧ some k_ ≠ (v525 : Value).ownBlock)) (by (with_reducible repeat (first | apply Kd.N_alloc | apply Kd.N_drewN | apply Kd.N_drew)); exact HO_5.out) hg hat); have n2_ := Aside0.mk (hb); have n3_ := Aside0.mk (ho); clear HO_4; clear HO_5; clear HB; clear HO535; have HO_4 := n0_; have HO_5 := n1_; have HB := n2_; have HO539 := n3_; clear n0_ n1_ n2_ n3_; clear ho hb hg hat; obtain ⟨Ao26, co26, eo26⟩ := Kd.N_slice HO_5.out; subst eo26; obtain ⟨Ao27, co27, eo27⟩ := Kd.R_slice HO539.out; subst eo27) | (go_at_call 65; (with_reducible refine (spec_l6lPut.calls k2 (fun k_ => (((w.heap.size ≤ k_) ∧ some k_ ≠ (v525 : Value).ownBlock) ∧ some k_ ≠ (.slice Ao27 y537.length co27 : Value).ownBlock)) _ _ x5_1 (fun k_ => some k_ = (.slice Ao27 y537.length co27 : Value).ownBlock) _ _ y537 t540 _ ?side1 ?side2 A22.out).mono ?_); (case side1 => exact Kd.N_V (HO_5.out)); (case side2 => exact Kd.R_V (Kd.R_tight rfl (Kd.R_apart' (Kd.R_apart' (HO539.out) (Kd.N_typed HO_4.out) (by decide)) (Kd.N_typed HO_5.out) (by decide)))); rintro e w28 ⟨v541, rfl, ho0, hb⟩; have n0_ := Aside0.mk (Kd.N_elder' (by (with_reducible repeat (first | apply Kd.N_alloc | apply Kd.N_drewN | apply Kd.N_drew)); exact HO_4.out) (Kd.N_base ho0) hb); have n1_ := Aside0.mk (Kd.N_elder' (by (with_reducible repeat (first | apply Kd.N_alloc | apply Kd.N_drewN | apply Kd.N_drew)); exact HO_5.out) (Kd.N_base ho0) hb); have n2_ := Aside0.mk (Kd.R_below (rr_ HO539) hb); have n3_ := Aside0.mk (Kd.N_lower (Kd.N_mono (ok' := fun k_ => (w.heap.size ≤ k_) ∧ some k_ ≠ (v525 : Value).ownBlock) ho0 (fun k_ hk_ => ⟨Or.elim hk_ (fun hs_ => Or.elim hs_ (fun hs_ => hs_.1.1) (fun hs_ => ((Kd.R_apart' (Kd.R_apart' (HO539.out) (Kd.N_typed HO_4.out) (by decide)) (Kd.N_typed HO_5.out) (by decide)).1 k_ hs_.symm).1.1)) (fun hn_ => (Nat.le_trans (below_size (bb_ HB)) hn_)), Or.elim hk_ (fun hs_ => Or.elim hs_ (fun hs_ => hs_.1.2) (fun hs_ => ((Kd.R_apart' (Kd.R_apart' (HO539.out) (Kd.N_typed HO_4.out) (by decide)) (Kd.N_typed HO_5.out) (by decide)).1 k_ hs_.symm).1.2)) (fun hn_ => (Kd.fresh' (Kd.N_lt (by (with_reducible repeat (first | apply Kd.N_alloc | apply Kd.N_drewN | apply Kd.N_drew)); exact HO_4.out)) k_ hn_))⟩)) (below_size (bb_ HB))); have n4_ := Aside0.mk (below_step (bb_ HB) hb); clear HO_4; clear HO_5; clear HO539; clear HB; have HO_4 := n0_; have HO_5 := n1_; have HO539 := n2_; have HO542 := n3_; have HB := n4_; clear n0_ n1_ n2_ n3_ n4_; (try clear hb); (try clear hb2); (try clear hk); (try clear hi); (try clear ho0))))
            go_roundg k2
            case measure => have := HK1.out; have := HK2.out; omega
            case rel => exact ⟨(t540), (wrap64 (x6_1 + 1)), (by first | rfl | (simp; done) | (simp [*]; done)), H', ⟨by have := HK1.out; have := HK2.out; omega⟩, ⟨by (with_reducible repeat (first | apply Kd.N_alloc | apply Kd.N_drewN | apply Kd.N_drew)); exact Kd.N_mono HO_4.out (fun _ hk => ⟨hk.1.1.1, hk.2⟩)⟩, ⟨by (with_reducible repeat (first | apply Kd.N_alloc | apply Kd.N_drewN | apply Kd.N_drew)); exact HO542.out⟩, ⟨by repeat (first | (with_reducible first | exact HB.out | apply below_alloc | apply pw_below_drewN | apply below_drew1) | exact HB.out)⟩⟩
           ·rw [if_neg c21] at H
            exact absurd H (by simp)
          ·rw [if_neg c20] at H
           exact absurd H (by simp)
         ·rw [if_neg c19] at H
          exact absurd H (by simp)
    ·rw [if_neg c9] at H
     have c9b0 : decide (x6_1 < 10) = false := decide_eq_false c9
     clear c9
     by_cases c29 : (x5_1.length : Int) = 6
     ·rw [if_pos c29] at H
      have c29b0 : ((x5_1.length : Int) == 6) = true := beq_iff_eq.mpr c29
      have c29b1 : ((x5_1.length : Int) != 6) = false := bne_eq_false_iff_eq.mpr c29
      clear c29
      obtain ⟨y546, hy546⟩ : ∃ y_ : List Int, y_ = (([1, 3, 4, 5] : List Int)) := ⟨_, rfl⟩
      replace H : (spec_SpreadDerive.l2 k1 x5_1 y546 (y546.length : Int) 0) = some (r1, r2) := by first | (rw [hy546]; with_reducible exact H) | (have H2_ := (Option.bind_some _ _).symm.trans H; rw [hy546]; with_reducible exact H2_) | (have H2_ := (Option.bind_some _ _).symm.trans H; with_reducible exact H2_) | with_reducible exact H | (rw [hy546]; exact H) | exact H
      have Ny546 := Aside0.mk hy546
      clear hy546
      have H' := Aside0.mk H
      clear H
      obtain ⟨Ao30, co30, eo30⟩ := Kd.N_slice HO_5.out
      subst eo30
      go_wp2_with (first | ((with_reducible refine gate_dst (N := 51) rfl ?_); refine Kd.R_lit (Kd.int .i64) _ 3 ?hg (N := 51) ?hd (xs := ([1, 3, 4, 5] : List Int)) (inner := [.int .i64 1, .int .i64 3, .int .i64 4, .int .i64 5]) (ok := fun _ => True) (okp := fun _ => True) ?hr ?hp (fun _ hk => hk) trivial (Below.refl _ _) (Nat.le_refl _) (by simp) ?_; (case hd => rfl); (case hg => rfl); (case hr => first | (go_simp; done) | (go_simp; rfl)); (case hp => exact (Reps.one (show Kd.M (Kd.int .i64) _ _ _ 1 [.int .i64 1] from rfl) (Reps.one (show Kd.M (Kd.int .i64) _ _ _ 3 [.int .i64 3] from rfl) (Reps.one (show Kd.M (Kd.int .i64) _ _ _ 4 [.int .i64 4] from rfl) (Reps.one (show Kd.M (Kd.int .i64) _ _ _ 5 [.int .i64 5] from rfl) (Reps.none _ _)))))); intro v547 w31 ho32 hb hg_ hnew_; clear hg_ hnew_; (first | rw [← Ny546.out] at ho32 | (simp only [Int.reduceToNat] at ho32; rw [← Ny546.out] at ho32)); have n0_ := Aside0.mk (Kd.N_elder' (by (with_reducible repeat (first | apply Kd.N_alloc | apply Kd.N_drewN | apply Kd.N_drew)); exact HO_4.out) (Kd.R_base ho32) hb); have n1_ := Aside0.mk (Kd.N_elder' (by (with_reducible repeat (first | apply Kd.N_alloc | apply Kd.N_drewN | apply Kd.N_drew)); exact HO_5.out) (Kd.R_base ho32) hb); have n2_ := Aside0.mk (Kd.R_lower (Kd.R_newM (M := fun k_ => (w.heap.size ≤ k_)) ho32 (below_size (bb_ HB)) (fun k_ h_ => h_)) (below_size (bb_ HB))); have n3_ := Aside0.mk (below_step (bb_ HB) hb); clear HO_4; clear HO_5; clear HB; have HO_4 := n0_; have HO_5 := n1_; have HO548 := n2_; have HB := n3_; clear n0_ n1_ n2_ n3_; clear hb ho32; obtain ⟨Ao33, co33, eo33⟩ := Kd.R_slice HO548.out; subst eo33))
      repeat (go_quiet (first | ((with_reducible refine gate_dst (N := 51) rfl ?_); refine Kd.R_lit (Kd.int .i64) _ 3 ?hg (N := 51) ?hd (xs := ([1, 3, 4, 5] : List Int)) (inner := [.int .i64 1, .int .i64 3, .int .i64 4, .int .i64 5]) (ok := fun _ => True) (okp := fun _ => True) ?hr ?hp (fun _ hk => hk) trivial (Below.refl _ _) (Nat.le_refl _) (by simp) ?_; (case hd => rfl); (case hg => rfl); (case hr => first | (go_simp; done) | (go_simp; rfl)); (case hp => exact (Reps.one (show Kd.M (Kd.int .i64) _ _ _ 1 [.int .i64 1] from rfl) (Reps.one (show Kd.M (Kd.int .i64) _ _ _ 3 [.int .i64 3] from rfl) (Reps.one (show Kd.M (Kd.int .i64) _ _ _ 4 [.int .i64 4] from rfl) (Reps.one (show Kd.M (Kd.int .i64) _ _ _ 5 [.int .i64 5] from rfl) (Reps.none _ _)))))); intro v547 w31 ho32 hb hg_ hnew_; clear hg_ hnew_; (first | rw [← Ny546.out] at ho32 | (simp only [Int.reduceToNat] at ho32; rw [← Ny546.out] at ho32)); have n0_ := Aside0.mk (Kd.N_elder' (by (with_reducible repeat (first | apply Kd.N_alloc | apply Kd.N_drewN | apply Kd.N_drew)); exact HO_4.out) (Kd.R_base ho32) hb); have n1_ := Aside0.mk (Kd.N_elder' (by (with_reducible repeat (first | apply Kd.N_alloc | apply Kd.N_drewN | apply Kd.N_drew)); exact HO_5.out) (Kd.R_base ho32) hb); have n2_ := Aside0.mk (Kd.R_lower (Kd.R_newM (M := fun k_ => (w.heap.size ≤ k_)) ho32 (below_size (bb_ HB)) (fun k_ h_ => h_)) (below_size (bb_ HB))); have n3_ := Aside0.mk (below_step (bb_ HB) hb); clear HO_4; clear HO_5; clear HB; have HO_4 := n0_; have HO_5 := n1_; have HO548 := n2_; have HB := n3_; clear n0_ n1_ n2_ n3_; clear hb ho32; obtain ⟨Ao33, co33, eo33⟩ := Kd.R_slice HO548.out; subst eo33)); try go_wp2_with (first | ((with_reducible refine gate_dst (N := 51) rfl ?_); refine Kd.R_lit (Kd.int .i64) _ 3 ?hg (N := 51) ?hd (xs := ([1, 3, 4, 5] : List Int)) (inner := [.int .i64 1, .int .i64 3, .int .i64 4, .int .i64 5]) (ok := fun _ => True) (okp := fun _ => True) ?hr ?hp (fun _ hk => hk) trivial (Below.refl _ _) (Nat.le_refl _) (by simp) ?_; (case hd => rfl); (case hg => rfl); (case hr => first | (go_simp; done) | (go_simp; rfl)); (case hp => exact (Reps.one (show Kd.M (Kd.int .i64) _ _ _ 1 [.int .i64 1] from rfl) (Reps.one (show Kd.M (Kd.int .i64) _ _ _ 3 [.int .i64 3] from rfl) (Reps.one (show Kd.M (Kd.int .i64) _ _ _ 4 [.int .i64 4] from rfl) (Reps.one (show Kd.M (Kd.int .i64) _ _ _ 5 [.int .i64 5] from rfl) (Reps.none _ _)))))); intro v547 w31 ho32 hb hg_ hnew_; clear hg_ hnew_; (first | rw [← Ny546.out] at ho32 | (simp only [Int.reduceToNat] at ho32; rw [← Ny546.out] at ho32)); have n0_ := Aside0.mk (Kd.N_elder' (by (with_reducible repeat (first | apply Kd.N_alloc | apply Kd.N_drewN | apply Kd.N_drew)); exact HO_4.out) (Kd.R_base ho32) hb); have n1_ := Aside0.mk (Kd.N_elder' (by (with_reducible repeat (first | apply Kd.N_alloc | apply Kd.N_drewN | apply Kd.N_drew)); exact HO_5.out) (Kd.R_base ho32) hb); have n2_ := Aside0.mk (Kd.R_lower (Kd.R_newM (M := fun k_ => (w.heap.size ≤ k_)) ho32 (below_size (bb_ HB)) (fun k_ h_ => h_)) (below_size (bb_ HB))); have n3_ := Aside0.mk (below_step (bb_ HB) hb); clear HO_4; clear HO_5; clear HB; have HO_4 := n0_; have HO_5 := n1_; have HO548 := n2_; have HB := n3_; clear n0_ n1_ n2_ n3_; clear hb ho32; obtain ⟨Ao33, co33, eo33⟩ := Kd.R_slice HO548.out; subst eo33)))
      go_loopg [5, 53] k1 (fun kq v5 v53 w' => ∃ (x5_2 : List (List Int)) (x53_2 : Int), v53 = .int .i64 x53_2 ∧ Aside0 (spec_SpreadDerive.l2 kq x5_2 y546 (y546.length : Int) x53_2 = some (r1, r2)) ∧ Aside0 (kq ≤ k1) ∧ Aside0 (Kd.N (Kd.slice 3 (Kd.int .i64)) 23 w' w.heap.size (fun k_ => (w.heap.size ≤ k_) ∧ some k_ ≠ ((.slice Ao33 y546.length co33) : Value).ownBlock) v5 x5_2) ∧ Aside0 (Kd.R (Kd.int .i64) 3 w' w.heap.size (fun k_ => (w.heap.size ≤ k_)) (.slice Ao33 y546.length co33) y546) ∧ Aside0 (Below w.heap.size w w'))
      case atStart => exact ⟨(x5_1), (0), (by first | rfl | (simp; done) | (simp [*]; done)), H', ⟨Nat.le_refl _⟩, ⟨by (with_reducible repeat (first | apply Kd.N_alloc | apply Kd.N_drewN | apply Kd.N_drew)); exact Kd.N_mono HO_5.out (fun _ hk => ⟨hk.1.1, hk.2⟩)⟩, ⟨by (with_reducible repeat (first | apply Kd.R_alloc | apply Kd.R_drewN | apply Kd.R_drew)); exact Kd.R_mono HO548.out (fun _ hk => hk.1)⟩, ⟨by repeat (first | (with_reducible first | exact HB.out | apply below_alloc | apply pw_below_drewN | apply below_drew1) | exact HB.out)⟩⟩
      case round =>
       clear H'
       try clear c1
       try clear c2
       try clear p2
       try clear c3
       try clear c5
       try clear p5
       try clear q5
       try clear hx5
       try clear p6
       try clear c9
       try clear c9b0
       try clear c10
       try clear c10b0
       try clear c11
       try clear c12
       try clear c12b0
       try clear c13
       try clear c13b0
       try clear c14
       try clear c14b0
       try clear c15
       try clear c15b0
       try clear c18
       try clear c19
       try clear c19b0
       try clear c20
       try clear c20b0
       try clear c21
       try clear c29
       try clear c29b0
       try clear c29b1
       try clear hx530_0
       try clear hx531_0
       try clear hx536_0
       try clear p2
       try clear p530
       try clear p531
       try clear p536
       try clear q530
       try clear q531
       try clear q536
       obtain ⟨x5_2, x53_2, rfl, HA, HK2, HO_5, HO_51, HB⟩ := hrel
       cases gk with
       | zero => exact absurd HA.out (by simp [spec_SpreadDerive.l2])
       | succ k2 =>
        have H := HA.out
        clear HA
        simp only [spec_SpreadDerive.l2] at H
        by_cases c34 : x53_2 < (y546.length : Int)
        ·rw [if_pos c34] at H
         have c34b0 : decide (x53_2 < (y546.length : Int)) = true := decide_eq_true c34
         clear c34
         by_cases c35 : 0 ≤ x53_2
         ·rw [if_pos c35] at H
          have c35b0 : decide (0 ≤ x53_2) = true := decide_eq_true c35
          clear c35
          by_cases c36 : x53_2 < (y546.length : Int)
          ·rw [if_pos c36] at H
           have c36b0 : decide (x53_2 < (y546.length : Int)) = true := decide_eq_true c36
           clear c36
           replace H := Option.bind_eq_some_iff.mp H
           obtain ⟨t550, A370, H⟩ := H
           replace H : ((spec_l6lPut.f k2 x5_2 t550).bind fun t553 => (spec_SpreadDerive.l2 k2 t553 y546 (y546.length : Int) (wrap64 (x53_2 + 1)))) = some (r1, r2) := H
           have A37 := Aside0.mk A370
           clear A370
           replace H := Option.bind_eq_some_iff.mp H
           obtain ⟨t553, A380, H⟩ := H
           replace H : (spec_SpreadDerive.l2 k2 t553 y546 (y546.length : Int) (wrap64 (x53_2 + 1))) = some (r1, r2) := H
           have A38 := Aside0.mk A380
           clear A380
           have H' := Aside0.mk H
           clear H
           have p549 : 0 ≤ (x53_2 : Int) := dd_
           have q549 : x53_2 < (y546.length : Int) := dd_
           obtain ⟨ad549, e549, hx549_0⟩ := Kd.at_int (Kd.R_reads' HO_51.out).2.2 x53_2 p549 q549
           cases e549
           replace p549 := eq_true p549
           replace q549 := eq_true q549
           go_wp2_with (first | (go_at_call 75; (with_reducible refine (spec_l6lOther.calls k2 (rd y546 x53_2) t550 _ A37.out).mono ?_); rintro e w39 ⟨v551, rfl, ho0, hb⟩; have n0_ := Aside0.mk (Kd.N_elder' (by (with_reducible repeat (first | apply Kd.N_alloc | apply Kd.N_drewN | apply Kd.N_drew)); exact HO_5.out) (Kd.R_base ho0) hb); have n1_ := Aside0.mk (Kd.R_elder' (rr_ HO_51) (Kd.R_base ho0) hb); have n2_ := Aside0.mk (Kd.R_lower (Kd.R_new' (Kd.R_newM (M := fun k_ => (w.heap.size ≤ k_)) ho0 (below_size (bb_ HB)) (fun k_ h_ => h_)) (Kd.R_lt (rr_ HO_51))) (below_size (bb_ HB))); have n3_ := Aside0.mk (below_step (bb_ HB) hb); clear HO_5; clear HO_51; clear HB; have HO_5 := n0_; have HO_51 := n1_; have HO552 := n2_; have HB := n3_; clear n0_ n1_ n2_ n3_; (try clear hb); (try clear hb2); (try clear hk); (try clear hi); (try clear ho0); obtain ⟨Ao40, co40, eo40⟩ := Kd.N_slice HO_5.out; subst eo40; obtain ⟨Ao41, co41, eo41⟩ := Kd.R_slice HO552.out; subst eo41) | (go_at_call 65; (with_reducible refine (spec_l6lPut.calls k2 (fun k_ => (((w.heap.size ≤ k_) ∧ some k_ ≠ (.slice (some ad549) y546.length co33 : Value).ownBlock) ∧ some k_ ≠ (.slice Ao41 t550.length co41 : Value).ownBlock)) _ _ x5_2 (fun k_ => some k_ = (.slice Ao41 t550.length co41 : Value).ownBlock) _ _ t550 t553 _ ?side1 ?side2 A38.out).mono ?_); (case side1 => exact Kd.N_V (HO_5.out)); (case side2 => exact Kd.R_V (Kd.R_tight rfl (Kd.R_apart' (HO552.out) (Kd.N_typed HO_5.out) (by decide)))); rintro e w42 ⟨v554, rfl, ho0, hb⟩; have n0_ := Aside0.mk (Kd.N_elder' (by (with_reducible repeat (first | apply Kd.N_alloc | apply Kd.N_drewN | apply Kd.N_drew)); exact HO_5.out) (Kd.N_base ho0) hb); have n1_ := Aside0.mk (Kd.R_below (rr_ HO_51) hb); have n2_ := Aside0.mk (Kd.R_below (rr_ HO552) hb); have n3_ := Aside0.mk (Kd.N_lower (Kd.N_mono (ok' := fun k_ => (w.heap.size ≤ k_) ∧ some k_ ≠ (.slice (some ad549) y546.length co33 : Value).ownBlock) ho0 (fun k_ hk_ => ⟨Or.elim hk_ (fun hs_ => Or.elim hs_ (fun hs_ => hs_.1.1) (fun hs_ => ((Kd.R_apart' (HO552.out) (Kd.N_typed HO_5.out) (by decide)).1 k_ hs_.symm).1.1.1)) (fun hn_ => (Nat.le_trans (below_size (bb_ HB)) hn_)), Or.elim hk_ (fun hs_ => Or.elim hs_ (fun hs_ => hs_.1.2) (fun hs_ => ((Kd.R_apart' (HO552.out) (Kd.N_typed HO_5.out) (by decide)).1 k_ hs_.symm).1.2)) (fun hn_ => (Kd.fresh' (Kd.R_lt (rr_ HO_51)) k_ hn_))⟩)) (below_size (bb_ HB))); have n4_ := Aside0.mk (below_step (bb_ HB) hb); clear HO_5; clear HO_51; clear HO552; clear HB; have HO_5 := n0_; have HO_51 := n1_; have HO552 := n2_; have HO555 := n3_; have HB := n4_; clear n0_ n1_ n2_ n3_ n4_; (try clear hb); (try clear hb2); (try clear hk); (try clear hi); (try clear ho0)))
           repeat (go_quiet (first | (go_at_call 75; (with_reducible refine (spec_l6lOther.calls k2 (rd y546 x53_2) t550 _ A37.out).mono ?_); rintro e w39 ⟨v551, rfl, ho0, hb⟩; have n0_ := Aside0.mk (Kd.N_elder' (by (with_reducible repeat (first | apply Kd.N_alloc | apply Kd.N_drewN | apply Kd.N_drew)); exact HO_5.out) (Kd.R_base ho0) hb); have n1_ := Aside0.mk (Kd.R_elder' (rr_ HO_51) (Kd.R_base ho0) hb); have n2_ := Aside0.mk (Kd.R_lower (Kd.R_new' (Kd.R_newM (M := fun k_ => (w.heap.size ≤ k_)) ho0 (below_size (bb_ HB)) (fun k_ h_ => h_)) (Kd.R_lt (rr_ HO_51))) (below_size (bb_ HB))); have n3_ := Aside0.mk (below_step (bb_ HB) hb); clear HO_5; clear HO_51; clear HB; have HO_5 := n0_; have HO_51 := n1_; have HO552 := n2_; have HB := n3_; clear n0_ n1_ n2_ n3_; (try clear hb); (try clear hb2); (try clear hk); (try clear hi); (try clear ho0); obtain ⟨Ao40, co40, eo40⟩ := Kd.N_slice HO_5.out; subst eo40; obtain ⟨Ao41, co41, eo41⟩ := Kd.R_slice HO552.out; subst eo41) | (go_at_call 65; (with_reducible refine (spec_l6lPut.calls k2 (fun k_ => (((w.heap.size ≤ k_) ∧ some k_ ≠ (.slice (some ad549) y546.length co33 : Value).ownBlock) ∧ some k_ ≠ (.slice Ao41 t550.length co41 : Value).ownBlock)) _ _ x5_2 (fun k_ => some k_ = (.slice Ao41 t550.length co41 : Value).ownBlock) _ _ t550 t553 _ ?side1 ?side2 A38.out).mono ?_); (case side1 => exact Kd.N_V (HO_5.out)); (case side2 => exact Kd.R_V (Kd.R_tight rfl (Kd.R_apart' (HO552.out) (Kd.N_typed HO_5.out) (by decide)))); rintro e w42 ⟨v554, rfl, ho0, hb⟩; have n0_ := Aside0.mk (Kd.N_elder' (by (with_reducible repeat (first | apply Kd.N_alloc | apply Kd.N_drewN | apply Kd.N_drew)); exact HO_5.out) (Kd.N_base ho0) hb); have n1_ := Aside0.mk (Kd.R_below (rr_ HO_51) hb); have n2_ := Aside0.mk (Kd.R_below (rr_ HO552) hb); have n3_ := Aside0.mk (Kd.N_lower (Kd.N_mono (ok' := fun k_ => (w.heap.size ≤ k_) ∧ some k_ ≠ (.slice (some ad549) y546.length co33 : Value).ownBlock) ho0 (fun k_ hk_ => ⟨Or.elim hk_ (fun hs_ => Or.elim hs_ (fun hs_ => hs_.1.1) (fun hs_ => ((Kd.R_apart' (HO552.out) (Kd.N_typed HO_5.out) (by decide)).1 k_ hs_.symm).1.1.1)) (fun hn_ => (Nat.le_trans (below_size (bb_ HB)) hn_)), Or.elim hk_ (fun hs_ => Or.elim hs_ (fun hs_ => hs_.1.2) (fun hs_ => ((Kd.R_apart' (HO552.out) (Kd.N_typed HO_5.out) (by decide)).1 k_ hs_.symm).1.2)) (fun hn_ => (Kd.fresh' (Kd.R_lt (rr_ HO_51)) k_ hn_))⟩)) (below_size (bb_ HB))); have n4_ := Aside0.mk (below_step (bb_ HB) hb); clear HO_5; clear HO_51; clear HO552; clear HB; have HO_5 := n0_; have HO_51 := n1_; have HO552 := n2_; have HO555 := n3_; have HB := n4_; clear n0_ n1_ n2_ n3_ n4_; (try clear hb); (try clear hb2); (try clear hk); (try clear hi); (try clear ho0))); try go_wp2_with (first | (go_at_call 75; (with_reducible refine (spec_l6lOther.calls k2 (rd y546 x53_2) t550 _ A37.out).mono ?_); rintro e w39 ⟨v551, rfl, ho0, hb⟩; have n0_ := Aside0.mk (Kd.N_elder' (by (with_reducible repeat (first | apply Kd.N_alloc | apply Kd.N_drewN | apply Kd.N_drew)); exact HO_5.out) (Kd.R_base ho0) hb); have n1_ := Aside0.mk (Kd.R_elder' (rr_ HO_51) (Kd.R_base ho0) hb); have n2_ := Aside0.mk (Kd.R_lower (Kd.R_new' (Kd.R_newM (M := fun k_ => (w.heap.size ≤ k_)) ho0 (below_size (bb_ HB)) (fun k_ h_ => h_)) (Kd.R_lt (rr_ HO_51))) (below_size (bb_ HB))); have n3_ := Aside0.mk (below_step (bb_ HB) hb); clear HO_5; clear HO_51; clear HB; have HO_5 := n0_; have HO_51 := n1_; have HO552 := n2_; have HB := n3_; clear n0_ n1_ n2_ n3_; (try clear hb); (try clear hb2); (try clear hk); (try clear hi); (try clear ho0); obtain ⟨Ao40, co40, eo40⟩ := Kd.N_slice HO_5.out; subst eo40; obtain ⟨Ao41, co41, eo41⟩ := Kd.R_slice HO552.out; subst eo41) | (go_at_call 65; (with_reducible refine (spec_l6lPut.calls k2 (fun k_ => (((w.heap.size ≤ k_) ∧ some k_ ≠ (.slice (some ad549) y546.length co33 : Value).ownBlock) ∧ some k_ ≠ (.slice Ao41 t550.length co41 : Value).ownBlock)) _ _ x5_2 (fun k_ => some k_ = (.slice Ao41 t550.length co41 : Value).ownBlock) _ _ t550 t553 _ ?side1 ?side2 A38.out).mono ?_); (case side1 => exact Kd.N_V (HO_5.out)); (case side2 => exact Kd.R_V (Kd.R_tight rfl (Kd.R_apart' (HO552.out) (Kd.N_typed HO_5.out) (by decide)))); rintro e w42 ⟨v554, rfl, ho0, hb⟩; have n0_ := Aside0.mk (Kd.N_elder' (by (with_reducible repeat (first | apply Kd.N_alloc | apply Kd.N_drewN | apply Kd.N_drew)); exact HO_5.out) (Kd.N_base ho0) hb); have n1_ := Aside0.mk (Kd.R_below (rr_ HO_51) hb); have n2_ := Aside0.mk (Kd.R_below (rr_ HO552) hb); have n3_ := Aside0.mk (Kd.N_lower (Kd.N_mono (ok' := fun k_ => (w.heap.size ≤ k_) ∧ some k_ ≠ (.slice (some ad549) y546.length co33 : Value).ownBlock) ho0 (fun k_ hk_ => ⟨Or.elim hk_ (fun hs_ => Or.elim hs_ (fun hs_ => hs_.1.1) (fun hs_ => ((Kd.R_apart' (HO552.out) (Kd.N_typed HO_5.out) (by decide)).1 k_ hs_.symm).1.1.1)) (fun hn_ => (Nat.le_trans (below_size (bb_ HB)) hn_)), Or.elim hk_ (fun hs_ => Or.elim hs_ (fun hs_ => hs_.1.2) (fun hs_ => ((Kd.R_apart' (HO552.out) (Kd.N_typed HO_5.out) (by decide)).1 k_ hs_.symm).1.2)) (fun hn_ => (Kd.fresh' (Kd.R_lt (rr_ HO_51)) k_ hn_))⟩)) (below_size (bb_ HB))); have n4_ := Aside0.mk (below_step (bb_ HB) hb); clear HO_5; clear HO_51; clear HO552; clear HB; have HO_5 := n0_; have HO_51 := n1_; have HO552 := n2_; have HO555 := n3_; have HB := n4_; clear n0_ n1_ n2_ n3_ n4_; (try clear hb); (try clear hb2); (try clear hk); (try clear hi); (try clear ho0))))
           go_roundg k2
           case measure => have := HK1.out; have := HK2.out; omega
           case rel => exact ⟨(t553), (wrap64 (x53_2 + 1)), (by first | rfl | (simp; done) | (simp [*]; done)), H', ⟨by have := HK1.out; have := HK2.out; omega⟩, ⟨by (with_reducible repeat (first | apply Kd.N_alloc | apply Kd.N_drewN | apply Kd.N_drew)); exact HO555.out⟩, ⟨by (with_reducible repeat (first | apply Kd.R_alloc | apply Kd.R_drewN | apply Kd.R_drew)); exact Kd.R_mono HO_51.out (fun _ hk => hk.1)⟩, ⟨by repeat (first | (with_reducible first | exact HB.out | apply below_alloc | apply pw_below_drewN | apply below_drew1) | exact HB.out)⟩⟩
          ·rw [if_neg c36] at H
           exact absurd H (by simp)
         ·rw [if_neg c35] at H
          exact absurd H (by simp)
        ·rw [if_neg c34] at H
         have c34b0 : decide (x53_2 < (y546.length : Int)) = false := decide_eq_false c34
         clear c34
         simp only [Option.some.injEq, Prod.mk.injEq] at H
         obtain ⟨rfl, rfl⟩ := H
         go_wp2
         repeat (go_quiet (fail); try go_wp2)
         go_ret2
         exact ⟨_, ee_, by (with_reducible repeat (first | apply Kd.N_alloc | apply Kd.N_drewN | apply Kd.N_drew)); exact Kd.N_mono HO_5.out (fun _ hk => hk.1), bb_ HB⟩
     ·rw [if_neg c29] at H
      have c29b0 : ((x5_1.length : Int) == 6) = false := beq_eq_false_iff_ne.mpr c29
      have c29b1 : ((x5_1.length : Int) != 6) = true := bne_iff_ne.mpr c29
      obtain ⟨y543, hy543⟩ : ∃ y_ : List (List Int), y_ = (([] : List (List Int))) := ⟨_, rfl⟩
      replace H : (some (y543, false)) = some (r1, r2) := by first | (rw [hy543]; with_reducible exact H) | (have H2_ := (Option.bind_some _ _).symm.trans H; rw [hy543]; with_reducible exact H2_) | (have H2_ := (Option.bind_some _ _).symm.trans H; with_reducible exact H2_) | with_reducible exact H | (rw [hy543]; exact H) | exact H
      have Ny543 := Aside0.mk hy543
      clear hy543
      simp only [Option.some.injEq, Prod.mk.injEq] at H
      obtain ⟨rfl, rfl⟩ := H
      obtain ⟨Ao43, co43, eo43⟩ := Kd.N_slice HO_5.out
      subst eo43
      go_wp2_with (first | ((with_reducible refine gate_dst (N := 50) rfl ?_); refine Kd.N_lit (Kd.slice 3 (Kd.int .i64)) _ 23 ?hg (N' := 50) ?hd (xs := ([] : List (List Int))) (inner := []) (ok := (fun k_ => (w.heap.size ≤ k_) ∧ some k_ ≠ (v525 : Value).ownBlock ∧ some k_ ≠ (.slice Ao43 x5_1.length co43 : Value).ownBlock)) (okp := (fun k_ => (w.heap.size ≤ k_) ∧ some k_ ≠ (v525 : Value).ownBlock ∧ some k_ ≠ (.slice Ao43 x5_1.length co43 : Value).ownBlock)) ?hr ?hp (fun _ hk => hk) ((show ∀ k_, wr.heap.size ≤ k_ → (fun k_ => (w.heap.size ≤ k_) ∧ some k_ ≠ (v525 : Value).ownBlock ∧ some k_ ≠ (.slice Ao43 x5_1.length co43 : Value).ownBlock) k_ from fun k_ hk => ⟨(Nat.le_trans (below_size (bb_ HB)) hk), Kd.fresh' (Kd.N_lt (by (with_reducible repeat (first | apply Kd.N_alloc | apply Kd.N_drewN | apply Kd.N_drew)); exact HO_4.out)) k_ hk, Kd.fresh' (Kd.N_lt (by (with_reducible repeat (first | apply Kd.N_alloc | apply Kd.N_drewN | apply Kd.N_drew)); exact HO_5.out)) k_ hk⟩) _ (Nat.le_refl _)) (Below.refl _ _) (Nat.le_refl _) (by simp) ?_; (case hd => rfl); (case hg => rfl); (case hr => first | (go_simp; done) | (go_simp; rfl)); (case hp => exact (Reps.none _ _)); intro v544 w44 ho45 hb hg_ hnew_; clear hg_ hnew_; (first | rw [← Ny543.out] at ho45 | (simp only [Int.reduceToNat] at ho45; rw [← Ny543.out] at ho45)); have n0_ := Aside0.mk (Kd.N_elder' (by (with_reducible repeat (first | apply Kd.N_alloc | apply Kd.N_drewN | apply Kd.N_drew)); exact HO_4.out) (Kd.N_base ho45) hb); have n1_ := Aside0.mk (Kd.N_elder' (by (with_reducible repeat (first | apply Kd.N_alloc | apply Kd.N_drewN | apply Kd.N_drew)); exact HO_5.out) (Kd.N_base ho45) hb); have n2_ := Aside0.mk (Kd.N_lower ho45 (below_size (bb_ HB))); have n3_ := Aside0.mk (below_step (bb_ HB) hb); clear HO_4; clear HO_5; clear HB; have HO_4 := n0_; have HO_5 := n1_; have HO545 := n2_; have HB := n3_; clear n0_ n1_ n2_ n3_; clear hb ho45))
      repeat (go_quiet (first | ((with_reducible refine gate_dst (N := 50) rfl ?_); refine Kd.N_lit (Kd.slice 3 (Kd.int .i64)) _ 23 ?hg (N' := 50) ?hd (xs := ([] : List (List Int))) (inner := []) (ok := (fun k_ => (w.heap.size ≤ k_) ∧ some k_ ≠ (v525 : Value).ownBlock ∧ some k_ ≠ (.slice Ao43 x5_1.length co43 : Value).ownBlock)) (okp := (fun k_ => (w.heap.size ≤ k_) ∧ some k_ ≠ (v525 : Value).ownBlock ∧ some k_ ≠ (.slice Ao43 x5_1.length co43 : Value).ownBlock)) ?hr ?hp (fun _ hk => hk) ((show ∀ k_, wr.heap.size ≤ k_ → (fun k_ => (w.heap.size ≤ k_) ∧ some k_ ≠ (v525 : Value).ownBlock ∧ some k_ ≠ (.slice Ao43 x5_1.length co43 : Value).ownBlock) k_ from fun k_ hk => ⟨(Nat.le_trans (below_size (bb_ HB)) hk), Kd.fresh' (Kd.N_lt (by (with_reducible repeat (first | apply Kd.N_alloc | apply Kd.N_drewN | apply Kd.N_drew)); exact HO_4.out)) k_ hk, Kd.fresh' (Kd.N_lt (by (with_reducible repeat (first | apply Kd.N_alloc | apply Kd.N_drewN | apply Kd.N_drew)); exact HO_5.out)) k_ hk⟩) _ (Nat.le_refl _)) (Below.refl _ _) (Nat.le_refl _) (by simp) ?_; (case hd => rfl); (case hg => rfl); (case hr => first | (go_simp; done) | (go_simp; rfl)); (case hp => exact (Reps.none _ _)); intro v544 w44 ho45 hb hg_ hnew_; clear hg_ hnew_; (first | rw [← Ny543.out] at ho45 | (simp only [Int.reduceToNat] at ho45; rw [← Ny543.out] at ho45)); have n0_ := Aside0.mk (Kd.N_elder' (by (with_reducible repeat (first | apply Kd.N_alloc | apply Kd.N_drewN | apply Kd.N_drew)); exact HO_4.out) (Kd.N_base ho45) hb); have n1_ := Aside0.mk (Kd.N_elder' (by (with_reducible repeat (first | apply Kd.N_alloc | apply Kd.N_drewN | apply Kd.N_drew)); exact HO_5.out) (Kd.N_base ho45) hb); have n2_ := Aside0.mk (Kd.N_lower ho45 (below_size (bb_ HB))); have n3_ := Aside0.mk (below_step (bb_ HB) hb); clear HO_4; clear HO_5; clear HB; have HO_4 := n0_; have HO_5 := n1_; have HO545 := n2_; have HB := n3_; clear n0_ n1_ n2_ n3_; clear hb ho45)); try go_wp2_with (first | ((with_reducible refine gate_dst (N := 50) rfl ?_); refine Kd.N_lit (Kd.slice 3 (Kd.int .i64)) _ 23 ?hg (N' := 50) ?hd (xs := ([] : List (List Int))) (inner := []) (ok := (fun k_ => (w.heap.size ≤ k_) ∧ some k_ ≠ (v525 : Value).ownBlock ∧ some k_ ≠ (.slice Ao43 x5_1.length co43 : Value).ownBlock)) (okp := (fun k_ => (w.heap.size ≤ k_) ∧ some k_ ≠ (v525 : Value).ownBlock ∧ some k_ ≠ (.slice Ao43 x5_1.length co43 : Value).ownBlock)) ?hr ?hp (fun _ hk => hk) ((show ∀ k_, wr.heap.size ≤ k_ → (fun k_ => (w.heap.size ≤ k_) ∧ some k_ ≠ (v525 : Value).ownBlock ∧ some k_ ≠ (.slice Ao43 x5_1.length co43 : Value).ownBlock) k_ from fun k_ hk => ⟨(Nat.le_trans (below_size (bb_ HB)) hk), Kd.fresh' (Kd.N_lt (by (with_reducible repeat (first | apply Kd.N_alloc | apply Kd.N_drewN | apply Kd.N_drew)); exact HO_4.out)) k_ hk, Kd.fresh' (Kd.N_lt (by (with_reducible repeat (first | apply Kd.N_alloc | apply Kd.N_drewN | apply Kd.N_drew)); exact HO_5.out)) k_ hk⟩) _ (Nat.le_refl _)) (Below.refl _ _) (Nat.le_refl _) (by simp) ?_; (case hd => rfl); (case hg => rfl); (case hr => first | (go_simp; done) | (go_simp; rfl)); (case hp => exact (Reps.none _ _)); intro v544 w44 ho45 hb hg_ hnew_; clear hg_ hnew_; (first | rw [← Ny543.out] at ho45 | (simp only [Int.reduceToNat] at ho45; rw [← Ny543.out] at ho45)); have n0_ := Aside0.mk (Kd.N_elder' (by (with_reducible repeat (first | apply Kd.N_alloc | apply Kd.N_drewN | apply Kd.N_drew)); exact HO_4.out) (Kd.N_base ho45) hb); have n1_ := Aside0.mk (Kd.N_elder' (by (with_reducible repeat (first | apply Kd.N_alloc | apply Kd.N_drewN | apply Kd.N_drew)); exact HO_5.out) (Kd.N_base ho45) hb); have n2_ := Aside0.mk (Kd.N_lower ho45 (below_size (bb_ HB))); have n3_ := Aside0.mk (below_step (bb_ HB) hb); clear HO_4; clear HO_5; clear HB; have HO_4 := n0_; have HO_5 := n1_; have HO545 := n2_; have HB := n3_; clear n0_ n1_ n2_ n3_; clear hb ho45)))
      go_ret2
      exact ⟨_, ee_, by (with_reducible repeat (first | apply Kd.N_alloc | apply Kd.N_drewN | apply Kd.N_drew)); exact Kd.N_mono HO545.out (fun _ hk => hk.1), bb_ HB⟩
 ·replace c3 := Bool.eq_false_iff.mpr c3
  subst c3
  have H1 : (some ((([] : List (List Int))), false)) = some (r1, r2) := by rw [if_neg (show ¬ (false = true) by decide)] at H; exact H
  clear H
  have H := H1
  clear H1
  obtain ⟨y521, hy521⟩ : ∃ y_ : List (List Int), y_ = (([] : List (List Int))) := ⟨_, rfl⟩
  replace H : (some (y521, false)) = some (r1, r2) := by first | (rw [hy521]; with_reducible exact H) | (have H2_ := (Option.bind_some _ _).symm.trans H; rw [hy521]; with_reducible exact H2_) | (have H2_ := (Option.bind_some _ _).symm.trans H; with_reducible exact H2_) | with_reducible exact H | (rw [hy521]; exact H) | exact H
  have Ny521 := Aside0.mk hy521
  clear hy521
  simp only [Option.some.injEq, Prod.mk.injEq] at H
  obtain ⟨rfl, rfl⟩ := H
  go_enter Try.func39, Try.ntmps39
  go_wp2_with (first | (go_at_call 53; (with_reducible refine (spec_SpreadIn.calls k _ _ l0 false _ ?side1 ?side2 A2.out).mono ?_); (case side1 => exact ss_ HR0); (case side2 => exact HC0.out); rintro e w46 ⟨rfl, hb⟩; have n0_ := Aside0.mk (below_step (bb_ HB) hb); clear HB; have HB := n0_; clear n0_; (try clear hb); (try clear hb2); (try clear hk); (try clear hi)) | ((with_reducible refine gate_dst (N := 14) rfl ?_); refine Kd.N_lit (Kd.slice 3 (Kd.int .i64)) _ 23 ?hg (N' := 14) ?hd (xs := ([] : List (List Int))) (inner := []) (ok := (fun k_ => (w.heap.size ≤ k_))) (okp := (fun k_ => (w.heap.size ≤ k_))) ?hr ?hp (fun _ hk => hk) ((show ∀ k_, w46.heap.size ≤ k_ → (fun k_ => (w.heap.size ≤ k_)) k_ from fun k_ hk => (Nat.le_trans (below_size (bb_ HB)) hk)) _ (Nat.le_refl _)) (Below.refl _ _) (Nat.le_refl _) (by simp) ?_; (case hd => rfl); (case hg => rfl); (case hr => first | (go_simp; done) | (go_simp; rfl)); (case hp => exact (Reps.none _ _)); intro v522 w47 ho48 hb hg_ hnew_; clear hg_ hnew_; (first | rw [← Ny521.out] at ho48 | (simp only [Int.reduceToNat] at ho48; rw [← Ny521.out] at ho48)); have n0_ := Aside0.mk (Kd.N_lower ho48 (below_size (bb_ HB))); have n1_ := Aside0.mk (below_step (bb_ HB) hb); clear HB; have HO523 := n0_; have HB := n1_; clear n0_ n1_; clear hb ho48))
  repeat (go_quiet (first | (go_at_call 53; (with_reducible refine (spec_SpreadIn.calls k _ _ l0 false _ ?side1 ?side2 A2.out).mono ?_); (case side1 => exact ss_ HR0); (case side2 => exact HC0.out); rintro e w46 ⟨rfl, hb⟩; have n0_ := Aside0.mk (below_step (bb_ HB) hb); clear HB; have HB := n0_; clear n0_; (try clear hb); (try clear hb2); (try clear hk); (try clear hi)) | ((with_reducible refine gate_dst (N := 14) rfl ?_); refine Kd.N_lit (Kd.slice 3 (Kd.int .i64)) _ 23 ?hg (N' := 14) ?hd (xs := ([] : List (List Int))) (inner := []) (ok := (fun k_ => (w.heap.size ≤ k_))) (okp := (fun k_ => (w.heap.size ≤ k_))) ?hr ?hp (fun _ hk => hk) ((show ∀ k_, w46.heap.size ≤ k_ → (fun k_ => (w.heap.size ≤ k_)) k_ from fun k_ hk => (Nat.le_trans (below_size (bb_ HB)) hk)) _ (Nat.le_refl _)) (Below.refl _ _) (Nat.le_refl _) (by simp) ?_; (case hd => rfl); (case hg => rfl); (case hr => first | (go_simp; done) | (go_simp; rfl)); (case hp => exact (Reps.none _ _)); intro v522 w47 ho48 hb hg_ hnew_; clear hg_ hnew_; (first | rw [← Ny521.out] at ho48 | (simp only [Int.reduceToNat] at ho48; rw [← Ny521.out] at ho48)); have n0_ := Aside0.mk (Kd.N_lower ho48 (below_size (bb_ HB))); have n1_ := Aside0.mk (below_step (bb_ HB) hb); clear HB; have HO523 := n0_; have HB := n1_; clear n0_ n1_; clear hb ho48)); try go_wp2_with (first | (go_at_call 53; (with_reducible refine (spec_SpreadIn.calls k _ _ l0 false _ ?side1 ?side2 A2.out).mono ?_); (case side1 => exact ss_ HR0); (case side2 => exact HC0.out); rintro e w46 ⟨rfl, hb⟩; have n0_ := Aside0.mk (below_step (bb_ HB) hb); clear HB; have HB := n0_; clear n0_; (try clear hb); (try clear hb2); (try clear hk); (try clear hi)) | ((with_reducible refine gate_dst (N := 14) rfl ?_); refine Kd.N_lit (Kd.slice 3 (Kd.int .i64)) _ 23 ?hg (N' := 14) ?hd (xs := ([] : List (List Int))) (inner := []) (ok := (fun k_ => (w.heap.size ≤ k_))) (okp := (fun k_ => (w.heap.size ≤ k_))) ?hr ?hp (fun _ hk => hk) ((show ∀ k_, w46.heap.size ≤ k_ → (fun k_ => (w.heap.size ≤ k_)) k_ from fun k_ hk => (Nat.le_trans (below_size (bb_ HB)) hk)) _ (Nat.le_refl _)) (Below.refl _ _) (Nat.le_refl _) (by simp) ?_; (case hd => rfl); (case hg => rfl); (case hr => first | (go_simp; done) | (go_simp; rfl)); (case hp => exact (Reps.none _ _)); intro v522 w47 ho48 hb hg_ hnew_; clear hg_ hnew_; (first | rw [← Ny521.out] at ho48 | (simp only [Int.reduceToNat] at ho48; rw [← Ny521.out] at ho48)); have n0_ := Aside0.mk (Kd.N_lower ho48 (below_size (bb_ HB))); have n1_ := Aside0.mk (below_step (bb_ HB) hb); clear HB; have HO523 := n0_; have HB := n1_; clear n0_ n1_; clear hb ho48)))
  go_ret2
  exact ⟨_, ee_, by (with_reducible repeat (first | apply Kd.N_alloc | apply Kd.N_drewN | apply Kd.N_drew)); exact HO523.out, bb_ HB⟩
end Go.Proofs.Ytbfafjejmljcpaa.P

set_option linter.unusedVariables false
set_option linter.unusedSimpArgs false
namespace Go.Proofs.Ytbfafjejmljcpaa.X
open Go.RowKit Go.Proofs.YtbfafjejmljcpaaW.PrintWords Go.Proofs.YtbfafjejmljcpaaW.PrintLast Go.Proofs.Ytbfafjejmljcpaa.P

def restN (l : List (List Int)) : Nat → List (List Int)
  | 0 => []
  | n + 1 => if rd_LI l (n : Int) ∈ regL then restN l n else insL (restN l n) (rd_LI l (n : Int))
def insAll (l : List (List Int)) : List Int → List (List Int)
  | [] => l
  | x :: r => insAll (insL l (otherL x)) r
def deriveL (l : List (List Int)) : List (List Int) := insAll (restN l 10) [1, 3, 4, 5]
def deriveR (l : List (List Int)) : List (List Int) × Bool := if spreadB l = true ∧ (restN l 10).length = 6 then (deriveL l, true) else ([], false)
theorem restN_nines {l : List (List Int)} (h : spreadB l = true) (n : Nat) (hn : n ≤ 10) : (restN l n).length ≤ n ∧ ∀ a ∈ restN l n, a.length = 9 := by
  induction n with
  | zero => exact ⟨Nat.le_refl _, fun a ha => by cases ha⟩
  | succ n ih =>
    obtain ⟨h1, h2⟩ := ih (by omega)
    unfold restN
    by_cases e : rd_LI l (n : Int) ∈ regL
    · rw [if_pos e]; exact ⟨by omega, h2⟩
    · rw [if_neg e]
      refine ⟨by rw [insL_length]; omega, insL_nines h2 ?_⟩
      exact (leafB_parts (spread_leaf h (i := (n : Int)) (by omega) (by omega))).1
theorem derive_l1 {l : List (List Int)} (h : spreadB l = true) (o : List (List Int)) {i : Nat} (hi : i < 10) (ho : o.length ≤ 20) (h9 : ∀ a ∈ o, a.length = 9) {r : List (List Int) × Bool}
    (hr : Ev (fun k => spec_SpreadDerive.l0 k l regL (if rd_LI l (i : Int) ∈ regL then o else insL o (rd_LI l (i : Int))) ((i : Int) + 1)) r) (d : Nat) :
    ∀ (c : Int) (b : Bool), 0 ≤ c → c + d = 4 → (b = true ↔ ∃ j : Int, 0 ≤ j ∧ j < c ∧ rd_LI l (i : Int) = rd_LI regL j) → Ev (fun k => spec_SpreadDerive.l1 k l regL o (i : Int) b c) r := by
  have hl := (spreadB_parts h).1
  have h9i := (leafB_parts (spread_leaf h (i := (i : Int)) (by omega) (by omega))).1
  obtain ⟨r4, r9⟩ := regL_ok
  induction d with
  | zero =>
    intro c b c0 c1 hb
    have hin : b = true ↔ rd_LI l (i : Int) ∈ regL := by
      rw [hb]
      constructor
      · rintro ⟨j, j0, j1, e⟩
        rw [e]; exact rdL_mem j0 (by omega)
      · intro hm
        obtain ⟨j, hj, e⟩ := List.mem_iff_getElem.1 hm
        exact ⟨(j : Int), by omega, by omega, by rw [rdL_cast _ j hj, e]⟩
    refine Ev.step (fun k => by rw [spec_SpreadDerive.l1]) ?_
    rw [w64 (x := (i : Int) + 1) (by omega) (by omega)]
    refine Ev.neg (by omega) ?_
    by_cases e : b = true
    · rw [if_pos (hin.1 e)] at hr
      exact Ev.pos e hr
    · rw [if_neg (fun h => e (hin.2 h))] at hr
      refine Ev.neg e (Ev.fix rfl (Ev.pos (by omega) (Ev.pos (by omega) (Ev.pos (by rw [List.length_nil]; omega) (Ev.bind (put_ev h9 ?_ (by omega)) ?_)))))
      · rw [List.nil_append]; exact h9i
      · rw [List.nil_append]; exact hr
  | succ d ih =>
    intro c b c0 c1 hb
    refine Ev.step (fun k => by rw [spec_SpreadDerive.l1]) ?_
    rw [w64 (x := c + 1) (by omega) (by omega)]
    refine Ev.pos (by omega) ?_
    by_cases e : b = true
    · refine Ev.pos e (ih (c + 1) true (by omega) (by omega) ⟨fun _ => ?_, fun _ => rfl⟩)
      obtain ⟨j, j0, j1, h⟩ := hb.1 e
      exact ⟨j, j0, by omega, h⟩
    · have hc9 := r9 ⟨c.toNat, by omega⟩
      have ec : (((⟨c.toNat, by omega⟩ : Fin 4).val : Nat) : Int) = c := by show ((c.toNat : Nat) : Int) = c; omega
      rw [ec] at hc9
      refine Ev.neg e (Ev.pos (by omega) (Ev.pos (by omega) (Ev.pos c0 (Ev.pos (by omega) (Ev.bind (l6lSame_ev _ _ h9i hc9) (ih (c + 1) _ (by omega) (by omega) ?_))))))
      rw [decide_eq_true_iff]
      constructor
      · intro h; exact ⟨c, c0, by omega, h⟩
      · rintro ⟨j, j0, j1, h⟩
        by_cases ej : j = c
        · rw [← ej]; exact h
        · exact absurd (hb.2 ⟨j, j0, by omega, h⟩) e
theorem derive_l2 (L : List Int) (hL : L.length ≤ 10) (hx : ∀ x ∈ L, 0 < x ∧ x < 9) (d : Nat) : ∀ (i : Int) (o : List (List Int)), 0 ≤ i → i + d = L.length → o.length ≤ 20 + i → (∀ a ∈ o, a.length = 9) → Ev (fun k => spec_SpreadDerive.l2 k o L (L.length : Int) i) (insAll o (L.drop i.toNat), true) := by
  induction d with
  | zero =>
    intro i o i0 i1 ho h9
    refine Ev.step (fun k => by rw [spec_SpreadDerive.l2]) ?_
    rw [show L.drop i.toNat = [] from List.drop_eq_nil_of_le (by omega)]
    exact Ev.neg (by omega) (Ev.done rfl)
  | succ d ih =>
    intro i o i0 i1 ho h9
    have hm := hx _ (rd_mem (t := L) (i := i) (by omega) i0)
    have nx := ih (i + 1) (insL o (otherL (rd L i))) (by omega) (by omega) (by rw [insL_length]; omega) (insL_nines h9 (other_len _ hm.1 hm.2))
    have ed : L.drop i.toNat = rd L i :: L.drop (i + 1).toNat := by
      rw [List.drop_eq_getElem_cons (show i.toNat < L.length by omega), rd_getElem i0 (by omega), show i.toNat + 1 = (i + 1).toNat by omega]
    rw [ed]
    refine Ev.step (fun k => by rw [spec_SpreadDerive.l2]) ?_
    rw [w64 (x := i + 1) (by omega) (by omega)]
    exact Ev.pos (by omega) (Ev.pos i0 (Ev.pos (by omega) (Ev.bind (other_ev _ (by omega) hm.2) (Ev.bind (put_ev h9 (other_len _ hm.1 hm.2) (by omega)) nx))))
theorem derive_l0 {l : List (List Int)} (h : spreadB l = true) (d : Nat) : ∀ i : Nat, i + d = 10 → Ev (fun k => spec_SpreadDerive.l0 k l regL (restN l i) (i : Int)) (deriveR l) := by
  induction d with
  | zero =>
    intro i hi
    obtain rfl : i = 10 := by omega
    obtain ⟨h1, h2⟩ := restN_nines h 10 (by omega)
    refine Ev.step (fun k => by rw [spec_SpreadDerive.l0]) ?_
    refine Ev.neg (by omega) ?_
    unfold deriveR
    by_cases e : (restN l 10).length = 6
    · rw [if_pos ⟨h, e⟩]
      refine Ev.pos (by omega) (Ev.fix rfl ?_)
      exact derive_l2 [1, 3, 4, 5] (by decide) (by decide) 4 0 _ (by omega) (by decide) (by omega) h2
    · rw [if_neg (fun h => e h.2)]
      exact Ev.neg (by omega) (Ev.done rfl)
  | succ d ih =>
    intro i hi
    obtain ⟨h1, h2⟩ := restN_nines h i (by omega)
    refine Ev.step (fun k => by rw [spec_SpreadDerive.l0]) ?_
    refine Ev.pos (by omega) (derive_l1 h (restN l i) (by omega) (by omega) h2 (ih (i + 1) (by omega)) 4 0 false (by omega) (by omega) ⟨fun h => absurd h (by decide), fun ⟨j, j0, j1, _⟩ => absurd j1 (by omega)⟩)
theorem specDerive_ev (l : List (List Int)) : Ev (fun k => spec_SpreadDerive.f k l) (deriveR l) := by
  unfold spec_SpreadDerive.f
  refine Ev.bind (specSpread_ev l) ?_
  by_cases h : spreadB l = true
  · exact Ev.pos h (Ev.bind regulus_ev (derive_l0 h 10 0 (by omega)))
  · unfold deriveR
    rw [if_neg (fun h2 => h h2.1)]
    exact Ev.neg h (Ev.done rfl)
theorem insAll_nines (L : List Int) : ∀ o : List (List Int), (∀ x ∈ L, 0 < x ∧ x < 9) → (∀ a ∈ o, a.length = 9) → ∀ a ∈ insAll o L, a.length = 9 := by
  induction L with
  | nil => intro o _ h; exact h
  | cons x L ih => intro o hx h; exact ih _ (fun y hy => hx y (List.mem_cons_of_mem _ hy)) (insL_nines h (other_len _ (hx x List.mem_cons_self).1 (hx x List.mem_cons_self).2))
theorem insAll_length (L : List Int) : ∀ o : List (List Int), (insAll o L).length = o.length + L.length := by
  induction L with
  | nil => intro o; rfl
  | cons x L ih => intro o; show (insAll _ L).length = _; rw [ih, insL_length, List.length_cons]; omega
theorem deriveL_nines {l : List (List Int)} (h : spreadB l = true) : ∀ a ∈ deriveL l, a.length = 9 := insAll_nines _ _ (by decide) (restN_nines h 10 (by omega)).2
theorem deriveL_length (l : List (List Int)) : (deriveL l).length = (restN l 10).length + 4 := insAll_length _ _
end Go.Proofs.Ytbfafjejmljcpaa.X

namespace Go.Proofs.Ytbfafjejmljcpaa.P
open Go.RowKit Go.Proofs.YtbfafjejmljcpaaW.PrintWords Go.Proofs.YtbfafjejmljcpaaW.PrintLast
set_option linter.unusedVariables false
set_option linter.unusedSimpArgs false

def cmp_Less_int.f (a0 : Int) (a1 : Int) : Option (Bool) := (cmp_isNaN_int.f a0).bind fun t303 => (if t303 = true then ((cmp_isNaN_int.f a1).bind fun t304 => (if t304 = true then (some (decide (a0 < a1))) else (some true))) else (some (decide (a0 < a1))))
set_option maxHeartbeats 8000000 in
set_option maxRecDepth 100000 in
theorem cmp_Less_int.calls (a0 : Int) (a1 : Int) (r : Bool) (w : World) (h : cmp_Less_int.f a0 a1 = some r) :
  Calls Try.prog 90 #[.int .i64 a0, .int .i64 a1] w fun e w' => e = .returned (.bool r) ∧ Drawn0 w w' := by
 have H : ((cmp_isNaN_int.f a0).bind fun t303 => (if t303 = true then ((cmp_isNaN_int.f a1).bind fun t304 => (if t304 = true then (some (decide (a0 < a1))) else (some true))) else (some (decide (a0 < a1))))) = some r := h
 clear h
 replace H := Option.bind_eq_some_iff.mp H
 obtain ⟨t303, A30, H⟩ := H
 replace H : (if t303 = true then ((cmp_isNaN_int.f a1).bind fun t304 => (if t304 = true then (some (decide (a0 < a1))) else (some true))) else (some (decide (a0 < a1)))) = some r := H
 have A3 := Aside0.mk A30
 clear A30
 by_cases c4 : t303 = true
 ·subst c4
  have H1 : ((cmp_isNaN_int.f a1).bind fun t304 => (if t304 = true then (some (decide (a0 < a1))) else (some true))) = some r := by rw [if_pos rfl] at H; exact H
  clear H
  have H := H1
  clear H1
  replace H := Option.bind_eq_some_iff.mp H
  obtain ⟨t304, A50, H⟩ := H
  replace H : (if t304 = true then (some (decide (a0 < a1))) else (some true)) = some r := H
  have A5 := Aside0.mk A50
  clear A50
  by_cases c6 : t304 = true
  ·subst c6
   have H1 : (some (decide (a0 < a1))) = some r := by rw [if_pos rfl] at H; exact H
   clear H
   have H := H1
   clear H1
   obtain rfl := Option.some.inj H
   go_enter Try.func90, Try.ntmps90
   go_wp2_with (first | (refine goesL_ (some 6) rfl rfl Try.func126 (by kernel_rfl) rfl #[.int .i64 a0] rfl ll_ ?_; (with_reducible refine (cmp_isNaN_int.calls a0 true _ A3.out).mono ?_); rintro e w' ⟨rfl, ⟨nd, rfl⟩⟩; refine ⟨_, rfl, ?_⟩) | (go_at_call 126; (with_reducible refine (cmp_isNaN_int.calls a1 true _ A5.out).mono ?_); rintro e w' ⟨rfl, ⟨nd, rfl⟩⟩))
   go_ret
   exact ⟨by first | rfl | (simp; done) | (simp [*]; done), by repeat (first | exact Drawn0.refl _ | apply Drawn0.step)⟩
  ·replace c6 := Bool.eq_false_iff.mpr c6
   subst c6
   have H1 : (some true) = some r := by rw [if_neg (show ¬ (false = true) by decide)] at H; exact H
   clear H
   have H := H1
   clear H1
   obtain rfl := Option.some.inj H
   go_enter Try.func90, Try.ntmps90
   go_wp2_with (first | (refine goesL_ (some 6) rfl rfl Try.func126 (by kernel_rfl) rfl #[.int .i64 a0] rfl ll_ ?_; (with_reducible refine (cmp_isNaN_int.calls a0 true _ A3.out).mono ?_); rintro e w' ⟨rfl, ⟨nd, rfl⟩⟩; refine ⟨_, rfl, ?_⟩) | (go_at_call 126; (with_reducible refine (cmp_isNaN_int.calls a1 false _ A5.out).mono ?_); rintro e w' ⟨rfl, ⟨nd, rfl⟩⟩))
   go_ret
   exact ⟨by first | rfl | (simp; done) | (simp [*]; done), by repeat (first | exact Drawn0.refl _ | apply Drawn0.step)⟩
 ·replace c4 := Bool.eq_false_iff.mpr c4
  subst c4
  have H1 : (some (decide (a0 < a1))) = some r := by rw [if_neg (show ¬ (false = true) by decide)] at H; exact H
  clear H
  have H := H1
  clear H1
  obtain rfl := Option.some.inj H
  go_enter Try.func90, Try.ntmps90
  go_wp2_with (first | (refine goesL_ (some 6) rfl rfl Try.func126 (by kernel_rfl) rfl #[.int .i64 a0] rfl ll_ ?_; (with_reducible refine (cmp_isNaN_int.calls a0 false _ A3.out).mono ?_); rintro e w' ⟨rfl, ⟨nd, rfl⟩⟩; refine ⟨_, rfl, ?_⟩))
  go_ret
  exact ⟨by first | rfl | (simp; done) | (simp [*]; done), by repeat (first | exact Drawn0.refl _ | apply Drawn0.step)⟩
end Go.Proofs.Ytbfafjejmljcpaa.P

namespace Go.Proofs.Ytbfafjejmljcpaa.P
open Go.RowKit Go.Proofs.YtbfafjejmljcpaaW.PrintWords Go.Proofs.YtbfafjejmljcpaaW.PrintLast
set_option linter.unusedVariables false
set_option linter.unusedSimpArgs false

mutual
def slices_insertionSortOrdered_int.l0 : Nat → List Int → Int → Int → Int → Option (List Int)
 | 0, _, _, _, _ => none
 | k + 1, x0, x1, x2, x6 => if x6 < x2 then (slices_insertionSortOrdered_int.l1 k x0 x1 x2 x6 x6) else (some x0)
def slices_insertionSortOrdered_int.l1 : Nat → List Int → Int → Int → Int → Int → Option (List Int)
 | 0, _, _, _, _, _ => none
 | k + 1, x0, x1, x2, x6, x7 => if x7 > x1 then (if 0 ≤ x7 then (if x7 < (x0.length : Int) then (if 0 ≤ (wrap64 (x7 - 1)) then (if (wrap64 (x7 - 1)) < (x0.length : Int) then ((cmp_Less_int.f (rd x0 x7) (rd x0 (wrap64 (x7 - 1)))).bind fun t691 => (if t691 = true then (slices_insertionSortOrdered_int.l1 k ((x0.set (x7 : Int).toNat (rd x0 (wrap64 (x7 - 1)))).set ((wrap64 (x7 - 1)) : Int).toNat (rd x0 x7)) x1 x2 x6 (wrap64 (x7 - 1))) else (slices_insertionSortOrdered_int.l0 k x0 x1 x2 (wrap64 (x6 + 1))))) else (none)) else (none)) else (none)) else (none)) else (slices_insertionSortOrdered_int.l0 k x0 x1 x2 (wrap64 (x6 + 1)))
end
def slices_insertionSortOrdered_int.f (k : Nat) (l0 : List Int) (a1 : Int) (a2 : Int) : Option (List Int) := slices_insertionSortOrdered_int.l0 k l0 a1 a2 (wrap64 (a1 + 1))
def slices_insertionSortOrdered_int.T4 : Bool × List (List Nat × List Nat) := (true, [([], []), ([], []), ([0, 1], [0, 1]), ([2], [2]), ([3], [3]), ([3], [3]), ([4, 5, 3], [3, 4, 5]), ([6, 3], [3, 6]), ([3], [3]), ([3], [3]), ([9, 3], [3, 9]), ([8, 10, 3], [3, 8, 10]), ([11, 3], [3, 11]), ([7, 12, 3, 3], [3, 7, 12]), ([3, 13], [3, 13])])
def slices_insertionSortOrdered_int.B4 : List Nat := [0, 0, 3, 7, 15, 15, 63, 127, 15, 15, 527, 1807, 3855, 8191, 16383]
theorem slices_insertionSortOrdered_int.tab4 : rtab .any (opsOf Try.f129 4) = slices_insertionSortOrdered_int.T4 := by kernel_rfl
theorem slices_insertionSortOrdered_int.bits4 : waitsOk slices_insertionSortOrdered_int.T4.2 slices_insertionSortOrdered_int.B4 = true := by kernel_rfl
def slices_insertionSortOrdered_int.T6 : Bool × List (List Nat × List Nat) := (true, [([], []), ([], []), ([], []), ([], []), ([3], [3]), ([], []), ([], []), ([6], [6]), ([5, 7], [5, 7]), ([8], [8]), ([], []), ([], []), ([10, 11], [10, 11]), ([12], [12]), ([0, 1, 0, 1, 5, 6, 7, 8, 9, 13], [0, 1]), ([14, 9, 0, 1, 5, 6, 7, 8, 9, 13], [9, 14]), ([2, 4, 0, 1, 2, 3, 4, 5, 6, 7, 8, 9, 10, 11, 12, 13, 14, 15], [2, 4]), ([16, 13, 15, 0, 1, 2, 3, 4, 5, 6, 7, 8, 9, 10, 11, 12, 13, 14, 15], [13, 16])])
def slices_insertionSortOrdered_int.B6 : List Nat := [0, 0, 0, 0, 8, 0, 0, 64, 224, 480, 0, 0, 3072, 7168, 16355, 32739, 65535, 131071]
theorem slices_insertionSortOrdered_int.tab6 : rtab .any (opsOf Try.f129 6) = slices_insertionSortOrdered_int.T6 := by kernel_rfl
theorem slices_insertionSortOrdered_int.bits6 : waitsOk slices_insertionSortOrdered_int.T6.2 slices_insertionSortOrdered_int.B6 = true := by kernel_rfl
set_option maxHeartbeats 8000000 in
set_option maxRecDepth 100000 in
theorem slices_insertionSortOrdered_int.calls (k : Nat) (P0_ : Nat → Prop) (u9000_ : Value) (l0 : List Int) (a1 : Int) (a2 : Int) (r : List Int) (w0 w : World) (hB : Below w0.heap.size w0 w) (ho0 : Kd.R (Kd.int .i64) 3 w w0.heap.size P0_ u9000_ l0) (h : slices_insertionSortOrdered_int.f k l0 a1 a2 = some r) :
  Calls Try.prog 129 #[u9000_, .int .i64 a1, .int .i64 a2] w fun e w' => e = .returned (.tuple #[]) ∧ Kd.R (Kd.int .i64) 3 w' w0.heap.size (fun k_ => (P0_ k_ ∨ w.heap.size ≤ k_)) u9000_ r ∧ Below w0.heap.size w0 w' ∧ Kept w w' (fun k_ => P0_ k_) := by
 have HO0 := Aside0.mk (show Kd.R (Kd.int .i64) 3 w w0.heap.size (fun k_ => (P0_ k_ ∨ w.heap.size ≤ k_)) u9000_ l0 from Kd.R_mono ho0 (fun k_ hk => (.inl hk)))
 have HK := Aside0.mk (Kept.refl w (fun k_ => P0_ k_))
 have HW0 := Aside0.mk hB.size
 have HB := Aside0.mk hB
 clear hB
 have H : (slices_insertionSortOrdered_int.l0 k l0 a1 a2 (wrap64 (a1 + 1))) = some r := h
 clear h
 have H' := Aside0.mk H
 clear H
 go_enter Try.func129, Try.ntmps129
 go_wp2
 go_loopg [6] k (fun kq v6 w' => ∃ (x0_1 : List Int) (x6_1 : Int), v6 = .int .i64 x6_1 ∧ Aside0 (slices_insertionSortOrdered_int.l0 kq x0_1 a1 a2 x6_1 = some r) ∧ Aside0 (kq ≤ k) ∧ Aside0 (Kd.R (Kd.int .i64) 3 w' w0.heap.size (fun k_ => (P0_ k_ ∨ w.heap.size ≤ k_)) u9000_ x0_1) ∧ Aside0 (Kept w w' (fun k_ => P0_ k_)) ∧ Aside0 (Below w0.heap.size w0 w'))
 case atStart => exact ⟨(l0), (wrap64 (a1 + 1)), (by first | rfl | (simp; done) | (simp [*]; done)), H', ⟨Nat.le_refl _⟩, ⟨rr_ HO0⟩, ⟨by repeat (first | (with_reducible first | exact HK.out | apply Kept.alloc | apply Kept.drewN | apply Kept.drew) | exact HK.out)⟩, ⟨by repeat (first | (with_reducible first | exact HB.out | apply below_alloc | apply pw_below_drewN | apply below_drew1) | exact HB.out)⟩⟩
 case round =>
  clear H'
  try clear c1
  try clear p2
  obtain ⟨x0_1, x6_1, rfl, HA, HK1, HO_0, HK, HB⟩ := hrel
  cases gk with
  | zero => exact absurd HA.out (by simp [slices_insertionSortOrdered_int.l0])
  | succ k1 =>
   have H := HA.out
   clear HA
   simp only [slices_insertionSortOrdered_int.l0] at H
   by_cases c4 : x6_1 < a2
   ·rw [if_pos c4] at H
    have c4b0 : decide (x6_1 < a2) = true := decide_eq_true c4
    clear c4
    have H' := Aside0.mk H
    clear H
    go_wp2
    go_loopg [7] k1 (fun kq v7 w' => ∃ (x0_2 : List Int) (x7_2 : Int), v7 = .int .i64 x7_2 ∧ Aside0 (slices_insertionSortOrdered_int.l1 kq x0_2 a1 a2 x6_1 x7_2 = some r) ∧ Aside0 (kq ≤ k1) ∧ Aside0 (Kd.R (Kd.int .i64) 3 w' w0.heap.size (fun k_ => (P0_ k_ ∨ w.heap.size ≤ k_)) u9000_ x0_2) ∧ Aside0 (Kept w w' (fun k_ => P0_ k_)) ∧ Aside0 (Below w0.heap.size w0 w'))
    case atStart => exact ⟨(x0_1), (x6_1), (by first | rfl | (simp; done) | (simp [*]; done)), H', ⟨Nat.le_refl _⟩, ⟨rr_ HO_0⟩, ⟨by repeat (first | (with_reducible first | exact HK.out | apply Kept.alloc | apply Kept.drewN | apply Kept.drew) | exact HK.out)⟩, ⟨by repeat (first | (with_reducible first | exact HB.out | apply below_alloc | apply pw_below_drewN | apply below_drew1) | exact HB.out)⟩⟩
    case round =>
     clear H'
     try clear c1
     try clear p2
     try clear c4
     try clear c4b0
     try clear p2
     obtain ⟨x0_2, x7_2, rfl, HA, HK2, HO_0, HK, HB⟩ := hrel
     cases gk with
     | zero => exact absurd HA.out (by simp [slices_insertionSortOrdered_int.l1])
     | succ k2 =>
      have H := HA.out
      clear HA
      simp only [slices_insertionSortOrdered_int.l1] at H
      by_cases c5 : x7_2 > a1
      ·rw [if_pos c5] at H
       have c5b0 : decide (a1 < x7_2) = true := decide_eq_true c5
       clear c5
       by_cases c6 : 0 ≤ x7_2
       ·rw [if_pos c6] at H
        have c6b0 : decide (0 ≤ x7_2) = true := decide_eq_true c6
        clear c6
        by_cases c7 : x7_2 < (x0_2.length : Int)
        ·rw [if_pos c7] at H
         have c7b0 : decide (x7_2 < (x0_2.length : Int)) = true := decide_eq_true c7
         clear c7
         obtain ⟨ji8, hji8⟩ : ∃ j_ : Int, (wrap64 (x7_2 - 1)) = j_ := ⟨_, rfl⟩
         replace H : (if 0 ≤ (ji8) then (if (ji8) < (x0_2.length : Int) then ((cmp_Less_int.f (rd x0_2 x7_2) (rd x0_2 (ji8))).bind fun t691 => (if t691 = true then (slices_insertionSortOrdered_int.l1 k2 ((x0_2.set (x7_2 : Int).toNat (rd x0_2 (ji8))).set ((ji8) : Int).toNat (rd x0_2 x7_2)) a1 a2 x6_1 ji8) else (slices_insertionSortOrdered_int.l0 k2 x0_2 a1 a2 (wrap64 (x6_1 + 1))))) else (none)) else (none)) = some r := by first | (rw [hji8] at H; exact H) | (simp only [hji8] at H ⊢; exact H)
         have hji8w : (IntKind.i64.wrap (x7_2 - 1)) = ji8 := (i64_w _).trans hji8
         by_cases c9 : 0 ≤ (ji8)
         ·rw [if_pos c9] at H
          have c9b0 : decide (0 ≤ (ji8)) = true := decide_eq_true c9
          clear c9
          by_cases c10 : (ji8) < (x0_2.length : Int)
          ·rw [if_pos c10] at H
           have c10b0 : decide ((ji8) < (x0_2.length : Int)) = true := decide_eq_true c10
           clear c10
           replace H := Option.bind_eq_some_iff.mp H
           obtain ⟨t691, A110, H⟩ := H
           replace H : (if t691 = true then (slices_insertionSortOrdered_int.l1 k2 ((x0_2.set (x7_2 : Int).toNat (rd x0_2 (ji8))).set ((ji8) : Int).toNat (rd x0_2 x7_2)) a1 a2 x6_1 ji8) else (slices_insertionSortOrdered_int.l0 k2 x0_2 a1 a2 (wrap64 (x6_1 + 1)))) = some r := H
           have A11 := Aside0.mk A110
           clear A110
           by_cases c12 : t691 = true
           ·subst c12
            have H1 : (slices_insertionSortOrdered_int.l1 k2 ((x0_2.set (x7_2 : Int).toNat (rd x0_2 (ji8))).set ((ji8) : Int).toNat (rd x0_2 x7_2)) a1 a2 x6_1 ji8) = some r := by rw [if_pos rfl] at H; exact H
            clear H
            have H := H1
            clear H1
            obtain ⟨y694, hy694⟩ : ∃ y_ : List Int, y_ = (x0_2.set (x7_2 : Int).toNat (rd x0_2 (ji8))) := ⟨_, rfl⟩
            replace H : (slices_insertionSortOrdered_int.l1 k2 (y694.set ((ji8) : Int).toNat (rd x0_2 x7_2)) a1 a2 x6_1 ji8) = some r := by first | (rw [hy694]; with_reducible exact H) | (have H2_ := (Option.bind_some _ _).symm.trans H; rw [hy694]; with_reducible exact H2_) | (have H2_ := (Option.bind_some _ _).symm.trans H; with_reducible exact H2_) | with_reducible exact H | (rw [hy694]; exact H) | exact H
            have Ny694 := Aside0.mk hy694
            clear hy694
            obtain ⟨y695, hy695⟩ : ∃ y_ : List Int, y_ = (y694.set ((ji8) : Int).toNat (rd x0_2 x7_2)) := ⟨_, rfl⟩
            replace H : (slices_insertionSortOrdered_int.l1 k2 y695 a1 a2 x6_1 ji8) = some r := by first | (rw [hy695]; with_reducible exact H) | (have H2_ := (Option.bind_some _ _).symm.trans H; rw [hy695]; with_reducible exact H2_) | (have H2_ := (Option.bind_some _ _).symm.trans H; with_reducible exact H2_) | with_reducible exact H | (rw [hy695]; exact H) | exact H
            have Ny695 := Aside0.mk hy695
            clear hy695
            have H' := Aside0.mk H
            clear H
            try go_wp2
            have n0_ := Aside0.mk (Kd.R_drew HO_0.out)
            have n1_ := Aside0.mk (Kept.drew HK.out)
            have n2_ := Aside0.mk (below_drew1 HB.out)
            clear HO_0
            clear HK
            clear HB
            have HO_0 := n0_
            have HK := n1_
            have HB := n2_
            clear n0_ n1_ n2_
            obtain ⟨Ao16, co16, eo16⟩ := Kd.R_slice HO_0.out
            (first | subst eo16 | (injection eo16 with f1_ f2_ f3_; have f4_ := f1_.symm; have f5_ := f3_.symm; clear f1_ f2_ f3_; subst f4_; subst f5_))
            have p689 : 0 ≤ (x7_2 : Int) := dd_
            have q689 : x7_2 < (x0_2.length : Int) := dd_
            obtain ⟨ad689, e689, hx689_0⟩ := Kd.at_int (Kd.R_reads' HO_0.out).2.2 x7_2 p689 q689
            cases e689
            replace p689 := eq_true p689
            replace q689 := eq_true q689
            have p690 : 0 ≤ ((ji8) : Int) := dd_
            have q690 : (ji8) < (x0_2.length : Int) := dd_
            obtain ⟨ad690, e690, hx690_0⟩ := Kd.at_int (Kd.R_reads' HO_0.out).2.2 (ji8) p690 q690
            obtain rfl : ad689 = ad690 := (by injection e690)
            replace p690 := eq_true p690
            replace q690 := eq_true q690
            refine start_ (n := 15) (S := fun w' => w'.cell? (ad689.add (x7_2).toNat) = some (.int .i64 (rd x0_2 x7_2)) ∧ w'.cell? (ad689.add ((ji8)).toNat) = some (.int .i64 (rd x0_2 (ji8)))) (ds := []) #[F_,F_,F_,F_,F_,F_,F_,F_,F_,F_,F_,F_,F_,F_,F_] (by kernel_rfl) rfl rfl ⟨hx689_0, hx690_0⟩ (fun hHeld => ?_); refine with_tabW slices_insertionSortOrdered_int.tab4 slices_insertionSortOrdered_int.bits4 (fun HT_ HW_ => ?_)
            generalize wr.drew = w15 at HO_0 HK HB hx689_0 hx690_0 hHeld ⊢
            refine p_ 0 16 (m_ 15 1) HT_.out ?_
            refine p_ 1 17 (m_ 15 3) HT_.out ?_
            refine p_ 2 18 (m_ 15 7) HT_.out ?_
            refine p_ 3 19 (m_ 15 15) HT_.out ?_
            refine p_ 4 20 (m_ 15 31) HT_.out ?_
            refine p_ 5 21 (m_ 15 63) HT_.out ?_
            refine p_ 6 22 (m_ 15 127) HT_.out ?_
            refine p_ 8 24 (m_ 15 383) HT_.out ?_
            refine p_ 9 25 (m_ 15 895) HT_.out ?_
            refine p_ 10 26 (m_ 15 1919) HT_.out ?_
            refine p_ 11 27 (m_ 15 3967) HT_.out ?_
            refine t2_ 7 23 (m_ 15 4095) HT_.out HW_.out hHeld ?_
            refine t2_ 12 28 (m_ 15 8191) HT_.out HW_.out hHeld ?_
            refine one_ (i := 13) (N := some 29) (m_ 15 16383) rfl rfl (one_of HT_.out (by kernel_rfl)) (by decide) (fun K hK => ?_)
            refine goes_ Try.func90 (by kernel_rfl) rfl #[.int .i64 (rd x0_2 x7_2), .int .i64 (rd x0_2 (ji8))] (by rfl) rfl rfl (by (try simp only [List.map_toArray, List.map_cons, List.map_nil]); first | done | (simp only [hji8]; rfl) | rfl | (simp only [List.length_drop, List.length_take]; rfl)) ?_
            with_reducible refine (cmp_Less_int.calls (rd x0_2 x7_2) (rd x0_2 (ji8)) true _ A11.out).mono ?_
            rintro e w' ⟨rfl, ⟨nd, rfl⟩⟩
            refine ⟨_, rfl, ?_⟩
            refine hK.out _ _ ⟨hHeld.1, hHeld.2⟩ (fun hHeld => ?_)
            clear hK K
            refine norm_ (a' := ?_) ?_ ?_; rotate_left; (show Act.put _ (some 29) _ = _; simp only [Act.put, List.setIfInBounds_toArray, List.set_cons_zero, List.set_cons_succ, i64_w, i32_w]; rfl)
            refine p_ 14 30 (m_ 15 32767) HT_.out ?_
            refine done_ (done_of HT_.out (by kernel_rfl)) ?_
            try go_wp2
            (try (rw [dself_ w15]; generalize hq_ : World.drewN w15 _ = w15; have n0_ : Aside0 (Kd.R (Kd.int .i64) 3 w15 w0.heap.size (fun k_ => (P0_ k_ ∨ w.heap.size ≤ k_)) (.slice (some ad689) x0_2.length co16) x0_2) := ⟨by rw [← hq_]; exact (rr_ HO_0)⟩; have n1_ : Aside0 (Kept w w15 (fun k_ => P0_ k_)) := ⟨by rw [← hq_]; exact (by repeat (first | (with_reducible first | exact HK.out | apply Kept.alloc | apply Kept.drewN | apply Kept.drew) | exact HK.out))⟩; have n2_ : Aside0 (Below w0.heap.size w0 w15) := ⟨by rw [← hq_]; exact (bb_ HB)⟩; clear HO_0 HK HB hq_; have HO_0 := n0_; have HK := n1_; have HB := n2_; clear n0_ n1_ n2_))
            have n0_ := Aside0.mk (Kd.R_drew HO_0.out)
            have n1_ := Aside0.mk (Kept.drew HK.out)
            have n2_ := Aside0.mk (below_drew1 HB.out)
            clear HO_0
            clear HK
            clear HB
            have HO_0 := n0_
            have HK := n1_
            have HB := n2_
            clear n0_ n1_ n2_
            have p692 : 0 ≤ ((ji8) : Int) := dd_
            have q692 : (ji8) < (x0_2.length : Int) := dd_
            obtain ⟨ad692, e692, hx692_0⟩ := Kd.at_int (Kd.R_reads' HO_0.out).2.2 (ji8) p692 q692
            obtain rfl : ad689 = ad692 := (by injection e692)
            replace p692 := eq_true p692
            replace q692 := eq_true q692
            have p693 : 0 ≤ (x7_2 : Int) := dd_
            have q693 : x7_2 < (x0_2.length : Int) := dd_
            obtain ⟨ad693, e693, hx693_0⟩ := Kd.at_int (Kd.R_reads' HO_0.out).2.2 x7_2 p693 q693
            obtain rfl : ad689 = ad693 := (by injection e693)
            replace p693 := eq_true p693
            replace q693 := eq_true q693
            have p13 : 0 ≤ (x7_2 : Int) := dd_
            have q13 : (x7_2 : Int) < ((x0_2.length : Int) : Int) := dd_
            obtain ⟨go13, co13, eo13, gb13, gl13, cl13, HG13⟩ := Kd.R_form HO_0.out (by omega)
            (first | cases eo13 | (injection eo13 with ea_ en_ ec_; (first | subst ea_ | (injection ea_ with ea_; subst ea_)); subst ec_; clear en_))
            have GB13 := Aside0.mk gb13
            have GG13 := Aside0.mk HG13
            clear gb13 gl13 HG13
            have HMgo13 := Aside0.mk (show (P0_ go13 ∨ w.heap.size ≤ go13) from (HO_0.out.1 _ rfl))
            (first | simp only [add_plain] at hx689_0 | skip)
            (first | simp only [add_plain] at hx690_0 | skip)
            (first | simp only [add_plain] at hx692_0 | skip)
            (first | simp only [add_plain] at hx693_0 | skip)
            obtain ⟨hx13_0, hf13_0⟩ := Kd.R_celln 0 HO_0.out (x7_2 : Int) p13 q13
            replace p13 := eq_true p13
            replace q13 := eq_true q13
            have HP18 := Kd.R_putn HO_0.out (x7_2 : Int) (rd x0_2 (ji8))
            rw [← Ny694.out] at HP18
            have HQ18 := Aside0.mk HP18
            clear HP18
            have p14 : 0 ≤ ((ji8) : Int) := dd_
            have q14 : ((ji8) : Int) < ((x0_2.length : Int) : Int) := dd_
            obtain ⟨hx14_0, hf14_0⟩ := Kd.R_celln 0 HQ18.out ((ji8) : Int) p14 q14
            replace p14 := eq_true p14
            replace q14 := eq_true q14
            have HP19 := Kd.R_putn HQ18.out ((ji8) : Int) (rd x0_2 x7_2)
            rw [← Ny695.out] at HP19
            have HQ19 := Aside0.mk HP19
            clear HP19
            refine start_ (n := 18) (S := fun w' => w'.cell? ⟨go13, ((ji8)).toNat, none⟩ = some (.int .i64 (rd x0_2 (ji8))) ∧ w'.cell? ⟨go13, (x7_2).toNat, none⟩ = some (.int .i64 (rd x0_2 x7_2))) (ds := [15, 17]) #[F_,F_,F_,F_,F_,F_,F_,F_,F_,F_,F_,F_,F_,F_,F_,F_,F_,F_] (by kernel_rfl) rfl rfl ⟨hx692_0, hx693_0⟩ (fun hHeld => ?_); refine with_tabW slices_insertionSortOrdered_int.tab6 slices_insertionSortOrdered_int.bits6 (fun HT_ HW_ => ?_)
            generalize w15.drew = w17 at HO_0 HK HB GG13 HQ18 HQ19 hf13_0 hf14_0 hx13_0 hx14_0 hx689_0 hx690_0 hx692_0 hx693_0 hHeld ⊢
            refine p_ 0 33 (m_ 18 1) HT_.out ?_
            refine p_ 1 34 (m_ 18 3) HT_.out ?_
            refine p_ 2 35 (m_ 18 7) HT_.out ?_
            refine p_ 3 36 (m_ 18 15) HT_.out ?_
            refine p_ 4 37 (m_ 18 31) HT_.out ?_
            refine p_ 5 38 (m_ 18 63) HT_.out ?_
            refine p_ 6 39 (m_ 18 127) HT_.out ?_
            refine p_ 7 40 (m_ 18 255) HT_.out ?_
            refine p_ 8 41 (m_ 18 511) HT_.out ?_
            refine p_ 10 43 (m_ 18 1535) HT_.out ?_
            refine p_ 11 44 (m_ 18 3583) HT_.out ?_
            refine p_ 12 45 (m_ 18 7679) HT_.out ?_
            refine t2_ 9 42 (m_ 18 8191) HT_.out HW_.out hHeld ?_
            refine t2_ 13 46 (m_ 18 16383) HT_.out HW_.out hHeld ?_
            refine p_ 14 47 (m_ 18 32767) HT_.out ?_
            refine last_ (i := 15) (N := none) (m_ 18 65535) rfl rfl (one_of HT_.out (by kernel_rfl)) (by decide) (fun K hK => ?_)
            refine skip_ (w1 := ?_) (by rfl) rfl ?_ ?_; rotate_left; (go_simp; rfl)
            refine hK.out _ _ ?_
            clear hK K
            refine p_ 16 48 (m_ 18 131071) HT_.out ?_
            refine last_ (i := 17) (N := none) (m_ 18 262143) rfl rfl (one_of HT_.out (by kernel_rfl)) (by decide) (fun K hK => ?_)
            refine skip_ (w1 := ?_) (by rfl) rfl ?_ ?_; rotate_left; (go_simp; rfl)
            refine hK.out _ _ ?_
            clear hK K
            refine done_ (done_of HT_.out (by kernel_rfl)) ?_
            try go_wp2
            go_roundg k2
            case measure => have := HK1.out; have := HK2.out; omega
            case rel => exact ⟨(y695), (ji8), (by first | rfl | (simp; done) | (simp only [← hji8] <;> (first | rfl | simp)) | (simp [*]; done)), H', ⟨by have := HK1.out; have := HK2.out; omega⟩, ⟨rr_ HQ19⟩, ⟨by repeat (first | (with_reducible first | exact HK.out | apply Kept.alloc | apply Kept.drewN | apply Kept.drew | refine Kept.setCell ?_ HMgo13.out _ | refine Kept.setCell ?_ HMgo13.out _) | exact HK.out)⟩, ⟨by repeat (first | (with_reducible first | exact HB.out | apply below_alloc | apply pw_below_drewN | apply below_drew1 | refine below_set ?_ GB13.out | refine below_set ?_ GB13.out) | exact HB.out)⟩⟩
           ·replace c12 := Bool.eq_false_iff.mpr c12
            subst c12
            have H1 : (slices_insertionSortOrdered_int.l0 k2 x0_2 a1 a2 (wrap64 (x6_1 + 1))) = some r := by rw [if_neg (show ¬ (false = true) by decide)] at H; exact H
            clear H
            have H := H1
            clear H1
            have H' := Aside0.mk H
            clear H
            try go_wp2
            have n0_ := Aside0.mk (Kd.R_drew HO_0.out)
            have n1_ := Aside0.mk (Kept.drew HK.out)
            have n2_ := Aside0.mk (below_drew1 HB.out)
            clear HO_0
            clear HK
            clear HB
            have HO_0 := n0_
            have HK := n1_
            have HB := n2_
            clear n0_ n1_ n2_
            obtain ⟨Ao21, co21, eo21⟩ := Kd.R_slice HO_0.out
            (first | subst eo21 | (injection eo21 with f1_ f2_ f3_; have f4_ := f1_.symm; have f5_ := f3_.symm; clear f1_ f2_ f3_; subst f4_; subst f5_))
            have p689 : 0 ≤ (x7_2 : Int) := dd_
            have q689 : x7_2 < (x0_2.length : Int) := dd_
            obtain ⟨ad689, e689, hx689_0⟩ := Kd.at_int (Kd.R_reads' HO_0.out).2.2 x7_2 p689 q689
            cases e689
            replace p689 := eq_true p689
            replace q689 := eq_true q689
            have p690 : 0 ≤ ((ji8) : Int) := dd_
            have q690 : (ji8) < (x0_2.length : Int) := dd_
            obtain ⟨ad690, e690, hx690_0⟩ := Kd.at_int (Kd.R_reads' HO_0.out).2.2 (ji8) p690 q690
            obtain rfl : ad689 = ad690 := (by injection e690)
            replace p690 := eq_true p690
            replace q690 := eq_true q690
            refine start_ (n := 15) (S := fun w' => w'.cell? (ad689.add (x7_2).toNat) = some (.int .i64 (rd x0_2 x7_2)) ∧ w'.cell? (ad689.add ((ji8)).toNat) = some (.int .i64 (rd x0_2 (ji8)))) (ds := []) #[F_,F_,F_,F_,F_,F_,F_,F_,F_,F_,F_,F_,F_,F_,F_] (by kernel_rfl) rfl rfl ⟨hx689_0, hx690_0⟩ (fun hHeld => ?_); refine with_tabW slices_insertionSortOrdered_int.tab4 slices_insertionSortOrdered_int.bits4 (fun HT_ HW_ => ?_)
            generalize wr.drew = w20 at HO_0 HK HB hx689_0 hx690_0 hHeld ⊢
            refine p_ 0 16 (m_ 15 1) HT_.out ?_
            refine p_ 1 17 (m_ 15 3) HT_.out ?_
            refine p_ 2 18 (m_ 15 7) HT_.out ?_
            refine p_ 3 19 (m_ 15 15) HT_.out ?_
            refine p_ 4 20 (m_ 15 31) HT_.out ?_
            refine p_ 5 21 (m_ 15 63) HT_.out ?_
            refine p_ 6 22 (m_ 15 127) HT_.out ?_
            refine p_ 8 24 (m_ 15 383) HT_.out ?_
            refine p_ 9 25 (m_ 15 895) HT_.out ?_
            refine p_ 10 26 (m_ 15 1919) HT_.out ?_
            refine p_ 11 27 (m_ 15 3967) HT_.out ?_
            refine t2_ 7 23 (m_ 15 4095) HT_.out HW_.out hHeld ?_
            refine t2_ 12 28 (m_ 15 8191) HT_.out HW_.out hHeld ?_
            refine one_ (i := 13) (N := some 29) (m_ 15 16383) rfl rfl (one_of HT_.out (by kernel_rfl)) (by decide) (fun K hK => ?_)
            refine goes_ Try.func90 (by kernel_rfl) rfl #[.int .i64 (rd x0_2 x7_2), .int .i64 (rd x0_2 (ji8))] (by rfl) rfl rfl (by (try simp only [List.map_toArray, List.map_cons, List.map_nil]); first | done | (simp only [hji8]; rfl) | rfl | (simp only [List.length_drop, List.length_take]; rfl)) ?_
            with_reducible refine (cmp_Less_int.calls (rd x0_2 x7_2) (rd x0_2 (ji8)) false _ A11.out).mono ?_
            rintro e w' ⟨rfl, ⟨nd, rfl⟩⟩
            refine ⟨_, rfl, ?_⟩
            refine hK.out _ _ ⟨hHeld.1, hHeld.2⟩ (fun hHeld => ?_)
            clear hK K
            refine norm_ (a' := ?_) ?_ ?_; rotate_left; (show Act.put _ (some 29) _ = _; simp only [Act.put, List.setIfInBounds_toArray, List.set_cons_zero, List.set_cons_succ, i64_w, i32_w]; rfl)
            refine p_ 14 30 (m_ 15 32767) HT_.out ?_
            refine done_ (done_of HT_.out (by kernel_rfl)) ?_
            try go_wp2
            go_roundg k2
            case measure => have := HK1.out; have := HK2.out; omega
            case rel => exact ⟨(x0_2), (wrap64 (x6_1 + 1)), (by first | rfl | (simp; done) | (simp [*]; done)), H', ⟨by have := HK1.out; have := HK2.out; omega⟩, ⟨rr_ HO_0⟩, ⟨by repeat (first | (with_reducible first | exact HK.out | apply Kept.alloc | apply Kept.drewN | apply Kept.drew) | exact HK.out)⟩, ⟨by repeat (first | (with_reducible first | exact HB.out | apply below_alloc | apply pw_below_drewN | apply below_drew1) | exact HB.out)⟩⟩
          ·rw [if_neg c10] at H
           exact absurd H (by simp)
         ·rw [if_neg c9] at H
          exact absurd H (by simp)
        ·rw [if_neg c7] at H
         exact absurd H (by simp)
       ·rw [if_neg c6] at H
        exact absurd H (by simp)
      ·rw [if_neg c5] at H
       have c5b0 : decide (a1 < x7_2) = false := decide_eq_false c5
       clear c5
       have H' := Aside0.mk H
       clear H
       try go_wp2
       have n0_ := Aside0.mk (Kd.R_drew HO_0.out)
       have n1_ := Aside0.mk (Kept.drew HK.out)
       have n2_ := Aside0.mk (below_drew1 HB.out)
       clear HO_0
       clear HK
       clear HB
       have HO_0 := n0_
       have HK := n1_
       have HB := n2_
       clear n0_ n1_ n2_
       refine start_ (n := 15) (S := fun w' => True) (ds := []) #[F_,F_,F_,F_,F_,F_,F_,F_,F_,F_,F_,F_,F_,F_,F_] (by kernel_rfl) rfl rfl trivial (fun hHeld => ?_); refine with_tabW slices_insertionSortOrdered_int.tab4 slices_insertionSortOrdered_int.bits4 (fun HT_ HW_ => ?_)
       generalize wr.drew = w22 at HO_0 HK HB hHeld ⊢
       refine p_ 0 16 (m_ 15 1) HT_.out ?_
       refine p_ 1 17 (m_ 15 3) HT_.out ?_
       refine p_ 2 18 (m_ 15 7) HT_.out ?_
       refine p_ 3 19 (m_ 15 15) HT_.out ?_
       refine u_ 4 20 (m_ 15 31) HT_.out ?_
       refine u_ 5 21 (m_ 15 63) HT_.out ?_
       refine u_ 6 22 (m_ 15 127) HT_.out ?_
       refine u_ 7 23 (m_ 15 255) HT_.out ?_
       refine u_ 8 24 (m_ 15 511) HT_.out ?_
       refine u_ 9 25 (m_ 15 1023) HT_.out ?_
       refine u_ 10 26 (m_ 15 2047) HT_.out ?_
       refine u_ 11 27 (m_ 15 4095) HT_.out ?_
       refine u_ 12 28 (m_ 15 8191) HT_.out ?_
       refine u_ 13 29 (m_ 15 16383) HT_.out ?_
       refine p_ 14 30 (m_ 15 32767) HT_.out ?_
       refine done_ (done_of HT_.out (by kernel_rfl)) ?_
       try go_wp2
       go_roundg k2
       case measure => have := HK1.out; have := HK2.out; omega
       case rel => exact ⟨(x0_2), (wrap64 (x6_1 + 1)), (by first | rfl | (simp; done) | (simp [*]; done)), H', ⟨by have := HK1.out; have := HK2.out; omega⟩, ⟨rr_ HO_0⟩, ⟨by repeat (first | (with_reducible first | exact HK.out | apply Kept.alloc | apply Kept.drewN | apply Kept.drew) | exact HK.out)⟩, ⟨by repeat (first | (with_reducible first | exact HB.out | apply below_alloc | apply pw_below_drewN | apply below_drew1) | exact HB.out)⟩⟩
   ·rw [if_neg c4] at H
    have c4b0 : decide (x6_1 < a2) = false := decide_eq_false c4
    clear c4
    obtain rfl := Option.some.inj H
    go_wp2
    first | go_end0 | ((try simp only [Exit.inBlock, Exit.then]); refine bodyPost_ret (results_none rfl _ _ _) rfl ?_)
    exact ⟨ee_, by (with_reducible repeat (first | apply Kd.R_alloc | apply Kd.R_drewN | apply Kd.R_drew)); exact HO_0.out, bb_ HB, by repeat (first | (with_reducible first | exact HK.out | apply Kept.alloc | apply Kept.drewN | apply Kept.drew) | exact HK.out)⟩
end Go.Proofs.Ytbfafjejmljcpaa.P

set_option linter.unusedVariables false
set_option linter.unusedSimpArgs false
namespace Go.Proofs.Ytbfafjejmljcpaa.P
open Go.RowKit Go.Proofs.YtbfafjejmljcpaaW.PrintWords Go.Proofs.YtbfafjejmljcpaaW.PrintLast

def slices_pdqsortOrdered_int.f (k : Nat) (l0 : List Int) (a1 a2 a3 : Int) : Option (List Int) := if 0 ≤ a1 ∧ a1 ≤ a2 ∧ a2 ≤ 4611686018427387904 ∧ a2 - a1 ≤ 12 then slices_insertionSortOrdered_int.f k l0 a1 a2 else none
set_option maxHeartbeats 4000000 in
set_option maxRecDepth 100000 in
theorem slices_pdqsortOrdered_int.calls (k : Nat) (P0_ : Nat → Prop) (u9000_ : Value) (l0 : List Int) (a1 a2 a3 : Int) (r : List Int) (w0 w : World) (hB : Below w0.heap.size w0 w) (ho0 : Kd.R (Kd.int .i64) 3 w w0.heap.size P0_ u9000_ l0) (h : slices_pdqsortOrdered_int.f k l0 a1 a2 a3 = some r) :
    Calls Try.prog 98 #[u9000_, .int .i64 a1, .int .i64 a2, .int .i64 a3] w fun e w' => e = .returned (.tuple #[]) ∧ Kd.R (Kd.int .i64) 3 w' w0.heap.size (fun k_ => (P0_ k_ ∨ w.heap.size ≤ k_)) u9000_ r ∧ Below w0.heap.size w0 w' ∧ Kept w w' (fun k_ => P0_ k_) := by
  unfold slices_pdqsortOrdered_int.f at h
  by_cases hc : 0 ≤ a1 ∧ a1 ≤ a2 ∧ a2 ≤ 4611686018427387904 ∧ a2 - a1 ≤ 12
  case neg => rw [if_neg hc] at h; exact absurd h (by simp)
  rw [if_pos hc] at h
  obtain ⟨h0, h1, h2, h3⟩ := hc
  have HS := Aside0.mk (slices_insertionSortOrdered_int.calls k P0_ u9000_ l0 a1 a2 r w0 w hB ho0 h)
  clear hB ho0 h
  go_enter Try.func98, Try.ntmps98
  go_wp2
  go_loopg [1, 2, 3] 1 (fun kq v1 v2 v3 w' => v1 = .int .i64 a1 ∧ v2 = .int .i64 a2 ∧ v3 = .int .i64 a3 ∧ Aside0 (w' = w))
  case atStart => exact ⟨rfl, rfl, rfl, ⟨rfl⟩⟩
  case round =>
    obtain ⟨rfl, rfl, rfl, HW⟩ := hrel
    have hw := HW.out
    subst hw
    have e12 : wrap64 (a2 - a1) = a2 - a1 := by unfold wrap64; omega
    have c12 : decide (a2 - a1 ≤ 12) = true := decide_eq_true h3
    go_wp2_with (go_at_call 129; refine HS.out.mono ?_; rintro e w' ⟨rfl, hr', hb', hk'⟩)
    first | go_end0 | ((try simp only [Exit.inBlock, Exit.then]); refine bodyPost_ret (results_none rfl _ _ _) rfl ?_)
    exact ⟨rfl, hr', hb', hk'⟩
end Go.Proofs.Ytbfafjejmljcpaa.P

namespace Go.Proofs.Ytbfafjejmljcpaa.P
open Go.RowKit Go.Proofs.YtbfafjejmljcpaaW.PrintWords Go.Proofs.YtbfafjejmljcpaaW.PrintLast Go.Proofs.YtbfafjejmljcpaaW.PrintMore
set_option linter.unusedVariables false
set_option linter.unusedSimpArgs false

def slices_Sort_int_int.f (k : Nat) (l0 : List Int) : Option (List Int) := (bits_Len.f (IntKind.u64.wrap ((l0.length : Int)))).bind fun t804 => ((slices_pdqsortOrdered_int.f k l0 0 (l0.length : Int) t804).bind fun t805 => (some t805))
set_option maxHeartbeats 8000000 in
set_option maxRecDepth 100000 in
theorem slices_Sort_int_int.calls (k : Nat) (P0_ : Nat → Prop) (u9000_ : Value) (l0 : List Int) (r : List Int) (w0 w : World) (hB : Below w0.heap.size w0 w) (ho0 : Kd.R (Kd.int .i64) 3 w w0.heap.size P0_ u9000_ l0) (h : slices_Sort_int_int.f k l0 = some r) :
  Calls Try.prog 63 #[u9000_] w fun e w' => e = .returned (.tuple #[]) ∧ Kd.R (Kd.int .i64) 3 w' w0.heap.size (fun k_ => (P0_ k_ ∨ w.heap.size ≤ k_)) u9000_ r ∧ Below w0.heap.size w0 w' ∧ Kept w w' (fun k_ => P0_ k_) := by
 have HO0 := Aside0.mk (show Kd.R (Kd.int .i64) 3 w w0.heap.size (fun k_ => (P0_ k_ ∨ w.heap.size ≤ k_)) u9000_ l0 from Kd.R_mono ho0 (fun k_ hk => (.inl hk)))
 have HK := Aside0.mk (Kept.refl w (fun k_ => P0_ k_))
 have HW0 := Aside0.mk hB.size
 have HB := Aside0.mk hB
 clear hB
 have H : ((bits_Len.f (IntKind.u64.wrap ((l0.length : Int)))).bind fun t804 => ((slices_pdqsortOrdered_int.f k l0 0 (l0.length : Int) t804).bind fun t805 => (some t805))) = some r := h
 clear h
 replace H := Option.bind_eq_some_iff.mp H
 obtain ⟨t804, A20, H⟩ := H
 replace H : ((slices_pdqsortOrdered_int.f k l0 0 (l0.length : Int) t804).bind fun t805 => (some t805)) = some r := H
 have A2 := Aside0.mk A20
 clear A20
 replace H := Option.bind_eq_some_iff.mp H
 obtain ⟨t805, A30, H⟩ := H
 replace H : (some t805) = some r := H
 have A3 := Aside0.mk A30
 clear A30
 obtain rfl := Option.some.inj H
 obtain ⟨Ao4, co4, eo4⟩ := Kd.R_slice HO0.out
 subst eo4
 go_enter Try.func63, Try.ntmps63
 go_wp2_with (first | (refine goesL_ (some 9) rfl rfl Try.func99 (by kernel_rfl) rfl #[.int .u64 (IntKind.u64.wrap ((l0.length : Int)))] rfl ll_ ?_; (with_reducible refine (bits_Len.calls (IntKind.u64.wrap ((l0.length : Int))) t804 _ A2.out).mono ?_); rintro e w' ⟨rfl, ⟨nd, rfl⟩⟩; refine ⟨_, rfl, ?_⟩) | (refine goesL_ (some 10) rfl rfl Try.func98 (by kernel_rfl) rfl #[.slice Ao4 l0.length co4, .int .i64 0, .int .i64 (l0.length : Int), .int .i64 t804] rfl ll_ ?_; (with_reducible refine (slices_pdqsortOrdered_int.calls k (fun k_ => some k_ = (.slice Ao4 l0.length co4 : Value).ownBlock) (.slice Ao4 l0.length co4) l0 0 (l0.length : Int) t804 t805 w0 _ ?side1 ?side2 A3.out).mono ?_); (case side1 => repeat (first | (with_reducible first | exact HB.out | apply below_alloc | apply pw_below_drewN | apply below_drew1) | exact HB.out)); (case side2 => exact Kd.R_tight rfl HO0.out); rintro e w5 ⟨rfl, hy0, hb, hkp⟩; refine ⟨_, rfl, ?_⟩; have n0_ := Aside0.mk (Kd.R_reok rfl hy0 (fun k_ e_ => HO0.out.1 k_ e_)); have n1_ := Aside0.mk (Kept.then_ (S := (fun k_ => P0_ k_)) (by repeat (first | (with_reducible first | exact HK.out | apply Kept.alloc | apply Kept.drewN | apply Kept.drew) | exact HK.out)) hkp (fun k_ hs_ => (fun e_ => (HO0.out.1 k_ e_.symm)) hs_)); have n2_ := Aside0.mk (hb); clear HO0; clear HK; clear HB; have HO0 := n0_; have HK := n1_; have HB := n2_; clear n0_ n1_ n2_; (try clear hb); (try clear hkp); (try clear hy0)))
 first | go_end0 | ((try simp only [Exit.inBlock, Exit.then]); refine bodyPost_ret (results_none rfl _ _ _) rfl ?_)
 exact ⟨ee_, by (with_reducible repeat (first | apply Kd.R_alloc | apply Kd.R_drewN | apply Kd.R_drew)); exact HO0.out, bb_ HB, by repeat (first | (with_reducible first | exact HK.out | apply Kept.alloc | apply Kept.drewN | apply Kept.drew) | exact HK.out)⟩
end Go.Proofs.Ytbfafjejmljcpaa.P

set_option linter.unusedVariables false
set_option linter.unusedSimpArgs false
namespace Go.Proofs.Ytbfafjejmljcpaa.X
open Go.RowKit Go.Proofs.YtbfafjejmljcpaaW.PrintWords Go.Proofs.YtbfafjejmljcpaaW.PrintLast Go.Proofs.Ytbfafjejmljcpaa.P

theorem lessInt_eq (x y : Int) : cmp_Less_int.f x y = some (decide (x < y)) := by
  unfold cmp_Less_int.f cmp_isNaN_int.f
  simp
theorem asc_extI : ∀ a b : List Int, a.Pairwise (· < ·) → b.Pairwise (· < ·) → (∀ x, x ∈ a ↔ x ∈ b) → a = b := by
  intro a
  induction a with
  | nil =>
    intro b _ _ h
    cases b with
    | nil => rfl
    | cons y b => exact absurd ((h y).2 List.mem_cons_self) (by simp)
  | cons x a ih =>
    intro b ha hb h
    cases b with
    | nil => exact absurd ((h x).1 List.mem_cons_self) (by simp)
    | cons y b =>
      have ha := List.pairwise_cons.1 ha
      have hb := List.pairwise_cons.1 hb
      have e : x = y := by
        rcases List.mem_cons.1 ((h x).1 List.mem_cons_self) with e | e
        · exact e
        · rcases List.mem_cons.1 ((h y).2 List.mem_cons_self) with e2 | e2
          · exact e2.symm
          · have := hb.1 x e; have := ha.1 y e2; omega
      subst e
      rw [ih b ha.2 hb.2 fun z => ⟨fun hz => ?_, fun hz => ?_⟩]
      · rcases List.mem_cons.1 ((h z).1 (List.mem_cons_of_mem _ hz)) with e | e
        · have := ha.1 z hz; omega
        · exact e
      · rcases List.mem_cons.1 ((h z).2 (List.mem_cons_of_mem _ hz)) with e | e
        · have := hb.1 z hz; omega
        · exact e
def swI (j a : Int) : Int := if a = j then j - 1 else if a = j - 1 then j else a
def swapL (l : List Int) (j : Int) : List Int := (l.set j.toNat (rd l (j - 1))).set (j - 1).toNat (rd l j)
theorem rd_setS {l : List Int} {i j v : Int} (i0 : 0 ≤ i) (i1 : i < l.length) (j0 : 0 ≤ j) : rd (l.set i.toNat v) j = if j = i then v else rd l j := by
  unfold rd
  rw [List.getD_eq_getElem?_getD, List.getD_eq_getElem?_getD, List.getElem?_set]
  by_cases e : j = i
  · rw [if_pos e, if_pos (by omega), if_pos (by omega)]; rfl
  · rw [if_neg e, if_neg (by omega)]
theorem swapL_rd {l : List Int} {j : Int} (j0 : 0 < j) (j1 : j < l.length) {a : Int} (a0 : 0 ≤ a) : rd (swapL l j) a = rd l (swI j a) := by
  unfold swapL swI
  rw [rd_setS (by omega) (by rw [List.length_set]; omega) a0, rd_setS (by omega) j1 a0]
  by_cases e1 : a = j - 1
  · rw [if_pos e1, if_neg (by omega), if_pos e1]
  · by_cases e2 : a = j
    · rw [if_neg e1, if_pos e2, if_pos e2]
    · rw [if_neg e1, if_neg e2, if_neg e2, if_neg e1]
theorem swapL_length (l : List Int) (j : Int) : (swapL l j).length = l.length := by unfold swapL; rw [List.length_set, List.length_set]
theorem mem_rdI {l : List Int} {v : Int} : v ∈ l ↔ ∃ i : Int, 0 ≤ i ∧ i < l.length ∧ rd l i = v := by
  constructor
  · intro h
    obtain ⟨i, hi, e⟩ := List.mem_iff_getElem.1 h
    exact ⟨i, by omega, by omega, by rw [rd_cast l i hi, e]⟩
  · rintro ⟨i, i0, i1, e⟩
    rw [← e]; exact rd_mem i1 i0
theorem swapL_mem {l : List Int} {j : Int} (j0 : 0 < j) (j1 : j < l.length) {v : Int} : v ∈ swapL l j ↔ v ∈ l := by
  rw [mem_rdI, mem_rdI]
  have rng : ∀ a : Int, 0 ≤ a → a < l.length → 0 ≤ swI j a ∧ swI j a < l.length := fun a a0 a1 => by unfold swI; split <;> (try split) <;> omega
  have inv : ∀ a : Int, swI j (swI j a) = a := fun a => by unfold swI; split <;> (try split) <;> (try split) <;> omega
  constructor
  · rintro ⟨a, a0, a1, e⟩
    rw [swapL_length] at a1
    rw [swapL_rd j0 j1 a0] at e
    exact ⟨swI j a, (rng a a0 a1).1, (rng a a0 a1).2, e⟩
  · rintro ⟨a, a0, a1, e⟩
    refine ⟨swI j a, (rng a a0 a1).1, by rw [swapL_length]; exact (rng a a0 a1).2, ?_⟩
    rw [swapL_rd j0 j1 (rng a a0 a1).1, inv]; exact e
def Dif (l : List Int) : Prop := ∀ a b : Int, 0 ≤ a → a < l.length → 0 ≤ b → b < l.length → a ≠ b → rd l a ≠ rd l b
theorem swapL_dif {l : List Int} (h : Dif l) {j : Int} (j0 : 0 < j) (j1 : j < l.length) : Dif (swapL l j) := by
  intro a b a0 a1 b0 b1 hne
  rw [swapL_length] at a1 b1
  rw [swapL_rd j0 j1 a0, swapL_rd j0 j1 b0]
  refine h _ _ ?_ ?_ ?_ ?_ ?_ <;> (unfold swI; split <;> (try split) <;> (try split) <;> (try split) <;> omega)
def Near1 (l : List Int) (i j : Int) : Prop := (∀ a b : Int, 0 ≤ a → a < b → b ≤ i → a ≠ j → b ≠ j → rd l a < rd l b) ∧ ∀ b : Int, j < b → b ≤ i → rd l j < rd l b
def SortR (l r : List Int) : Prop := r.length = l.length ∧ (∀ v, v ∈ r ↔ v ∈ l) ∧ r.Pairwise (· < ·)
theorem ins_l1 {l0 : List Int} {n : Int} (hn : n ≤ 1000) {i : Int} (i0 : 0 ≤ i) (i1 : i < n) (hr : ∀ l : List Int, (l.length : Int) = n → (∀ v, v ∈ l ↔ v ∈ l0) → Dif l → (∀ a b : Int, 0 ≤ a → a < b → b ≤ i → rd l a < rd l b) → ∃ r, SortR l0 r ∧ Ev (fun k => slices_insertionSortOrdered_int.l0 k l 0 n (i + 1)) r) (d : Nat) :
    ∀ (j : Int) (l : List Int), j = d → j ≤ i → (l.length : Int) = n → (∀ v, v ∈ l ↔ v ∈ l0) → Dif l → Near1 l i j → ∃ r, SortR l0 r ∧ Ev (fun k => slices_insertionSortOrdered_int.l1 k l 0 n i j) r := by
  induction d with
  | zero =>
    intro j l hj ji hl hm hd hN
    have hj : j = 0 := hj
    subst hj
    obtain ⟨r, h1, h2⟩ := hr l hl hm hd fun a b a0 ab b1 => by
      by_cases e : a = 0
      · subst e; exact hN.2 b (by omega) b1
      · exact hN.1 a b a0 ab b1 e (by omega)
    refine ⟨r, h1, ?_⟩
    refine Ev.step (fun k => by rw [slices_insertionSortOrdered_int.l1]) ?_
    rw [w64 (x := i + 1) (by omega) (by omega)]
    exact Ev.neg (by omega) h2
  | succ d ih =>
    intro j l hj ji hl hm hd hN
    have e1 : wrap64 (j - 1) = j - 1 := w64 (by omega) (by omega)
    have e2 : wrap64 (i + 1) = i + 1 := w64 (by omega) (by omega)
    by_cases hc : rd l j < rd l (j - 1)
    · have hlen := swapL_length l j
      have R := fun (a : Int) (a0 : 0 ≤ a) => swapL_rd (l := l) (j := j) (by omega) (by omega) a0
      obtain ⟨r, h1, h2⟩ := ih (j - 1) (swapL l j) (by omega) (by omega) (by rw [hlen]; exact hl) (fun v => (swapL_mem (by omega) (by omega)).trans (hm v)) (swapL_dif hd (by omega) (by omega)) ⟨fun a b a0 ab b1 na nb => by
          rw [R a a0, R b (by omega)]
          unfold swI
          by_cases ea : a = j
          · rw [if_pos ea, if_neg (by omega), if_neg nb]
            exact hN.1 (j - 1) b (by omega) (by omega) b1 (by omega) (by omega)
          · rw [if_neg ea, if_neg na]
            by_cases eb : b = j
            · rw [if_pos eb]
              exact hN.1 a (j - 1) a0 (by omega) (by omega) ea (by omega)
            · rw [if_neg eb, if_neg nb]
              exact hN.1 a b a0 ab b1 ea eb, fun b jb b1 => by
          rw [R (j - 1) (by omega), R b (by omega)]
          unfold swI
          rw [if_neg (by omega), if_pos rfl]
          by_cases eb : b = j
          · rw [if_pos eb]; exact hc
          · rw [if_neg eb, if_neg (by omega)]
            exact hN.2 b (by omega) b1⟩
      refine ⟨r, h1, ?_⟩
      refine Ev.step (fun k => by rw [slices_insertionSortOrdered_int.l1]) ?_
      rw [e1, e2, lessInt_eq]
      exact Ev.pos (by omega) (Ev.pos (by omega) (Ev.pos (by omega) (Ev.pos (by omega) (Ev.pos (by omega) (Ev.fix rfl (Ev.pos (decide_eq_true hc) h2))))))
    · have hlt : rd l (j - 1) < rd l j := by
        have := hd (j - 1) j (by omega) (by omega) (by omega) (by omega) (by omega)
        omega
      obtain ⟨r, h1, h2⟩ := hr l hl hm hd fun a b a0 ab b1 => by
        by_cases ea : a = j
        · subst ea; exact hN.2 b ab b1
        · by_cases eb : b = j
          · subst eb
            by_cases e : a = b - 1
            · rw [e]; exact hlt
            · have := hN.1 a (b - 1) a0 (by omega) (by omega) ea (by omega)
              omega
          · exact hN.1 a b a0 ab b1 ea eb
      refine ⟨r, h1, ?_⟩
      refine Ev.step (fun k => by rw [slices_insertionSortOrdered_int.l1]) ?_
      rw [e1, e2, lessInt_eq]
      exact Ev.pos (by omega) (Ev.pos (by omega) (Ev.pos (by omega) (Ev.pos (by omega) (Ev.pos (by omega) (Ev.fix rfl (Ev.neg (by simpa using hc) h2))))))
theorem ins_l0 {l0 : List Int} {n : Int} (hn : n ≤ 1000) (d : Nat) : ∀ (i : Int) (l : List Int), 1 ≤ i → i + d = n → (l.length : Int) = n → (∀ v, v ∈ l ↔ v ∈ l0) → Dif l → (∀ a b : Int, 0 ≤ a → a < b → b < i → rd l a < rd l b) → (l0.length : Int) = n → ∃ r, SortR l0 r ∧ Ev (fun k => slices_insertionSortOrdered_int.l0 k l 0 n i) r := by
  induction d with
  | zero =>
    intro i l i0 hi hl hm hd ha h0
    refine ⟨l, ⟨by omega, hm, List.pairwise_iff_getElem.2 fun a b h1 h2 hab => ?_⟩, ?_⟩
    · have := ha (a : Int) (b : Int) (by omega) (by omega) (by omega)
      rwa [rd_cast l a h1, rd_cast l b h2] at this
    · refine Ev.step (fun k => by rw [slices_insertionSortOrdered_int.l0]) ?_
      exact Ev.neg (by omega) (Ev.done rfl)
  | succ d ih =>
    intro i l i0 hi hl hm hd ha h0
    obtain ⟨r, h1, h2⟩ := ins_l1 (l0 := l0) hn (i := i) (by omega) (by omega) (fun l hl hm hd ha => ih (i + 1) l (by omega) (by omega) hl hm hd (fun a b a0 ab b1 => ha a b a0 ab (by omega)) h0) i.toNat i l (by omega) (by omega) hl hm hd
      ⟨fun a b a0 ab b1 na nb => ha a b a0 ab (by omega), fun b ib b1 => by omega⟩
    refine ⟨r, h1, ?_⟩
    refine Ev.step (fun k => by rw [slices_insertionSortOrdered_int.l0]) ?_
    exact Ev.pos (by omega) h2
theorem sort_ev {l : List Int} (h9 : l.length = 9) (hd : l.Nodup) : ∃ r, SortR l r ∧ Ev (fun k => slices_Sort_int_int.f k l) r := by
  have hD : Dif l := fun a b a0 a1 b0 b1 hne e => by
    rw [rd_getElem a0 a1, rd_getElem b0 b1] at e
    have := (List.getElem_inj hd).1 e
    omega
  obtain ⟨r, h1, h2⟩ := ins_l0 (l0 := l) (n := 9) (by omega) 8 1 l (by omega) (by omega) (by omega) (fun v => Iff.rfl) hD (fun a b a0 ab b1 => by omega) (by omega)
  refine ⟨r, h1, ?_⟩
  unfold slices_Sort_int_int.f
  rw [show (l.length : Int) = 9 by omega]
  refine Ev.fix (a := 4) (by unfold bits_Len.f; rw [show IntKind.u64.wrap 9 = 9 by decide]; rfl) ?_
  refine Ev.bind (a := r) ?_ (Ev.done rfl)
  unfold slices_pdqsortOrdered_int.f
  refine Ev.pos (by omega) ?_
  unfold slices_insertionSortOrdered_int.f
  rw [show wrap64 (0 + 1) = 1 from w64 (by omega) (by omega)]
  exact h2
end Go.Proofs.Ytbfafjejmljcpaa.X

namespace Go.Proofs.Ytbfafjejmljcpaa.P
open Go.RowKit Go.Proofs.YtbfafjejmljcpaaW.PrintWords Go.Proofs.YtbfafjejmljcpaaW.PrintLast
set_option linter.unusedVariables false
set_option linter.unusedSimpArgs false

def impl_times.f (a0 : Int) (a1 : Int) : Option (Int) := (impl_element.f (wrap64 ((wrap64 ((Int.tmod a0 3) * (Int.tmod a1 3))) - (wrap64 ((wrap64 (Int.tdiv a0 3)) * (wrap64 (Int.tdiv a1 3)))))) (wrap64 ((wrap64 ((Int.tmod a0 3) * (wrap64 (Int.tdiv a1 3)))) + (wrap64 ((wrap64 (Int.tdiv a0 3)) * (Int.tmod a1 3)))))).bind fun t935 => (some t935)
set_option maxHeartbeats 8000000 in
set_option maxRecDepth 100000 in
theorem impl_times.calls (a0 : Int) (a1 : Int) (r : Int) (w : World) (h : impl_times.f a0 a1 = some r) :
  Calls Try.prog 80 #[.int .i64 a0, .int .i64 a1] w fun e w' => e = .returned (.int .i64 r) ∧ Drawn0 w w' := by
 have H : ((impl_element.f (wrap64 ((wrap64 ((Int.tmod a0 3) * (Int.tmod a1 3))) - (wrap64 ((wrap64 (Int.tdiv a0 3)) * (wrap64 (Int.tdiv a1 3)))))) (wrap64 ((wrap64 ((Int.tmod a0 3) * (wrap64 (Int.tdiv a1 3)))) + (wrap64 ((wrap64 (Int.tdiv a0 3)) * (Int.tmod a1 3)))))).bind fun t935 => (some t935)) = some r := h
 clear h
 replace H := Option.bind_eq_some_iff.mp H
 obtain ⟨t935, A30, H⟩ := H
 replace H : (some t935) = some r := H
 have A3 := Aside0.mk A30
 clear A30
 obtain rfl := Option.some.inj H
 go_enter Try.func80, Try.ntmps80
 go_wp2_with (first | (refine goesL_ (some 31) rfl rfl Try.func114 (by kernel_rfl) rfl #[.int .i64 (wrap64 ((wrap64 ((Int.tmod a0 3) * (Int.tmod a1 3))) - (wrap64 ((wrap64 (Int.tdiv a0 3)) * (wrap64 (Int.tdiv a1 3)))))), .int .i64 (wrap64 ((wrap64 ((Int.tmod a0 3) * (wrap64 (Int.tdiv a1 3)))) + (wrap64 ((wrap64 (Int.tdiv a0 3)) * (Int.tmod a1 3)))))] rfl ll_ ?_; (with_reducible refine (impl_element.calls (wrap64 ((wrap64 ((Int.tmod a0 3) * (Int.tmod a1 3))) - (wrap64 ((wrap64 (Int.tdiv a0 3)) * (wrap64 (Int.tdiv a1 3)))))) (wrap64 ((wrap64 ((Int.tmod a0 3) * (wrap64 (Int.tdiv a1 3)))) + (wrap64 ((wrap64 (Int.tdiv a0 3)) * (Int.tmod a1 3))))) t935 _ A3.out).mono ?_); rintro e w' ⟨rfl, ⟨nd, rfl⟩⟩; refine ⟨_, rfl, ?_⟩))
 go_ret
 exact ⟨by first | rfl | (simp; done) | (simp [*]; done), by repeat (first | exact Drawn0.refl _ | apply Drawn0.step)⟩
end Go.Proofs.Ytbfafjejmljcpaa.P

set_option linter.unusedVariables false
set_option linter.unusedSimpArgs false
namespace Go.Proofs.Ytbfafjejmljcpaa.X
open Go.RowKit Go.Proofs.YtbfafjejmljcpaaW.PrintWords Go.Proofs.YtbfafjejmljcpaaW.PrintLast Go.Proofs.Ytbfafjejmljcpaa.P

def regQ1 (i : Int) : Bool := i % 9 == 0
def regQ2 (i : Int) : Bool := i % 9 == i / 9
def regQ3 (i : Int) : Bool := i % 9 == timesN (i / 9) 2
def regQ4 (i : Int) : Bool := i / 9 == 0
def reg1 : List Int := [0, 9, 18, 27, 36, 45, 54, 63, 72]
def reg2 : List Int := [0, 10, 20, 30, 40, 50, 60, 70, 80]
def reg3 : List Int := [0, 11, 19, 33, 44, 52, 57, 68, 76]
theorem reg1_fil : filI 81 regQ1 = reg1 := by decide +kernel
theorem reg2_fil : filI 81 regQ2 = reg2 := by decide +kernel
theorem reg3_fil : filI 81 regQ3 = reg3 := by decide +kernel
theorem reg4_fil : filI 81 regQ4 = leaf0 := by decide +kernel
def regI : List (List Int) := [reg1, reg2, reg3, leaf0]
theorem regI_mem (x : List Int) : x ∈ regI ↔ x ∈ regL := by
  have h1 : ∀ y ∈ regI, y ∈ regL := by decide +kernel
  have h2 : ∀ y ∈ regL, y ∈ regI := by decide +kernel
  exact ⟨h1 x, h2 x⟩
def restI (l : List (List Int)) : Nat → List (List Int)
  | 0 => []
  | n + 1 => if rd_LI l (n : Int) ∈ regI then restI l n else restI l n ++ [rd_LI l (n : Int)]
theorem restI_mem (l : List (List Int)) (n : Nat) (x : List Int) : x ∈ restI l n ↔ x ∈ restN l n := by
  induction n with
  | zero => exact Iff.rfl
  | succ n ih =>
    unfold restI restN
    by_cases h : rd_LI l (n : Int) ∈ regI
    · rw [if_pos h, if_pos ((regI_mem _).1 h)]; exact ih
    · rw [if_neg h, if_neg fun h2 => h ((regI_mem _).2 h2), List.mem_append, List.mem_singleton, mem_insL, ih, or_comm]
theorem restI_length (l : List (List Int)) (n : Nat) : (restI l n).length = (restN l n).length := by
  induction n with
  | zero => rfl
  | succ n ih =>
    unfold restI restN
    by_cases h : rd_LI l (n : Int) ∈ regI
    · rw [if_pos h, if_pos ((regI_mem _).1 h)]; exact ih
    · rw [if_neg h, if_neg fun h2 => h ((regI_mem _).2 h2), List.length_append, insL_length, ih]; rfl
theorem restI_from (l : List (List Int)) (n : Nat) (x : List Int) (h : x ∈ restI l n) : ∃ j : Nat, j < n ∧ x = rd_LI l (j : Int) ∧ x ∉ regI := by
  induction n with
  | zero => cases h
  | succ n ih =>
    unfold restI at h
    by_cases hr : rd_LI l (n : Int) ∈ regI
    · rw [if_pos hr] at h
      obtain ⟨j, hj, e⟩ := ih h
      exact ⟨j, by omega, e⟩
    · rw [if_neg hr] at h
      rcases List.mem_append.1 h with h | h
      · obtain ⟨j, hj, e⟩ := ih h
        exact ⟨j, by omega, e⟩
      · have := List.mem_singleton.1 h
        exact ⟨n, by omega, this, by rw [this]; exact hr⟩
def uvL (c : Int) (n : Nat) : List Int := (List.range n).map fun (i : Nat) => 9 * timesN c ((i : Int) / 3) + timesN c ((i : Int) % 3)
theorem uvL_succ (c : Int) (n : Nat) : uvL c (n + 1) = uvL c n ++ [9 * timesN c ((n : Int) / 3) + timesN c ((n : Int) % 3)] := by unfold uvL; rw [List.range_succ, List.map_append]; rfl
theorem uvL_length (c : Int) (n : Nat) : (uvL c n).length = n := by unfold uvL; simp
def CC (c : Int) : Prop := c = 1 ∨ c = 3 ∨ c = 4 ∨ c = 5
theorem uvL_nodup {c : Int} (h : CC c) : (uvL c 9).Nodup := by
  rcases h with rfl | rfl | rfl | rfl <;> decide +kernel
theorem uvL_mem {c : Int} (h : CC c) : ∀ x, x ∈ uvL c 9 ↔ x ∈ otherL c := by
  have key : ∀ c : Int, CC c → (∀ y ∈ uvL c 9, y ∈ otherL c) ∧ ∀ y ∈ otherL c, y ∈ uvL c 9 := by
    intro c h
    rcases h with rfl | rfl | rfl | rfl <;> exact ⟨by decide +kernel, by decide +kernel⟩
  exact fun x => ⟨(key c h).1 x, (key c h).2 x⟩
theorem otherL_asc {c : Int} (h : CC c) : (otherL c).Pairwise (· < ·) := by
  rcases h with rfl | rfl | rfl | rfl <;> decide +kernel
theorem other_sort {c : Int} (h : CC c) : ∃ k, slices_Sort_int_int.f k (uvL c 9) = some (otherL c) := by
  obtain ⟨r, hr, ev⟩ := sort_ev (uvL_length c 9) (uvL_nodup h)
  have e : r = otherL c := asc_extI _ _ hr.2.2 (otherL_asc h) fun x => (hr.2.1 x).trans (uvL_mem h x)
  rw [e] at ev
  exact ev.rounds
theorem times_eq {a b : Int} (a0 : 0 ≤ a) (a1 : a < 9) (b0 : 0 ≤ b) (b1 : b < 9) : impl_times.f a b = some (timesN a b) := nine2 (P := fun a b => impl_times.f a b = some (timesN a b)) (by decide +kernel) a b a0 a1 b0 b1
def newI (n : Nat) : List (List Int) := ([1, 3, 4, 5].take n).map otherL
def cAt (i : Int) : Int := rd [1, 3, 4, 5] i
theorem cAt_cc {i : Int} (i0 : 0 ≤ i) (i1 : i < 4) : CC (cAt i) := by
  rcases (show i = 0 ∨ i = 1 ∨ i = 2 ∨ i = 3 by omega) with rfl | rfl | rfl | rfl
  · exact .inl rfl
  · exact .inr (.inl rfl)
  · exact .inr (.inr (.inl rfl))
  · exact .inr (.inr (.inr rfl))
theorem newI_succ {i : Int} (i0 : 0 ≤ i) (i1 : i < 4) : newI (i + 1).toNat = newI i.toNat ++ [otherL (cAt i)] := by
  rcases (show i = 0 ∨ i = 1 ∨ i = 2 ∨ i = 3 by omega) with rfl | rfl | rfl | rfl <;> rfl
theorem newI_length {i : Int} (i0 : 0 ≤ i) (i1 : i ≤ 4) : (newI i.toNat).length = i.toNat := by
  unfold newI
  rw [List.length_map, List.length_take]
  show min i.toNat 4 = _
  omega
theorem other_nine {c : Int} (h : CC c) : (otherL c).length = 9 := other_len c (by rcases h with rfl | rfl | rfl | rfl <;> omega) (by rcases h with rfl | rfl | rfl | rfl <;> omega)
def outI (l : List (List Int)) : List (List Int) := restI l 10 ++ newI 4
end Go.Proofs.Ytbfafjejmljcpaa.X

set_option linter.unusedVariables false
set_option linter.unusedSimpArgs false
namespace Go.Proofs.Ytbfafjejmljcpaa.X
open Go.RowKit Go.Proofs.YtbfafjejmljcpaaW.PrintWords Go.Proofs.YtbfafjejmljcpaaW.PrintLast Go.Proofs.Ytbfafjejmljcpaa.P

theorem rows_ne {l : List (List Int)} (h : spreadB l = true) {i j : Nat} (hi : i < j) (hj : j < 10) : rd_LI l (i : Int) ≠ rd_LI l (j : Int) := fun e => by
  have hl := spread_lt h (j - i - 1) (i : Int) (by omega) (by omega)
  rw [show (i : Int) + 1 + ((j - i - 1 : Nat) : Int) = (j : Int) by omega, e] at hl
  exact lessB_asym hl hl
theorem restI_new {l : List (List Int)} (h : spreadB l = true) {n : Nat} (hn : n < 10) : rd_LI l (n : Int) ∉ restI l n := fun hm => by
  obtain ⟨j, hj, e, _⟩ := restI_from l n _ hm
  exact rows_ne h hj hn e.symm
theorem restI_nodup {l : List (List Int)} (h : spreadB l = true) (n : Nat) (hn : n ≤ 10) : (restI l n).Nodup := by
  induction n with
  | zero => exact List.nodup_nil
  | succ n ih =>
    unfold restI
    by_cases hr : rd_LI l (n : Int) ∈ regI
    · rw [if_pos hr]; exact ih (by omega)
    · rw [if_neg hr]
      refine List.nodup_append.2 ⟨ih (by omega), List.nodup_cons.2 ⟨by simp, List.nodup_nil⟩, fun a ha b hb e => ?_⟩
      rw [List.mem_singleton.1 hb] at e
      rw [e] at ha
      exact restI_new h (by omega) ha
theorem restN_asc {l : List (List Int)} (h : spreadB l = true) (n : Nat) (hn : n ≤ 10) : Asc (restN l n) := by
  induction n with
  | zero => exact List.Pairwise.nil
  | succ n ih =>
    unfold restN
    by_cases hr : rd_LI l (n : Int) ∈ regL
    · rw [if_pos hr]; exact ih (by omega)
    · rw [if_neg hr]
      exact insL_asc _ _ (ih (by omega)) (restN_nines h n (by omega)).2 (leafB_parts (spread_leaf h (i := (n : Int)) (by omega) (by omega))).1 fun hm => restI_new h (by omega) ((restI_mem l n _).2 hm)
theorem restI_all {l : List (List Int)} (n : Nat) (hno : ∀ j : Nat, j < n → rd_LI l (j : Int) ∉ regI) : (restI l n).length = n := by
  induction n with
  | zero => rfl
  | succ n ih =>
    unfold restI
    rw [if_neg (hno n (by omega)), List.length_append, ih fun j hj => hno j (by omega)]; rfl
theorem some_reg {l : List (List Int)} (h6 : (restI l 10).length = 6) : ∃ j : Nat, j < 10 ∧ rd_LI l (j : Int) ∈ regI := by
  apply Classical.byContradiction
  intro hno
  have := restI_all (l := l) 10 fun j hj hm => hno ⟨j, hj, hm⟩
  omega
theorem meets : ∀ ρ ∈ regI, ∀ c ∈ ([1, 3, 4, 5] : List Int), (ρ.any fun p => decide (0 < p) && decide (p ∈ otherL c)) = true := by decide +kernel
theorem other_out {l : List (List Int)} (h : spreadB l = true) (h6 : (restI l 10).length = 6) {c : Int} (hc : c ∈ ([1, 3, 4, 5] : List Int)) : otherL c ∉ restI l 10 := fun hm => by
  obtain ⟨j, hj, e, hn⟩ := restI_from l 10 _ hm
  obtain ⟨i, hi, hr⟩ := some_reg h6
  obtain ⟨p, hp, hq⟩ := List.any_eq_true.1 (meets _ hr c hc)
  rw [Bool.and_eq_true, decide_eq_true_eq, decide_eq_true_eq] at hq
  obtain ⟨p0, hq⟩ := hq
  rw [e] at hq hn
  rcases Nat.lt_trichotomy i j with hlt | heq | hgt
  · exact spread_apart h (i := (i : Int)) (j := (j : Int)) (by omega) (by omega) (by omega) p0 hp hq
  · subst heq; exact hn hr
  · exact spread_apart h (i := (j : Int)) (j := (i : Int)) (by omega) (by omega) (by omega) p0 hq hp
theorem new_nodup : (newI 4).Nodup := by decide +kernel
theorem outI_nodup {l : List (List Int)} (h : spreadB l = true) (h6 : (restI l 10).length = 6) : (outI l).Nodup := by
  unfold outI
  refine List.nodup_append.2 ⟨restI_nodup h 10 (by omega), new_nodup, fun a ha b hb e => ?_⟩
  rw [e] at ha
  obtain ⟨c, hc, rfl⟩ := List.mem_map.1 hb
  exact other_out h h6 hc ha
theorem mem_insAll {y : List Int} : ∀ (L : List Int) (o : List (List Int)), y ∈ insAll o L ↔ y ∈ o ∨ ∃ x ∈ L, y = otherL x := by
  intro L
  induction L with
  | nil => intro o; simp [insAll]
  | cons x L ih =>
    intro o
    unfold insAll
    rw [ih, mem_insL]
    constructor
    · rintro ((h | h) | ⟨z, hz, h⟩)
      · exact .inr ⟨x, List.mem_cons_self, h⟩
      · exact .inl h
      · exact .inr ⟨z, List.mem_cons_of_mem _ hz, h⟩
    · rintro (h | ⟨z, hz, h⟩)
      · exact .inl (.inr h)
      · rcases List.mem_cons.1 hz with rfl | hz
        · exact .inl (.inl h)
        · exact .inr ⟨z, hz, h⟩
theorem insAll_asc : ∀ (L : List Int) (o : List (List Int)), Asc o → (∀ a ∈ o, a.length = 9) → (∀ x ∈ L, (otherL x).length = 9) → (∀ x ∈ L, otherL x ∉ o) → (L.map otherL).Nodup → Asc (insAll o L) := by
  intro L
  induction L with
  | nil => intro o ha _ _ _ _; exact ha
  | cons x L ih =>
    intro o ha h9 hx hn hd
    unfold insAll
    rw [List.map_cons, List.nodup_cons] at hd
    refine ih _ (insL_asc _ _ ha h9 (hx x List.mem_cons_self) (hn x List.mem_cons_self)) (insL_nines h9 (hx x List.mem_cons_self)) (fun y hy => hx y (List.mem_cons_of_mem _ hy)) (fun y hy hm => ?_) hd.2
    rcases mem_insL.1 hm with e | hm
    · exact hd.1 (List.mem_map.2 ⟨y, hy, e⟩)
    · exact hn y (List.mem_cons_of_mem _ hy) hm
theorem cc_of {c : Int} (hc : c ∈ ([1, 3, 4, 5] : List Int)) : CC c := by simpa [CC] using hc
theorem deriveL_asc {l : List (List Int)} (h : spreadB l = true) (h6 : (restI l 10).length = 6) : Asc (deriveL l) :=
  insAll_asc _ _ (restN_asc h 10 (by omega)) (restN_nines h 10 (by omega)).2 (fun x hx => other_nine (cc_of hx)) (fun x hx hm => other_out h h6 hx ((restI_mem l 10 _).2 hm)) new_nodup
theorem derive_eq {l r : List (List Int)} (h : spreadB l = true) (h6 : (restI l 10).length = 6) (hm : ∀ x, x ∈ r ↔ x ∈ outI l) (ha : Asc r) : r = deriveL l := by
  refine asc_ext _ _ ha (deriveL_asc h h6) fun x => (hm x).trans ?_
  unfold outI deriveL
  rw [List.mem_append, mem_insAll, restI_mem]
  refine or_congr Iff.rfl ?_
  unfold newI
  rw [List.mem_map]
  exact ⟨fun ⟨c, hc, e⟩ => ⟨c, hc, e.symm⟩, fun ⟨c, hc, e⟩ => ⟨c, hc, e.symm⟩⟩
end Go.Proofs.Ytbfafjejmljcpaa.X

set_option linter.unusedVariables false
set_option linter.unusedSimpArgs false
namespace Go.Proofs.Ytbfafjejmljcpaa.X
open Go.RowKit Go.Proofs.YtbfafjejmljcpaaW.PrintWords Go.Proofs.YtbfafjejmljcpaaW.PrintLast Go.Proofs.Ytbfafjejmljcpaa.P

set_option maxHeartbeats 2000000 in
theorem sd1_calls (w : World) (x y : Int) :
    Calls Try.prog 77 #[.int .i64 x, .int .i64 y] w fun e w' => e = .returned (.bool (y == 0)) ∧ Below w.heap.size w w' := by
  go_enter Try.func77, Try.ntmps77
  go_wp2
  go_ret
  exact ⟨rfl, Below.refl _ _⟩
set_option maxHeartbeats 2000000 in
theorem sd2_calls (w : World) (x y : Int) :
    Calls Try.prog 78 #[.int .i64 x, .int .i64 y] w fun e w' => e = .returned (.bool (y == x)) ∧ Below w.heap.size w w' := by
  go_enter Try.func78, Try.ntmps78
  go_wp2
  go_ret
  exact ⟨rfl, Below.refl _ _⟩
set_option maxHeartbeats 2000000 in
theorem sd3_calls (w : World) (x y : Int) (hx : In9 x) :
    Calls Try.prog 79 #[.int .i64 x, .int .i64 y] w fun e w' => e = .returned (.bool (y == timesN x 2)) ∧ Below w.heap.size w w' := by
  have HC := Aside0.mk (fun w => impl_times.calls x 2 (timesN x 2) w (times_eq hx.1 hx.2 (by omega) (by omega)))
  obtain ⟨q, hq⟩ : ∃ q, timesN x 2 = q := ⟨_, rfl⟩
  rw [hq] at HC ⊢
  clear hq hx
  go_enter Try.func79, Try.ntmps79
  go_wp2_with (go_at_call 80; refine (HC.out _).mono ?_; rintro e w' ⟨rfl, ⟨nd, rfl⟩⟩)
  go_ret
  exact ⟨rfl, pw_below_drewN (Below.refl _ _) _⟩
set_option maxHeartbeats 2000000 in
theorem sd4_calls (w : World) (x y : Int) :
    Calls Try.prog 81 #[.int .i64 x, .int .i64 y] w fun e w' => e = .returned (.bool (x == 0)) ∧ Below w.heap.size w w' := by
  go_enter Try.func81, Try.ntmps81
  go_wp2
  go_ret
  exact ⟨rfl, Below.refl _ _⟩
theorem entersSD1 : Eg 77 := enters_of Try.func77 (by kernel_rfl) rfl
theorem entersSD2 : Eg 78 := enters_of Try.func78 (by kernel_rfl) rfl
theorem entersSD3 : Eg 79 := enters_of Try.func79 (by kernel_rfl) rfl
theorem entersSD4 : Eg 81 := enters_of Try.func81 (by kernel_rfl) rfl
abbrev LeafAt (g : Nat) (x : List Int) : Prop := ∀ w : World, Calls Try.prog 76 #[.func (.func g) #[] #[]] w fun e w' => ∃ (A : Option Addr) (c : Nat), e = .returned (.slice A x.length c) ∧ Kd.R (Kd.int .i64) 3 w' w.heap.size (fun k => w.heap.size ≤ k ∧ k < w'.heap.size) (.slice A x.length c) x ∧ Below w.heap.size w w'
theorem leafAt_of {g : Nat} (eg : Eg g) (p : Int → Int → Bool) (q : Int → Bool) (hq : ∀ i : Int, 0 ≤ i → i < 81 → q i = p (i / 9) (i % 9)) (hp : ∀ (W : World) (x y : Int), In9 x → Calls Try.prog g #[.int .i64 x, .int .i64 y] W fun e w' => e = .returned (.bool (p x y)) ∧ Below W.heap.size W w') {x : List Int} (hx : filI 81 q = x) : LeafAt g x := fun w => by
  refine (leafThat_calls g #[] eg p q hq w (fun W x y _ h => hp W x y h.1)).mono ?_
  rintro e w' ⟨v, rfl, ho, hb⟩
  rw [hx] at ho
  obtain ⟨A, c, rfl⟩ := Kd.R_slice ho
  exact ⟨A, c, rfl, Kd.R_mono (Kd.R_bound ho) (fun k hk => ⟨hk.2.1, hk.2.2.1⟩), hb⟩
theorem leaf1_at : LeafAt 77 reg1 := leafAt_of entersSD1 (fun _ y => y == 0) regQ1 (fun _ _ _ => rfl) (fun W x y _ => sd1_calls W x y) reg1_fil
theorem leaf2_at : LeafAt 78 reg2 := leafAt_of entersSD2 (fun x y => y == x) regQ2 (fun _ _ _ => rfl) (fun W x y _ => sd2_calls W x y) reg2_fil
theorem leaf3_at : LeafAt 79 reg3 := leafAt_of entersSD3 (fun x y => y == timesN x 2) regQ3 (fun _ _ _ => rfl) (fun W x y hx => sd3_calls W x y hx) reg3_fil
theorem leaf4_at : LeafAt 81 leaf0 := leafAt_of entersSD4 (fun x _ => x == 0) regQ4 (fun _ _ _ => rfl) (fun W x y _ => sd4_calls W x y) reg4_fil
set_option maxRecDepth 100000 in
set_option maxHeartbeats 4000000 in
theorem derive_no (A0 : Option Addr) (c0 : Nat) (l : List (List Int)) (w : World) (hr : Kd.C LK w A0 l.length l) (hs : spreadB l = false) :
    Calls Try.prog 41 #[.slice A0 l.length c0] w fun e w' => e = .returned (.tuple #[.slice none 0 0, .bool false]) ∧ Below w.heap.size w w' := by
  have hc := isSpread_calls A0 c0 l w hr
  rw [hs] at hc
  have HC := Aside0.mk hc
  clear hc hr hs
  go_enter Try.func41, Try.ntmps41
  go_wp2_with (go_at_call 51; refine HC.out.mono ?_; rintro e w' ⟨rfl, hb⟩)
  go_ret2
  exact ⟨rfl, hb⟩
theorem leaf_fk {w : World} {base : Nat} {A : Option Addr} {c : Nat} {x : List Int} {ok : Nat → Prop} (h : Kd.R (Kd.int .i64) 3 w base ok (.slice A x.length c) x) : Kd.FK LK w (fun _ => True) x [.slice A x.length c] :=
  have h2 := Kd.R_mono (ok' := fun _ => True) h (fun _ _ => trivial)
  Kd.FK_slice_mk (Kd.R_reads' h2).2.1 (Kd.R_F h2)
structure DerPost (l : List (List Int)) (w w' : World) (e : Ending) : Prop where
  out : ∃ (v0_ : Value) (r : List (List Int)), e = .returned (.tuple #[v0_, .bool (decide ((restI l 10).length = 6))]) ∧ Kd.S LK 23 w' w.heap.size (fun _ => True) v0_ r ∧ Below w.heap.size w w' ∧ (if (restI l 10).length = 6 then r.length = 10 ∧ (∀ x, x ∈ r ↔ x ∈ outI l) ∧ Asc r else r = [])
set_option maxRecDepth 100000 in
set_option maxHeartbeats 8000000 in
theorem derive_yes (A0 : Option Addr) (c0 : Nat) (l : List (List Int)) (w : World) (hr : Kd.C LK w A0 l.length l) (hs : spreadB l = true) (hnd : (restI l 10).length = 6 → (outI l).Nodup) :
    Calls Try.prog 41 #[.slice A0 l.length c0] w fun e w' => DerPost l w w' e := by
  have HND := Aside0.mk hnd
  clear hnd
  have hc := isSpread_calls A0 c0 l w hr
  rw [hs] at hc
  have HC := Aside0.mk hc
  have HR := Aside0.mk hr
  have HS := Aside0.mk hs
  clear hc hr hs
  go_enter Try.func41, Try.ntmps41
  go_wp2_with fail
  refine HC.out.mono ?_
  rintro e w0 ⟨rfl, hb0⟩
  have HB0 := Aside0.mk hb0
  clear hb0 HC
  go_wp2_with fail
  refine (leaf1_at _).mono ?_
  rintro e w1 ⟨A1, c1, rfl, ho1, hb1⟩
  have HO1 := Aside0.mk ho1
  have HB1 := Aside0.mk hb1
  clear ho1 hb1
  go_wp2_with fail
  refine (leaf2_at _).mono ?_
  rintro e w2 ⟨A2, c2, rfl, ho2, hb2⟩
  have HO2 := Aside0.mk ho2
  have HB2 := Aside0.mk hb2
  clear ho2 hb2
  go_wp2_with fail
  refine (leaf3_at _).mono ?_
  rintro e w3 ⟨A3, c3, rfl, ho3, hb3⟩
  have HO3 := Aside0.mk ho3
  have HB3 := Aside0.mk hb3
  clear ho3 hb3
  go_wp2_with fail
  refine (leaf4_at _).mono ?_
  rintro e w4 ⟨A4, c4, rfl, ho4, hb4⟩
  have HO4 := Aside0.mk ho4
  have HB4 := Aside0.mk hb4
  clear ho4 hb4
  have HO13 := Aside0.mk (Kd.R_below (Kd.R_below (Kd.R_below HO1.out HB2.out) HB3.out) HB4.out)
  have HO23 := Aside0.mk (Kd.R_below (Kd.R_below HO2.out HB3.out) HB4.out)
  have HO33 := Aside0.mk (Kd.R_below HO3.out HB4.out)
  have HBw := Aside0.mk (bstep (bstep (bstep (bstep HB0.out HB1.out) HB2.out) HB3.out) HB4.out)
  clear HO1 HO2 HO3 HB0 HB1 HB2 HB3 HB4
  go_wp2_with (first | ((with_reducible refine gate_dst (N := 20) rfl ?_); refine Kd.N_lit LK (w0 := w4) w4.heap.size 23 ?hg (N' := 20) ?hd (xs := regI) (inner := [.slice A1 reg1.length c1, .slice A2 reg2.length c2, .slice A3 reg3.length c3, .slice A4 leaf0.length c4]) (ok := (fun _ => True)) (okp := (fun _ => True)) ?hr ?hp (fun _ hk => hk) trivial (Below.refl _ _) (Nat.le_refl _) (by decide) ?_; (case hd => rfl); (case hg => rfl); (case hr => first | (go_simp; done) | (go_simp; rfl)); (case hp => exact (Reps.one (leaf_fk HO13.out) (Reps.one (leaf_fk HO23.out) (Reps.one (leaf_fk HO33.out) (Reps.one (leaf_fk HO4.out) (Reps.none _ _)))))); intro v5 w5 ho5 hb hg_ hnew_; obtain ⟨AR, cR, eR⟩ := Kd.N_slice ho5; subst eR; have HRG := Aside0.mk (Kd.N_reads' ho5).2.2; have HB5 := Aside0.mk (bstep HBw.out hb); clear hg_ hnew_ ho5 hb) | ((with_reducible refine gate_dst (N := 21) rfl ?_); refine Kd.S_lits LK (w0 := w5) w5.heap.size 23 ?hg (N := 21) ?hd (xs := []) (inner := []) (ok := (fun k => w5.heap.size ≤ k)) (fun _ _ => False) ?hr rfl ?hp (fun _ _ _ h _ => h.elim) (fun _ _ h => h.elim) (Nat.le_refl _) (Below.refl _ _) (Nat.le_refl _) (by simp) ?_; (case hd => rfl); (case hg => rfl); (case hr => first | (go_simp; done) | (go_simp; rfl)); (case hp => exact (fun j x hx => by simp at hx)); intro v6 w6 ho6 hb hg_ hnew_; have HO6 := Aside0.mk ho6; have HB6 := Aside0.mk hb; clear hg_ hnew_ ho6 hb))
  clear HO13 HO23 HO33 HO4 HBw
  have HL10 := Aside0.mk (spreadB_parts HS.out).1
  go_loopg [5, 24] 10 (fun kq v5 v24 w' => ∃ i : Int, v24 = .int .i64 i ∧ Aside0 (0 ≤ i ∧ i ≤ 10) ∧ Aside0 ((10 : Int) - i ≤ kq) ∧ Aside0 (Kd.S LK 23 w' w5.heap.size (fun k_ => w5.heap.size ≤ k_) v5 (restI l i.toNat)) ∧ Aside0 (Below w5.heap.size w5 w'))
  case atStart => exact ⟨0, rfl, ⟨by omega⟩, ⟨by omega⟩, HO6, HB6⟩
  case round =>
    clear HO6 HB6
    obtain ⟨i, rfl, HI, HK, HO, HB⟩ := hrel
    have h0 : 0 ≤ i := HI.out.1
    have hBw := bstep HB5.out HB.out
    by_cases c6l : i < (l.length : Int)
    · have c6 : i < 10 := by have := HL10.out; omega
      obtain ⟨ad, A', c', e, hx, hcap, hin⟩ := at_LI (Kd.C_below HR.out hBw) i h0 c6l
      cases e
      have l9 : (rd_LI l i).length = 9 := (leafB_parts (spread_leaf HS.out h0 c6)).1
      have hrest : restI l (i + 1).toNat = if rd_LI l i ∈ regI then restI l i.toNat else restI l i.toNat ++ [rd_LI l i] := by
        rw [show (i + 1).toNat = i.toNat + 1 by omega]
        show (if rd_LI l (i.toNat : Int) ∈ regI then _ else _) = _
        rw [Int.toNat_of_nonneg h0]
      have hrl : (restI l i.toNat).length ≤ i.toNat := by rw [restI_length]; exact (restN_nines HS.out i.toNat (by omega)).1
      have HC := Aside0.mk (hasLeaf_calls AR cR regI A' c' (rd_LI l i) wr (Kd.C_below HRG.out HB.out) hin hcap (by decide))
      obtain ⟨L, hL⟩ : ∃ L, rd_LI l i = L := ⟨_, rfl⟩
      rw [hL] at hx hcap hin l9 hrest HC
      have HRL := Aside0.mk hrl
      have HIN := Aside0.mk hin
      have HCAP := Aside0.mk hcap
      have L9 := Aside0.mk l9
      clear hrl hin hcap l9 hL
      by_cases hm : L ∈ regI
      · rw [if_pos hm] at hrest
        rw [decide_eq_true hm] at HC
        have HE := Aside0.mk hrest
        clear hrest hm
        go_wp2_with (go_at_call 82; refine HC.out.mono ?_; rintro e w' ⟨rfl, hb'⟩)
        go_roundg (10 - (i.toNat + 1))
        case measure => have := HK.out; omega
        case rel => exact ⟨i + 1, rfl, ⟨by omega⟩, ⟨by omega⟩, ⟨by rw [HE.out]; exact Kd.S_below HO.out hb'⟩, ⟨bstep HB.out hb'⟩⟩
      · rw [if_neg hm] at hrest
        rw [decide_eq_false hm] at HC
        have HE := Aside0.mk hrest
        clear hrest hm
        obtain ⟨R, hR⟩ : ∃ R, restI l i.toNat = R := ⟨_, rfl⟩
        rw [hR] at HE HO HRL
        clear hR
        go_wp2_with fail
        refine HC.out.mono ?_
        rintro e w7 ⟨rfl, hb7⟩
        have HOd := Aside0.mk (Kd.S_below (Kd.S_mono (ok' := fun k_ => w5.heap.size ≤ k_ ∧ ¬ wr.heap.size ≤ k_) (Kd.S_bound HO.out) (fun k hk => ⟨hk.1, by have := hk.2.2.1; omega⟩)) hb7)
        have HU := Aside0.mk (Kd.S_lt HO.out)
        have HS7 := Aside0.mk hb7.size
        have HB7 := Aside0.mk (bstep HB.out hb7)
        have HIN7 := Aside0.mk (Kd.C_below HIN.out hb7)
        clear hb7 HO HC hBw
        go_wp2_with (first
          | ((with_reducible refine gate_dst (N := 33) rfl ?_); refine Kd.R_lit (Kd.int .i64) (w0 := w7) w7.heap.size 3 ?hg (N := 33) ?hd (xs := ([] : List Int)) (inner := []) (ok := fun _ => True) (okp := fun _ => True) ?hr ?hp (fun _ hk => hk) trivial (Below.refl _ _) (Nat.le_refl _) (by simp) ?_; (case hd => rfl); (case hg => rfl); (case hr => first | (go_simp; done) | (go_simp; rfl)); (case hp => exact (Reps.none _ _)); intro v8 w8 ho hb hg_ hnew_; have HO8 := Aside0.mk ho; have HB8 := Aside0.mk hb; clear ho hb hg_ hnew_)
          | (at_builtin; refine Kd.R_append_rows (Kd.int .i64) (w0 := w7) w7.heap.size rfl (.tmp 33) (.tmp 34) 23 3 (.int .i64 0) 8 rfl Try.underlying23 info3 rfl (by decide) (by omega) v8 [] L A' L.length c' (fun _ => True) (fun _ => False) rfl rfl ?aO ?aR (fun _ _ h => h) (fun _ hk => hk.elim) (fun _ _ => trivial) ?aB ?aS ?aL ?_; (case aO => exact HO8.out); (case aR => exact Kd.C_below HIN7.out HB8.out); (case aB => exact HB8.out); (case aS => exact HB8.out.size); (case aL => have := L9.out; simp; omega); intro v9 w9 ho hb hg hat; rw [List.nil_append] at ho; obtain ⟨A9, c9, e9⟩ := Kd.R_slice ho; subst e9; have HO9 := Aside0.mk ho; have HB9 := Aside0.mk hb; clear ho hb hg hat)
          | (at_builtin; refine Kd.S_append LK (w0 := w5) w5.heap.size rfl (.tmp 32) (.tmp 36) 32 23 (.slice none 0 0) 24 rfl Try.underlying32 info23 rfl (by decide) (by omega) u5 R L [.slice A9 L.length c9] (fun k_ => w5.heap.size ≤ k_) (fun k_ => wr.heap.size ≤ k_) rfl rfl ?aP ?aK ?aF ?aO ?aB ?aS ?aL ?_; (case aP => exact ⟨_, rfl, Kd.R_lower (Kd.R_mono (Kd.R_bound HO9.out) (fun k hk => Nat.le_trans HS7.out hk.2.1)) HB7.out.size⟩); (case aK => exact (fun k_ hk => ⟨Nat.le_trans HB.out.size hk, fun e => Nat.lt_irrefl _ (Nat.lt_of_lt_of_le (HU.out k_ e.symm) hk)⟩)); (case aB => exact bstep HB7.out HB9.out); (case aF => exact (fun k_ hk => Nat.le_trans (bstep HB7.out HB9.out).size hk)); (case aO => exact Kd.S_below HOd.out HB9.out); (case aS => exact (bstep HB7.out HB9.out).size); (case aL => have := HRL.out; omega); intro v10 w10 ho hb hg hat; have HO10 := Aside0.mk ho; have HB10 := Aside0.mk hb; clear ho hb hg hat))
        go_roundg (10 - (i.toNat + 1))
        case measure => have := HK.out; omega
        case rel => exact ⟨i + 1, rfl, ⟨by omega⟩, ⟨by omega⟩, ⟨by rw [HE.out]; exact HO10.out⟩, HB10⟩
    · have hi : i = 10 := by have := HL10.out; have := HI.out; omega
      subst hi
      have HNI := Aside0.mk (restN_nines HS.out 10 (by omega)).2
      have HMM := Aside0.mk (restI_mem l 10)
      have HO := Aside0.mk (show Kd.S LK 23 wr w5.heap.size (fun k_ => w5.heap.size ≤ k_) u5 (restI l 10) from HO.out)
      have hout : outI l = restI l 10 ++ newI 4 := rfl
      have HOUT := Aside0.mk hout
      clear hout hBw
      by_cases hn6 : (restI l 10).length = 6
      case neg =>
        obtain ⟨Aq, cq, eq⟩ := Kd.S_slice HO.out
        subst eq
        have hne : ¬ (((restI l 10).length : Int) = 6) := by omega
        have HBB := Aside0.mk (bstep HB5.out HB.out)
        have HIF := Aside0.mk hn6
        clear hn6
        go_wp2
        go_ret2
        exact ⟨⟨.slice none 0 0, [], by rw [decide_eq_false HIF.out]; rfl, Kd.S_nil _ _ _ _ _, HBB.out, by rw [if_neg HIF.out]⟩⟩
      case pos =>
      have HND := Aside0.mk (HND.out hn6)
      obtain ⟨Aq, cq, eq⟩ := Kd.S_slice HO.out
      rw [hn6] at eq
      subst eq
      have HN6 := Aside0.mk hn6
      clear hn6
      go_wp2_with ((with_reducible refine gate_dst (N := 42) rfl ?_); refine Kd.R_lit (Kd.int .i64) (w0 := w5) w5.heap.size 3 ?hg (N := 42) ?hd (xs := ([1, 3, 4, 5] : List Int)) (inner := [.int .i64 1, .int .i64 3, .int .i64 4, .int .i64 5]) (ok := fun _ => True) (okp := fun _ => True) ?hr ?hp (fun _ hk => hk) trivial HB.out HB.out.size (by simp) ?_; (case hd => rfl); (case hg => rfl); (case hr => first | (go_simp; done) | (go_simp; rfl)); (case hp => exact (Reps.one (show Kd.M (Kd.int .i64) _ _ _ 1 [.int .i64 1] from rfl) (Reps.one (show Kd.M (Kd.int .i64) _ _ _ 3 [.int .i64 3] from rfl) (Reps.one (show Kd.M (Kd.int .i64) _ _ _ 4 [.int .i64 4] from rfl) (Reps.one (show Kd.M (Kd.int .i64) _ _ _ 5 [.int .i64 5] from rfl) (Reps.none _ _)))))); intro v12 w12 ho hb hg_ hnew_; obtain ⟨AL, cL, eL⟩ := Kd.R_slice ho; subst eL; have HLI := Aside0.mk ho; have HB12 := Aside0.mk hb; have HO12 := Aside0.mk (Kd.S_grown HO.out hg_ (fun k _ => by simp)); clear ho hb hg_ hnew_)
      go_loopg [5, 44] 4 (fun kq v5 v44 w' => ∃ j : Int, v44 = .int .i64 j ∧ Aside0 (0 ≤ j ∧ j ≤ 4) ∧ Aside0 ((4 : Int) - j ≤ kq) ∧ Aside0 (Kd.S LK 23 w' w5.heap.size (fun k_ => w5.heap.size ≤ k_) v5 (restI l 10 ++ newI j.toNat)) ∧ Aside0 (Kd.R (Kd.int .i64) 3 w' w5.heap.size (fun _ => True) (.slice AL ([1, 3, 4, 5] : List Int).length cL) [1, 3, 4, 5]) ∧ Aside0 (Below w5.heap.size w5 w'))
      case atStart => exact ⟨0, rfl, ⟨by omega⟩, ⟨by omega⟩, ⟨by rw [show newI (0 : Int).toNat = [] from rfl, List.append_nil]; exact HO12.out⟩, HLI, HB12⟩
      case round =>
        clear HO12 HLI HB12 HO HB
        rename World => wB
        obtain ⟨j, rfl, HI, HK, HO, HLI, HB⟩ := hrel
        have h0 : 0 ≤ j := HI.out.1
        by_cases c7 : j < 4
        · obtain ⟨ad, eL, hx0⟩ := ReadsOf.at_ (Kd.reads_of_C (enc := Value.int .i64) (d := (0 : Int)) (h1 := fun _ => rfl) (Kd.R_reads' HLI.out).2.2) j h0 (by simpa using c7)
          cases eL
          have hx : wB.cell? (ad.add j.toNat) = some (.int .i64 (cAt j)) := hx0
          have HCC := Aside0.mk (cAt_cc h0 c7)
          have hnew := newI_succ h0 c7
          have hnl : (restI l 10 ++ newI j.toNat).length = 6 + j.toNat := by rw [List.length_append, HN6.out, newI_length h0 (by omega)]
          have HNL := Aside0.mk hnl
          have hc0 : 0 ≤ cAt j ∧ cAt j < 9 := by have := HCC.out; unfold CC at this; omega
          obtain ⟨c, hc⟩ : ∃ c, cAt j = c := ⟨_, rfl⟩
          rw [hc] at hx HCC hnew hc0
          obtain ⟨cc0, cc1⟩ := hc0
          have HNW := Aside0.mk (show restI l 10 ++ newI (j + 1).toNat = (restI l 10 ++ newI j.toNat) ++ [otherL c] by rw [hnew, List.append_assoc])
          obtain ⟨R, hR⟩ : ∃ R, restI l 10 ++ newI j.toNat = R := ⟨_, rfl⟩
          rw [hR] at HO HNL HNW
          clear hx0 hnew hnl hc hR
          go_wp2_with ((with_reducible refine gate_dst (N := 48) rfl ?_); refine Kd.R_lit (Kd.int .i64) (w0 := wB) wB.heap.size 3 ?hg (N := 48) ?hd (xs := ([] : List Int)) (inner := []) (ok := fun _ => True) (okp := fun _ => True) ?hr ?hp (fun _ hk => hk) trivial (Below.refl _ _) (Nat.le_refl _) (by simp) ?_; (case hd => rfl); (case hg => rfl); (case hr => first | (go_simp; done) | (go_simp; rfl)); (case hp => exact (Reps.none _ _)); intro v16 w16 ho hb hg_ hnew_; have HO16 := Aside0.mk ho; have HB16 := Aside0.mk hb; clear ho hb hg_ hnew_)
          have HWR := Aside0.mk HB.out.size
          go_loopg [10, 49] 3 (fun kq v10 v49 w' => ∃ u : Int, v49 = .int .i64 u ∧ Aside0 (0 ≤ u ∧ u ≤ 3) ∧ Aside0 ((3 : Int) - u ≤ kq) ∧ Aside0 (Kd.R (Kd.int .i64) 3 w' wB.heap.size (fun _ => True) v10 (uvL c (3 * u.toNat))) ∧ Aside0 (Below wB.heap.size wB w'))
          case atStart => exact ⟨0, rfl, ⟨by omega⟩, ⟨by omega⟩, HO16, HB16⟩
          case round =>
            clear HO16 HB16
            obtain ⟨u, rfl, HI2, HK2, HO2, HB2⟩ := hrel
            have u0 : 0 ≤ u := HI2.out.1
            by_cases c8 : u < 3
            · have HT1 := Aside0.mk (fun w => impl_times.calls c u (timesN c u) w (times_eq cc0 cc1 u0 (by omega)))
              have hq1 := timesN_range c u
              obtain ⟨q1, e1⟩ : ∃ q, timesN c u = q := ⟨_, rfl⟩
              rw [e1] at HT1 hq1
              have HE1 := Aside0.mk e1
              obtain ⟨q10, q11⟩ := hq1
              clear e1
              go_wp2
              go_loopg [10, 52] 3 (fun kq v10 v52 w' => ∃ v : Int, v52 = .int .i64 v ∧ Aside0 (0 ≤ v ∧ v ≤ 3) ∧ Aside0 ((3 : Int) - v ≤ kq) ∧ Aside0 (Kd.R (Kd.int .i64) 3 w' wB.heap.size (fun _ => True) v10 (uvL c (3 * u.toNat + v.toNat))) ∧ Aside0 (Below wB.heap.size wB w'))
              case atStart => exact ⟨0, rfl, ⟨by omega⟩, ⟨by omega⟩, HO2, HB2⟩
              case round =>
                clear HO2 HB2
                obtain ⟨v, rfl, HI3, HK3, HO2, HB2⟩ := hrel
                have v0 : 0 ≤ v := HI3.out.1
                by_cases c9 : v < 3
                · have HT2 := Aside0.mk (fun w => impl_times.calls c v (timesN c v) w (times_eq cc0 cc1 v0 (by omega)))
                  have hq2 := timesN_range c v
                  obtain ⟨q2, e2⟩ : ∃ q, timesN c v = q := ⟨_, rfl⟩
                  rw [e2] at HT2 hq2
                  obtain ⟨q20, q21⟩ := hq2
                  have huv : uvL c (3 * u.toNat + (v + 1).toNat) = uvL c (3 * u.toNat + v.toNat) ++ [9 * q1 + q2] := by
                    rw [show 3 * u.toNat + (v + 1).toNat = (3 * u.toNat + v.toNat) + 1 by omega, uvL_succ, show (((3 * u.toNat + v.toNat : Nat) : Int)) / 3 = u by omega, show (((3 * u.toNat + v.toNat : Nat) : Int)) % 3 = v by omega, HE1.out, e2]
                  have hul : (uvL c (3 * u.toNat + v.toNat)).length = 3 * u.toNat + v.toNat := uvL_length _ _
                  obtain ⟨X, hX⟩ : ∃ X, uvL c (3 * u.toNat + v.toNat) = X := ⟨_, rfl⟩
                  rw [hX] at HO2 huv hul
                  have HUV := Aside0.mk huv
                  have HUL := Aside0.mk hul
                  clear huv hul hX e2
                  go_wp2_with (first
                    | (refine goesL_ (some 58) rfl rfl Try.func80 (by kernel_rfl) rfl #[.int .i64 c, .int .i64 u] rfl ll_ ?_; (with_reducible refine (HT1.out _).mono ?_); rintro e w' ⟨rfl, ⟨nd, rfl⟩⟩; refine ⟨_, rfl, ?_⟩)
                    | (refine goesL_ (some 62) rfl rfl Try.func80 (by kernel_rfl) rfl #[.int .i64 c, .int .i64 v] rfl ll_ ?_; (with_reducible refine (HT2.out _).mono ?_); rintro e w' ⟨rfl, ⟨nd, rfl⟩⟩; refine ⟨_, rfl, ?_⟩)
                    | (at_builtin; refine Kd.R_append (Kd.int .i64) (w0 := wB) wB.heap.size rfl (.tmp 55) (.tmp 64) 23 3 (.int .i64 0) 8 rfl Try.underlying23 info3 rfl (by decide) (by omega) u10 X (9 * q1 + q2) [.int .i64 (9 * q1 + q2)] (fun _ => True) (fun _ => False) rfl rfl ?aP (fun _ hk => hk.elim) ?aF ?aO ?aB ?aS ?aL ?_; (case aP => exact rfl); (case aB => exact (bb_ HB2)); (case aF => exact (fun _ _ => trivial)); (case aO => exact (rr_ HO2)); (case aS => exact (below_size (bb_ HB2))); (case aL => have := HUL.out; omega); intro v17 w17 ho hb hg hat; have HO17 := Aside0.mk ho; have HB17 := Aside0.mk hb; clear ho hb hg hat))
                  go_roundg (3 - (v.toNat + 1))
                  case measure => have := HK3.out; omega
                  case rel => exact ⟨v + 1, rfl, ⟨by omega⟩, ⟨by omega⟩, ⟨by rw [HUV.out]; exact HO17.out⟩, HB17⟩
                · have hv : v = 3 := by have := HI3.out; omega
                  subst hv
                  go_wp2
                  go_roundg (3 - (u.toNat + 1))
                  case measure => have := HK2.out; omega
                  case rel => exact ⟨u + 1, rfl, ⟨by omega⟩, ⟨by omega⟩, ⟨by rw [show 3 * (u + 1).toNat = 3 * u.toNat + (3 : Int).toNat by omega]; exact HO2.out⟩, HB2⟩
            · have hu : u = 3 := by have := HI2.out; omega
              subst hu
              obtain ⟨A10, c10, e10⟩ := Kd.R_slice HO2.out
              have e10 : u10 = .slice A10 9 c10 := e10
              subst e10
              obtain ⟨ks, hks⟩ := other_sort HCC.out
              have HSO := Aside0.mk (fun w1 hB ho => slices_Sort_int_int.calls ks (fun _ => True) (.slice A10 9 c10) (uvL c 9) (otherL c) wB w1 hB ho hks)
              have HO2 := Aside0.mk (show Kd.R (Kd.int .i64) 3 wr wB.heap.size (fun _ => True) (.slice A10 9 c10) (uvL c 9) from HO2.out)
              have HOC := Aside0.mk (other_nine HCC.out)
              clear hks
              have HOd := Aside0.mk (Kd.S_mono (ok' := fun k_ => w5.heap.size ≤ k_ ∧ ¬ wB.heap.size ≤ k_) (Kd.S_bound HO.out) (fun k hk => ⟨hk.1, by have := hk.2.2.1; omega⟩))
              have HU := Aside0.mk (Kd.S_lt HO.out)
              clear HO
              obtain ⟨Z, hZ⟩ : ∃ Z, otherL c = Z := ⟨_, rfl⟩
              rw [hZ] at HNW HSO
              clear hZ HOC
              go_wp2_with (first
                | (go_at_call 63; refine (HSO.out _ HB2.out HO2.out).mono ?_; rintro e w18 ⟨rfl, ho18, hb18, hk18⟩; have HO18 := Aside0.mk ho18; have HB18 := Aside0.mk hb18; clear ho18 hb18 hk18)
                | (at_builtin; refine Kd.S_append LK (w0 := w5) w5.heap.size rfl (.tmp 70) (.tmp 72) 32 23 (.slice none 0 0) 24 rfl Try.underlying32 info23 rfl (by decide) (by omega) u5 R Z [.slice A10 9 c10] (fun k_ => w5.heap.size ≤ k_) (fun k_ => wB.heap.size ≤ k_) rfl rfl ?aP ?aK ?aF ?aO ?aB ?aS ?aL ?_; (case aP => exact ⟨_, rfl, Kd.R_lower (Kd.R_mono (Kd.R_bound HO18.out) (fun k hk => hk.2.1)) HB.out.size⟩); (case aK => exact (fun k_ hk => ⟨Nat.le_trans HB.out.size hk, fun e => Nat.lt_irrefl _ (Nat.lt_of_lt_of_le (HU.out k_ e.symm) hk)⟩)); (case aB => exact bstep HB.out HB18.out); (case aF => exact (fun k_ hk => Nat.le_trans (bstep HB.out HB18.out).size hk)); (case aO => exact Kd.S_below HOd.out HB18.out); (case aS => exact (bstep HB.out HB18.out).size); (case aL => have := HNL.out; omega); intro v19 w19 ho hb hg hat; have HO19 := Aside0.mk ho; have HB19 := Aside0.mk hb; have HL19 := Aside0.mk (Kd.R_over' (Kd.R_below HLI.out HB18.out) (Kd.S_typed (Kd.S_below HOd.out HB18.out)) (by decide) hg); clear ho hb hg hat))
              go_roundg (4 - (j.toNat + 1))
              case measure => have := HK.out; omega
              case rel => exact ⟨j + 1, rfl, ⟨by omega⟩, ⟨by omega⟩, ⟨by rw [HNW.out]; exact HO19.out⟩, HL19, HB19⟩
        · have hj : j = 4 := by have := HI.out; omega
          subst hj
          have HO := Aside0.mk (show Kd.S LK 23 wB w5.heap.size (fun k_ => w5.heap.size ≤ k_) u5 (outI l) from HO.out)
          have hol : (outI l).length = 10 := by unfold outI; rw [List.length_append, HN6.out]; rfl
          have hon : ∀ x ∈ outI l, x.length = 9 := fun x hx => by
            rcases List.mem_append.1 hx with h | h
            · exact HNI.out x ((HMM.out x).1 h)
            · obtain ⟨c, hc, rfl⟩ := List.mem_map.1 h
              have hc : c ∈ ([1, 3, 4, 5] : List Int) := hc
              exact other_nine (by simpa [CC] using hc)
          obtain ⟨Ar, cr, er⟩ := Kd.S_slice HO.out
          rw [hol] at er
          subst er
          have HC := Aside0.mk (fun w1 hB hN => sortRows_calls (outI l) hol hon HND.out Ar cr w5 w1 (fun k_ => w5.heap.size ≤ k_) hB hN)
          have HIF := Aside0.mk HN6.out
          clear hol hon
          go_wp2_with (go_at_call 83; refine (HC.out _ HB.out HO.out).mono ?_; rintro e w' ⟨rfl, r, hr, hN, hb⟩)
          go_ret2
          exact ⟨⟨.slice Ar 10 cr, r, by rw [decide_eq_true HIF.out]; rfl, Kd.S_mono (Kd.S_lower hN HB5.out.size) (fun _ _ => trivial), bstep HB5.out hb, by rw [if_pos HIF.out]; exact hr⟩⟩
end Go.Proofs.Ytbfafjejmljcpaa.X
namespace Go.Proofs.Ytbfafjejmljcpaa.P
open Go.RowKit Go.Proofs.YtbfafjejmljcpaaW.PrintWords Go.Proofs.YtbfafjejmljcpaaW.PrintLast
def impl_SpreadDerive.f (l0 : List (List Int)) : Option (List (List Int) × Bool) := some (X.deriveR l0)
theorem impl_SpreadDerive.callsS (A0 : Option Addr) (c0 : Nat) (l0 : List (List Int)) (r1 : List (List Int)) (r2 : Bool) (w : World) (hr0 : Kd.C (Kd.slice 3 (Kd.int .i64)) w A0 l0.length l0) (hc0 : l0.length ≤ c0) (h : impl_SpreadDerive.f l0 = some (r1, r2)) :
    Calls Try.prog 41 #[.slice A0 l0.length c0] w fun e w' => ∃ v0_ : Value, e = .returned (.tuple #[v0_, .bool r2]) ∧ Kd.S (Kd.slice 3 (Kd.int .i64)) 23 w' w.heap.size (fun _ => True) v0_ r1 ∧ Below w.heap.size w w' := by
  unfold impl_SpreadDerive.f X.deriveR at h
  by_cases hs : X.spreadB l0 = true
  case neg =>
    rw [if_neg fun h => hs h.1] at h
    injection h with h
    injection h with h1 h2
    subst h1; subst h2
    exact (X.derive_no A0 c0 l0 w hr0 (Bool.eq_false_iff.2 hs)).mono fun e w' ⟨he, hb⟩ => ⟨_, he, Kd.S_nil _ _ _ _ _, hb⟩
  case pos =>
  refine (X.derive_yes A0 c0 l0 w hr0 hs (X.outI_nodup hs)).mono ?_
  rintro e w' ⟨v, r, he, hS, hb, hr⟩
  have hlen : (X.restI l0 10).length = 6 ↔ (X.restN l0 10).length = 6 := by rw [X.restI_length]
  by_cases h6 : (X.restI l0 10).length = 6
  · rw [if_pos ⟨hs, hlen.1 h6⟩] at h
    injection h with h
    injection h with h1 h2
    subst h1; subst h2
    rw [if_pos h6] at hr
    rw [decide_eq_true h6] at he
    rw [X.derive_eq hs h6 hr.2.1 hr.2.2] at hS
    exact ⟨v, he, hS, hb⟩
  · rw [if_neg fun h => h6 (hlen.2 h.2)] at h
    injection h with h
    injection h with h1 h2
    subst h1; subst h2
    rw [if_neg h6] at hr
    rw [decide_eq_false h6] at he
    subst hr
    exact ⟨v, he, hS, hb⟩
theorem impl_SpreadDerive.calls (A0 : Option Addr) (c0 : Nat) (l0 : List (List Int)) (r1 : List (List Int)) (r2 : Bool) (w : World) (hr0 : Kd.C (Kd.slice 3 (Kd.int .i64)) w A0 l0.length l0) (hc0 : l0.length ≤ c0) (h : impl_SpreadDerive.f l0 = some (r1, r2)) :
    Calls Try.prog 41 #[.slice A0 l0.length c0] w fun e w' => ∃ v0_ : Value, e = .returned (.tuple #[v0_, .bool r2]) ∧ Kd.N (Kd.slice 3 (Kd.int .i64)) 23 w' w.heap.size (fun k_ => (w.heap.size ≤ k_)) v0_ r1 ∧ Below w.heap.size w w' :=
  (impl_SpreadDerive.callsS A0 c0 l0 r1 r2 w hr0 hc0 h).mono fun e w' ⟨v, he, hS, hb⟩ => ⟨v, he, Kd.S_N (Kd.S_mono (Kd.S_bound hS) (fun k hk => hk.2.1)), hb⟩
end Go.Proofs.Ytbfafjejmljcpaa.P

set_option linter.unusedVariables false
set_option linter.unusedSimpArgs false
namespace Go.Proofs.Ytbfafjejmljcpaa.X
open Go.RowKit Go.Proofs.YtbfafjejmljcpaaW.PrintWords Go.Proofs.YtbfafjejmljcpaaW.PrintLast Go.Proofs.Ytbfafjejmljcpaa.P

theorem deriveR_few (l : List (List Int)) : Few9 (deriveR l).1 := by
  unfold deriveR
  by_cases h : spreadB l = true ∧ (restN l 10).length = 6
  · rw [if_pos h]
    exact ⟨by rw [deriveL_length, h.2]; omega, fun x hx => by rw [deriveL_nines h.1 x hx]; omega⟩
  · rw [if_neg h]
    exact ⟨by simp, fun x hx => absurd hx (by simp)⟩
theorem copySS_calls (A : Option Addr) (c : Nat) (l : List (List Int)) (w : World) (hr : LK.C w A l.length l) (hc : l.length ≤ c) (hl : Short l) :
    Calls Try.prog 40 #[.slice A l.length c] w fun e w' => ∃ (A' : Option Addr) (c' : Nat), e = .returned (.slice A' l.length c') ∧ Kd.S LK 23 w' w.heap.size (fun k => w.heap.size ≤ k ∧ k < w'.heap.size) (.slice A' l.length c') l ∧ Below w.heap.size w w' := by
  obtain ⟨k, hk⟩ := (toIntSS_ev l hl).rounds
  refine (laws_toIntSS.calls k A c l l w hr hc hk).mono ?_
  rintro e w' ⟨v, rfl, ho, hb⟩
  obtain ⟨A', c', rfl⟩ := Kd.S_slice ho
  exact ⟨A', c', rfl, Kd.S_mono (Kd.S_bound ho) (fun k hk => ⟨hk.2.1, hk.2.2.1⟩), hb⟩
set_option maxRecDepth 100000 in
set_option maxHeartbeats 16000000 in
theorem exactDerive_walk (A0 : Option Addr) (c0 : Nat) (l : List (List Int)) (w : World) (hr : LK.C w A0 l.length l) (hc : l.length ≤ c0) (hl : Short l) (s : Int) (hsz : ∃ k, laws_szIntSS.f k l 1048576 = some s) (hs0 : 0 ≤ s) (r : List (List Int)) (q : Bool) (hq : deriveR l = (r, q)) :
    Calls Try.prog 9 #[.slice A0 l.length c0] w fun e w' => e = .returned (.bool true) ∧ Below w.heap.size w w' := by
  have hf : Few9 r := by have := deriveR_few l; rw [hq] at this; exact this
  obtain ⟨ks, hks⟩ := (specDerive_ev l).rounds
  have hki : impl_SpreadDerive.f l = some (deriveR l) := rfl
  rw [hq] at hks hki
  have HR := Aside0.mk hr
  have HC := Aside0.mk hc
  have HL := Aside0.mk hl
  have HF := Aside0.mk hf
  have HKS := Aside0.mk hks
  have HKI := Aside0.mk hki
  obtain ⟨kz, hkz⟩ := hsz
  have HZ := Aside0.mk (laws_szIntSS.calls kz A0 c0 l 1048576 s w hr hc hkz)
  clear hr hc hf hks hki hq hl hkz
  cases q
  all_goals (
    go_enter Try.func9, Try.ntmps9
    go_wp2_with fail
    refine HZ.out.mono ?_
    rintro e wz ⟨rfl, hdz⟩
    have HBZ := Aside0.mk (Drawn0.below hdz)
    clear hdz HZ
    go_wp2_with fail
    refine (copySS_calls A0 c0 l wz (Kd.C_below HR.out HBZ.out) HC.out HL.out).mono ?_
    rintro e w1 ⟨A1, c1, rfl, ho1, hb1⟩
    have HO1 := Aside0.mk (Kd.S_reads' ho1)
    have HB1 := Aside0.mk (bstep HBZ.out hb1)
    clear ho1 hb1
    go_wp2_with fail
    refine (spec_SpreadDerive.calls ks A1 c1 l r _ w1 HO1.out.2.2 HO1.out.2.1 HKS.out).mono ?_
    rintro e w2 ⟨v2, rfl, ho2, hb2⟩
    obtain ⟨A2, c2, e2⟩ := Kd.N_slice ho2
    subst e2
    have HO2 := Aside0.mk (Kd.N_reads' ho2)
    have HB2 := Aside0.mk (bstep HB1.out hb2)
    clear ho2 hb2
    go_wp2_with fail
    refine (copySS_calls A0 c0 l w2 (Kd.C_below HR.out HB2.out) HC.out HL.out).mono ?_
    rintro e w3 ⟨A3, c3, rfl, ho3, hb3⟩
    have HO3 := Aside0.mk ho3
    have HB3 := Aside0.mk hb3
    clear ho3 hb3
    go_wp2_with fail
    refine (impl_SpreadDerive.callsS A3 c3 l r _ w3 (Kd.S_reads' HO3.out).2.2 (Kd.S_reads' HO3.out).2.1 HKI.out).mono ?_
    rintro e w4 ⟨v4, rfl, ho4, hb4⟩
    obtain ⟨A4, c4, e4⟩ := Kd.S_slice ho4
    subst e4
    have HO4 := Aside0.mk (Kd.S_mono (ok' := fun k => w3.heap.size ≤ k) (Kd.S_bound ho4) (fun k hk => hk.2.1))
    have H34 := Aside0.mk hb4
    have HB4 := Aside0.mk (bstep HB3.out hb4)
    clear ho4 hb4
    go_wp2_with fail
    refine (eqSS_calls A4 c4 A2 c2 r w4 HF.out (Kd.S_reads' HO4.out).2.2 (Kd.S_reads' HO4.out).2.1 (Kd.C_below HO2.out.2.2 HB4.out) HO2.out.2.1).mono ?_
    rintro e w5 ⟨rfl, hb5⟩
    have HB5 := Aside0.mk (bstep HB4.out hb5)
    have H35 := Aside0.mk (bstep H34.out hb5)
    have HO5 := Aside0.mk (Kd.S_below HO4.out hb5)
    clear hb5 HO4 HB4 H34
    go_wp2_with fail
    refine (copySS_calls A0 c0 l w5 (Kd.C_below HR.out (bstep HB2.out HB5.out)) HC.out HL.out).mono ?_
    rintro e w6 ⟨A6, c6, rfl, ho6, hb6⟩
    have HO6 := Aside0.mk (Kd.S_reads' ho6)
    have HB6 := Aside0.mk (bstep HB5.out hb6)
    have H36 := Aside0.mk (bstep H35.out hb6)
    have HG6 := Aside0.mk (Kd.S_below HO5.out hb6)
    clear ho6 hb6 HO5 HB5 H35
    go_wp2_with fail
    refine (eqSS_calls A3 c3 A6 c6 l w6 HL.out (Kd.S_reads' (Kd.S_below HO3.out H36.out)).2.2 (Kd.S_reads' HO3.out).2.1 HO6.out.2.2 HO6.out.2.1).mono ?_
    rintro e w7 ⟨rfl, hb7⟩
    have HB7 := Aside0.mk (bstep HB6.out hb7)
    have H37 := Aside0.mk (bstep H36.out hb7)
    have HG7 := Aside0.mk (Kd.S_below HG6.out hb7)
    clear hb7 HG6 HB6 H36
    go_wp2_with fail
    have hkk : 0 ≤ kAt l 1 l.length := (kAt_range HL.out (a := 1) (by omega) l.length).1
    have HMK := Aside0.mk (markSS_calls A3 c3 l 1 HL.out (by omega) (by omega) w2 w7 (fun k => w2.heap.size ≤ k ∧ k < w3.heap.size) HB7.out (Kd.S_below HO3.out H37.out))
    obtain ⟨kk, ekk⟩ : ∃ kk, kAt l 1 l.length = kk := ⟨_, rfl⟩
    rw [ekk] at hkk HMK
    refine HMK.out.mono ?_
    rintro e w8 ⟨rfl, ho8, hb8, hk8⟩
    have HB8 := Aside0.mk hb8
    have HG8 := Aside0.mk (Kd.S_kept HG7.out hk8 (fun k hk h => Nat.lt_irrefl _ (Nat.lt_of_lt_of_le h.2 hk)))
    clear ho8 hb8 hk8 ekk HMK HG7 HB7 H37 HO3
    go_wp2_with fail
    refine (eqSS_calls A4 c4 A2 c2 r w8 HF.out (Kd.S_reads' HG8.out).2.2 (Kd.S_reads' HG8.out).2.1 (Kd.C_below HO2.out.2.2 HB8.out) HO2.out.2.1).mono ?_
    rintro e w9 ⟨rfl, hb9⟩
    have HB9 := Aside0.mk (bstep HB8.out hb9)
    have HG9 := Aside0.mk (Kd.S_lower (Kd.S_below HG8.out hb9) HB3.out.size)
    clear hb9 HG8 HB8
    go_wp2_with fail
    refine (markSS_calls A4 c4 r 1 HF.out (by omega) (by omega) w2 w9 (fun k => w3.heap.size ≤ k) HB9.out HG9.out).mono ?_
    rintro e w10 ⟨rfl, ho10, hb10, _⟩
    have HM := Aside0.mk (Kd.S_reads' ho10)
    have HB10 := Aside0.mk hb10
    have HLN := Aside0.mk (rowsAt_length r 1 r.length)
    have HKR := Aside0.mk (kAt_range HF.out (a := 1) (by omega) r.length)
    have HH := Aside0.mk (fun (w : World) (h0 : LK.C w A4 r.length (rowsAt r 1 r.length)) => held_calls A4 c4 r w HF.out h0 HM.out.2.1)
    have m0 : 0 ≤ kAt r 1 r.length := HKR.out.1
    obtain ⟨m, hm⟩ : ∃ m, kAt r 1 r.length = m := ⟨_, rfl⟩
    rw [hm] at HH m0 ⊢
    clear ho10 hb10 HG9 HB9 HKR hm
    have HC10 := Aside0.mk (show LK.C w10 A4 r.length (rowsAt r 1 r.length) by have h := HM.out.2.2; rwa [HLN.out] at h)
    go_wp2_with fail
    refine (HH.out w10 HC10.out).mono ?_
    rintro e w11 ⟨rfl, hb11⟩
    have HB11 := Aside0.mk (bstep HB10.out hb11)
    have HC11 := Aside0.mk (Kd.C_below HC10.out hb11)
    clear hb11 HB10 HC10
    go_wp2_with fail
    refine (copySS_calls A0 c0 l w11 (Kd.C_below HR.out (bstep HB2.out HB11.out)) HC.out HL.out).mono ?_
    rintro e w12 ⟨A12, c12, rfl, ho12, hb12⟩
    have HO12 := Aside0.mk (Kd.S_reads' ho12)
    have HB12 := Aside0.mk (bstep HB11.out hb12)
    have HC12 := Aside0.mk (Kd.C_below HC11.out hb12)
    clear hb12 HB11 HC11 ho12
    go_wp2_with fail
    refine (impl_SpreadDerive.callsS A12 c12 l r _ w12 HO12.out.2.2 HO12.out.2.1 HKI.out).mono ?_
    rintro e w13 ⟨v13, rfl, ho13, hb13⟩
    obtain ⟨A13, c13, e13⟩ := Kd.S_slice ho13
    subst e13
    have HO13 := Aside0.mk (Kd.S_reads' ho13)
    have HB13 := Aside0.mk (bstep HB12.out hb13)
    have HC13 := Aside0.mk (Kd.C_below HC12.out hb13)
    clear hb13 HB12 HC12 ho13
    go_wp2_with fail
    refine (eqSS_calls A13 c13 A2 c2 r w13 HF.out HO13.out.2.2 HO13.out.2.1 (Kd.C_below HO2.out.2.2 HB13.out) HO2.out.2.1).mono ?_
    rintro e w14 ⟨rfl, hb14⟩
    have HB14 := Aside0.mk (bstep HB13.out hb14)
    have HC14 := Aside0.mk (Kd.C_below HC13.out hb14)
    clear hb14 HB13 HC13
    go_wp2_with fail
    refine (HH.out w14 HC14.out).mono ?_
    rintro e w15 ⟨rfl, hb15⟩
    have HB15 := Aside0.mk (bstep HB2.out (bstep HB14.out hb15))
    clear hb15
    go_wp2
    go_ret
    exact ⟨rfl, HB15.out⟩)
set_option maxRecDepth 100000 in
set_option maxHeartbeats 4000000 in
theorem exactDerive_big (A0 : Option Addr) (c0 : Nat) (l : List (List Int)) (w : World) (hr : LK.C w A0 l.length l) (hc : l.length ≤ c0) (s : Int) (hsz : ∃ k, laws_szIntSS.f k l 1048576 = some s) (hs0 : s < 0) :
    Calls Try.prog 9 #[.slice A0 l.length c0] w fun e w' => e = .returned (.bool true) ∧ Below w.heap.size w w' := by
  obtain ⟨kz, hkz⟩ := hsz
  have HZ := Aside0.mk (laws_szIntSS.calls kz A0 c0 l 1048576 s w hr hc hkz)
  clear hr hc hkz
  go_enter Try.func9, Try.ntmps9
  go_wp2_with (go_at_call 38; refine HZ.out.mono ?_; rintro e w' ⟨rfl, ⟨nd, rfl⟩⟩)
  go_ret
  exact ⟨rfl, pw_below_drewN (Below.refl _ _) _⟩
end Go.Proofs.Ytbfafjejmljcpaa.X
namespace Go.Proofs.Ytbfafjejmljcpaa.P
open Go.RowKit Go.Proofs.YtbfafjejmljcpaaW.PrintWords Go.Proofs.YtbfafjejmljcpaaW.PrintLast
theorem laws_FnExactSpreadDerive.calls (k : Nat) (A0 : Option Addr) (c0 : Nat) (l : List (List Int)) (r : Bool) (w : World) (hr : Kd.C (Kd.slice 3 (Kd.int .i64)) w A0 l.length l) (hc : l.length ≤ c0) (h : r = true ∧ l.length ≤ 9223372036854775807 ∧ ∀ x ∈ l, x.length ≤ 9223372036854775807) :
    Calls Try.prog 9 #[.slice A0 l.length c0] w fun e w' => e = .returned (.bool r) ∧ Below w.heap.size w w' := by
  obtain ⟨rfl, hm, hw⟩ := h
  obtain ⟨s, hev, hs⟩ := X.szIntSS_ev l hm hw 1048576 (by omega) (by omega)
  rcases hs with hs | ⟨h0, _, hsh⟩
  · exact X.exactDerive_big A0 c0 l w hr hc s hev.rounds hs
  · exact X.exactDerive_walk A0 c0 l w hr hc hsh s hev.rounds h0 _ _ rfl
end Go.Proofs.Ytbfafjejmljcpaa.P
namespace Go.Proofs.Ytbfafjejmljcpaa.Pure
open Go.RowKit
theorem FnExactSpreadDerive (l : List (List Int)) (hm : l.length ≤ maxLen) (hw : ∀ x ∈ l, x.length ≤ maxLen) : ∃ k : Nat, (true = true ∧ l.length ≤ 9223372036854775807 ∧ ∀ x ∈ l, x.length ≤ 9223372036854775807) := by
  have hml : maxLen ≤ 9223372036854775807 := by decide
  exact ⟨0, rfl, by omega, fun x hx => by have := hw x hx; omega⟩
end Go.Proofs.Ytbfafjejmljcpaa.Pure

set_option linter.unusedVariables false
set_option linter.unusedSimpArgs false
namespace Go.Proofs.Ytbfafjejmljcpaa.X
open Go.RowKit Go.ChangeShapes Go.WideShapes Go.Proofs.YtbfafjejmljcpaaW.PrintWords

theorem rows_of {H : Type} {enc : TypeId × Value → H} {P : Program} {W : World} {base : Nat} {held : Bool} {t e q : TypeId} (ht : P.underlying t = some (.slice e)) (he : P.underlying e = some (.slice q)) (hq : P.underlying q = some (.int .i64))
    (ce : P.cellsOf e = 1) (cq : P.cellsOf q = 1) {a : Option Addr} {len cap : Nat} {d : DataW H} {p : List MemPlace} (h : DataW.Trod enc P W base (fun _ => true) held t (.slice a len cap) d p) :
    ∃ l : List (List Int), l.length = len ∧ Kd.C (Kd.slice q (Kd.int .i64)) W a l.length l ∧ l.length ≤ cap ∧ l.length ≤ maxLen ∧ ∀ x ∈ l, x.length ≤ maxLen := by
  obtain ⟨fuel, hf⟩ := h
  rcases Go.Deep.open_int_rows ht he hq ce cq hf with ⟨hcs, _⟩ | ⟨a', len', cap', A, L, C, Z, hcs, hb, hl, hm, _, hrow⟩
  · simp [Value.cells] at hcs
    obtain ⟨rfl, rfl, rfl⟩ := hcs
    exact ⟨[], rfl, ⟨rfl, Nat.zero_le _, fun h => absurd h (by decide)⟩, Nat.zero_le _, Nat.zero_le _, fun x hx => absurd hx (by simp)⟩
  · simp [Value.cells] at hcs
    obtain ⟨rfl, rfl, rfl⟩ := hcs
    have hml : maxLen ≤ 9223372036854775807 := by decide
    have hlen : ((List.range len).map fun r => (Z r).take (L r)).length = len := by simp
    refine ⟨(List.range len).map fun r => (Z r).take (L r), hlen, ?_, by rw [hlen]; exact hl, by rw [hlen]; omega, fun x hx => ?_⟩
    · refine ⟨rfl, by rw [hlen]; omega, fun _ => ⟨a', rfl, fun j p hj => ?_⟩⟩
      rw [List.getElem?_map] at hj
      have hjl : j < len := by
        by_cases hjl : j < len
        · exact hjl
        · rw [List.getElem?_eq_none (by simp; omega)] at hj; simp at hj
      rw [List.getElem?_range hjl] at hj
      simp at hj
      subst hj
      obtain ⟨r1, r2, r3, r4, r5, r6, r7⟩ := hrow j (by omega)
      have hL : ((Z j).take (L j)).length = L j := by rw [List.length_take]; omega
      refine ⟨[.slice (A j) (L j) (C j)], rfl, ⟨A j, C j, by rw [hL], by omega, ?_⟩, fun i u hu => ?_⟩
      · rw [hL]
        refine ⟨hL, by omega, fun hpos => ?_⟩
        cases hA : A j with
        | none => have := r6 hA; omega
        | some b =>
          obtain ⟨_, hcell⟩ := r7 b hA
          refine ⟨b, rfl, fun i n hi => ?_⟩
          have hil : i < L j := by
            by_cases hil : i < L j
            · exact hil
            · rw [List.getElem?_eq_none (by omega)] at hi; exact absurd hi (by simp)
          refine ⟨[.int .i64 n], rfl, rfl, fun i' u hu => ?_⟩
          cases i' with
          | succ i' => simp at hu
          | zero =>
            simp at hu
            subst hu
            have hc := hcell i (by omega)
            rw [List.getElem?_take_of_lt hil] at hi
            rw [List.getD_eq_getElem?_getD, hi] at hc
            show W.cell? (b.add (i * 1 + 0)) = _
            rw [Nat.mul_one, Nat.add_zero]
            exact hc
      · cases i with
        | succ i => simp at hu
        | zero =>
          simp at hu
          subst hu
          show W.cell? (a'.add (j * 1 + 0)) = _
          rw [Nat.mul_one, Nat.add_zero]
          exact r1
    · obtain ⟨r, hr, rfl⟩ := List.mem_map.1 hx
      have hr := List.mem_range.1 hr
      obtain ⟨_, r2, r3, r4, _⟩ := hrow r (by omega)
      rw [List.length_take]; omega
end Go.Proofs.Ytbfafjejmljcpaa.X

namespace Go.Proofs.YtbfafjejmljcpaaW.PrintWords
open Go.ChangeShapes Go.WideShapes
end Go.Proofs.YtbfafjejmljcpaaW.PrintWords

namespace Go.Proofs.Ytbfafjejmljcpaa.fnExactSpreadDerive
open Go.ChangeShapes Go.WideShapes Go.ChangeAt Go.RowKit
set_option linter.unusedVariables false
theorem own : ownKnob Try.prog.godebug = none := by kernel_rfl
theorem laidOut : laidOutB Try.prog = true := by kernel_rfl
set_option maxRecDepth 100000 in
theorem lifted (os : Os) (started : os.Started) (H : Type) (enc : TypeId × Value → H) :
    ReturnsInHanded {} Try.checked os 9 .any (Rows.fnExactSpreadDeriveSpec.pre6 enc Try.prog Try.f9 Rows.fnExactSpreadDeriveRow.domain false) (Rows.fnExactSpreadDeriveSpec.post enc Try.prog Try.f9 false true false false) := by
  refine returnsInHanded_of_change_sized (C := Try.checked) own started (by kernel_rfl) Try.func9
    (ChangeSpec.witness6 (enc := enc) (C := Try.checked) false ⟨#[], #[.slice none 0 0], []⟩ 8 (by kernel_rfl) (by kernel_rfl) (by kernel_rfl) (by kernel_rfl)) ?_
  intro W base args ds gs before hval0 hW hcnd hsz0 _
  have hval : ∀ (j : Nat) t v, Try.f9.params[j]? = some t → args[j]? = some v → Value.okWide Try.prog W .any base t v := hval0
  have hW' := hW
  obtain ⟨p, q, hA0, hV, rfl, hfz, hnd⟩ := hW
  have hA : DataW.TrodAll enc Try.prog W 0 (fun _ => true) true Try.f9.params.toList args.toList ds p := hA0
  rw [Try.params9] at hA hval
  obtain ⟨v0, vs0, d0, ds0, p0, q0, hargs, rfl, rfl, h0, r0⟩ := trodAll_cons hA
  obtain ⟨rfl, rfl, rfl⟩ := trodAll_nil r0
  obtain rfl : args = #[v0] := by cases args; simp_all
  obtain ⟨rfl, rfl⟩ := trodVars_none hV
  obtain ⟨a0, len0, cap0, rfl⟩ := okWide_slice Try.underlying32 (hval 0 32 v0 rfl rfl)
  have k0 := h0
  have lt0 : ∀ x ∈ p0, x.block < W.heap.size := by obtain ⟨m, hm⟩ := k0; exact DataW.trod_lt m _ _ _ hm
  obtain ⟨l0, rfl, hr0, hc0, hm0, hw0⟩ := X.rows_of Try.underlying32 Try.underlying23 Try.underlying3 (by kernel_rfl) (by kernel_rfl) h0
  clear hA0 hval0 hsz0
  obtain ⟨k, h⟩ := Pure.FnExactSpreadDerive l0 hm0 hw0
  refine (P.laws_FnExactSpreadDerive.calls k _ _ l0 true W hr0 hc0 h).mono fun e W' ⟨he, bel⟩ => ?_
  subst he
  exact ⟨_, rfl, _, _, _, [], _, [], hW', trodAll_mk1 (shut_bool Try.underlying4 _), (trodAll_cons_mk (Below.trod laidOut (by kernel_rfl) (of_decide_eq_true (by kernel_rfl)) k0 bel lt0) trodAll_mk0), rfl, bel.frame _, fun h => by cases h⟩
theorem over : Rows.fnExactSpreadDeriveRow.holds Try.pinned (OpenSpec.ofChange Rows.fnExactSpreadDeriveSpec) :=
  OpenClaim.holds_of_wide 9 Try.f9 rfl rfl rfl rfl rfl rfl rfl ⟨rfl, rfl, rfl, rfl, rfl⟩ rfl rfl rfl rfl rfl (by kernel_rfl) Try.func9 (by kernel_rfl)
    (of_decide_eq_true (by kernel_rfl)) (by unfold Func.isWrapper; first | (rw [if_pos (by decide +kernel)]; kernel_rfl) | (rw [if_neg (by decide +kernel)]; exact ⟨rfl, rfl⟩))
    (fun os started H enc _ => lifted os started H enc)
theorem proved : Rows.FnExactSpreadDeriveSaid := over
#print axioms proved
end Go.Proofs.Ytbfafjejmljcpaa.fnExactSpreadDerive
namespace Go.Proofs.Ytbfafjejmljcpaa
theorem fnExactSpreadDerive_holds : Rows.FnExactSpreadDeriveSaid := fnExactSpreadDerive.proved
end Go.Proofs.Ytbfafjejmljcpaa
