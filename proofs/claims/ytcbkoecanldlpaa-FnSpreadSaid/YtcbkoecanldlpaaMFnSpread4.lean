/- The law FnSpread of the given program: for every input the call returns true, and each argument reads afterwards as it read before. No conditions. (Part 5 of 5; the last part holds the theorem.) -/
import Derived.Test.YtcbkoecanldlpaaMFnSpread0
import Derived.Test.YtcbkoecanldlpaaMFnSpread3
import Derived.Test.YtcbkoecanldlpaaMFnSpread1
import Derived.Laws.StructEq
import Derived.Test.YtcbkoecanldlpaaMFnSpread2
import Derived.SizedLaws
import Derived.ChangeSlices
import Derived.Test.YtcbkoecanldlpaaRows
import Derived.WalkKit
import Derived.ProofKit
import Derived.OpenShut
import Derived.ShutString
import Derived.ChangeOld
import Derived.Below
namespace Go.Proofs.Ytcbkoecanldlpaa.P
open Go.RowKit Go.Proofs.YtcbkoecanldlpaaW.PrintWords Go.Proofs.YtcbkoecanldlpaaW.PrintLast
set_option linter.unusedVariables false
set_option linter.unusedSimpArgs false

mutual
def spec_l2Of.l0 : Nat → Int → List Int → Int → Option (List Int)
 | 0, _, _, _ => none
 | k + 1, x0, x3, x4 => if x4 < 9 then (spec_l2Of.l1 k x0 x3 x4 0) else (some x3)
def spec_l2Of.l1 : Nat → Int → List Int → Int → Int → Option (List Int)
 | 0, _, _, _, _ => none
 | k + 1, x0, x3, x4, x5 => if x5 < 9 then ((spec_l2Product.f k x0 x4 x5).bind fun t122 => (if x3.length < 17592186044416 then (spec_l2Of.l1 k x0 (x3 ++ [t122]) x4 (wrap64 (x5 + 1))) else (none))) else (spec_l2Of.l0 k x0 x3 (wrap64 (x4 + 1)))
end
def spec_l2Of.f (k : Nat) (a0 : Int) : Option (List Int) := spec_l2Of.l0 k a0 (([] : List Int)) 0
theorem spec_l2Of.mono_l : ∀ k, (∀ y0 y1 y2, LeO (spec_l2Of.l0 k y0 y1 y2) (spec_l2Of.l0 (k + 1) y0 y1 y2)) ∧ (∀ y0 y1 y2 y3, LeO (spec_l2Of.l1 k y0 y1 y2 y3) (spec_l2Of.l1 (k + 1) y0 y1 y2 y3))
 | 0 => ⟨fun _ _ _ r h => by simp [spec_l2Of.l0] at h, fun _ _ _ _ r h => by simp [spec_l2Of.l1] at h⟩
 | k + 1 => by
  obtain ⟨ih0, ih1⟩ := spec_l2Of.mono_l k
  refine ⟨?_, ?_⟩
  ·intro y0 y1 y2
   unfold spec_l2Of.l0
   repeat' first
   | (with_reducible exact ih0 _ _ _)
   | (with_reducible exact ih1 _ _ _ _)
   | (with_reducible exact spec_l2Product.mono _ _ _ _)
   | (with_reducible exact LeO.refl _)
   | (with_reducible exact LeO.none _)
   | (with_reducible refine LeO.ite ?_ ?_)
   | (with_reducible refine LeO.bind ?_ (fun _ => ?_))
   | exact ih0 _ _ _
   | exact ih1 _ _ _ _
   | exact spec_l2Product.mono _ _ _ _
   | exact LeO.none _
   | refine LeO.ite ?_ ?_
   | refine LeO.bind ?_ (fun _ => ?_)
  ·intro y0 y1 y2 y3
   unfold spec_l2Of.l1
   repeat' first
   | (with_reducible exact ih0 _ _ _)
   | (with_reducible exact ih1 _ _ _ _)
   | (with_reducible exact spec_l2Product.mono _ _ _ _)
   | (with_reducible exact LeO.refl _)
   | (with_reducible exact LeO.none _)
   | (with_reducible refine LeO.ite ?_ ?_)
   | (with_reducible refine LeO.bind ?_ (fun _ => ?_))
   | exact ih0 _ _ _
   | exact ih1 _ _ _ _
   | exact spec_l2Product.mono _ _ _ _
   | exact LeO.none _
   | refine LeO.ite ?_ ?_
   | refine LeO.bind ?_ (fun _ => ?_)
theorem spec_l2Of.mono : ∀ a0 k, LeO (spec_l2Of.f k a0) (spec_l2Of.f (k + 1) a0) := by
 intro a0 k
 obtain ⟨ih0, ih1⟩ := spec_l2Of.mono_l k
 unfold spec_l2Of.f
 repeat' first
   | (with_reducible exact ih0 _ _ _)
   | (with_reducible exact ih1 _ _ _ _)
   | (with_reducible exact spec_l2Product.mono _ _ _ _)
   | (with_reducible exact LeO.refl _)
   | (with_reducible exact LeO.none _)
   | (with_reducible refine LeO.ite ?_ ?_)
   | (with_reducible refine LeO.bind ?_ (fun _ => ?_))
   | exact ih0 _ _ _
   | exact ih1 _ _ _ _
   | exact spec_l2Product.mono _ _ _ _
   | exact LeO.none _
   | refine LeO.ite ?_ ?_
   | refine LeO.bind ?_ (fun _ => ?_)
set_option maxHeartbeats 8000000 in
set_option maxRecDepth 100000 in
theorem spec_l2Of.calls (k : Nat) (a0 : Int) (r : List Int) (w : World) (h : spec_l2Of.f k a0 = some r) :
  Calls Try.prog 136 #[.int .i64 a0] w fun e w' => ∃ v0_ : Value, e = .returned (v0_) ∧ Kd.R (Kd.int .i64) 3 w' w.heap.size (fun _ => True) v0_ r ∧ Below w.heap.size w w' := by
 have HB := Aside0.mk (Below.refl w.heap.size w)
 have H : (spec_l2Of.l0 k a0 (([] : List Int)) 0) = some r := h
 clear h
 obtain ⟨y119, hy119⟩ : ∃ y_ : List Int, y_ = (([] : List Int)) := ⟨_, rfl⟩
 replace H : (spec_l2Of.l0 k a0 y119 0) = some r := by first | (rw [hy119]; with_reducible exact H) | (have H2_ := (Option.bind_some _ _).symm.trans H; rw [hy119]; with_reducible exact H2_) | (have H2_ := (Option.bind_some _ _).symm.trans H; with_reducible exact H2_) | with_reducible exact H | (rw [hy119]; exact H) | exact H
 have Ny119 := Aside0.mk hy119
 clear hy119
 have H' := Aside0.mk H
 clear H
 go_enter Try.func136, Try.ntmps136
 go_wp2_with (first | ((with_reducible refine gate_dst (N := 6) rfl ?_); refine Kd.R_lit (Kd.int .i64) _ 3 ?hg (N := 6) ?hd (xs := ([] : List Int)) (inner := []) (ok := fun _ => True) (okp := fun _ => True) ?hr ?hp (fun _ hk => hk) trivial (Below.refl _ _) (Nat.le_refl _) (by simp) ?_; (case hd => rfl); (case hg => rfl); (case hr => first | (go_simp; done) | (go_simp; rfl)); (case hp => exact (Reps.none _ _)); intro v120 w2 ho3 hb hg_ hnew_; clear hg_ hnew_; (first | rw [← Ny119.out] at ho3 | (simp only [Int.reduceToNat] at ho3; rw [← Ny119.out] at ho3)); have n0_ := Aside0.mk (Kd.R_lower ho3 (below_size (bb_ HB))); have n1_ := Aside0.mk (below_step (bb_ HB) hb); clear HB; have HO121 := n0_; have HB := n1_; clear n0_ n1_; clear hb ho3))
 go_loopg [3, 4] k (fun kq v3 v4 w' => ∃ (x3_1 : List Int) (x4_1 : Int), v4 = .int .i64 x4_1 ∧ Aside0 (spec_l2Of.l0 kq a0 x3_1 x4_1 = some r) ∧ Aside0 (kq ≤ k) ∧ Aside0 (Kd.R (Kd.int .i64) 3 w' w.heap.size (fun _ => True) v3 x3_1) ∧ Aside0 (Below w.heap.size w w'))
 case atStart => exact ⟨(y119), (0), (by first | rfl | (simp; done) | (simp [*]; done)), H', ⟨Nat.le_refl _⟩, ⟨rr_ HO121⟩, ⟨by repeat (first | (with_reducible first | exact HB.out | apply below_alloc | apply pw_below_drewN | apply below_drew1) | exact HB.out)⟩⟩
 case round =>
  clear H'
  try clear c1
  try clear p2
  obtain ⟨x3_1, x4_1, rfl, HA, HK1, HO_3, HB⟩ := hrel
  cases gk with
  | zero => exact absurd HA.out (by simp [spec_l2Of.l0])
  | succ k1 =>
   have H := HA.out
   clear HA
   simp only [spec_l2Of.l0] at H
   by_cases c4 : x4_1 < 9
   ·rw [if_pos c4] at H
    have c4b0 : decide (x4_1 < 9) = true := decide_eq_true c4
    clear c4
    have H' := Aside0.mk H
    clear H
    go_wp2
    go_loopg [3, 5] k1 (fun kq v3 v5 w' => ∃ (x3_2 : List Int) (x5_2 : Int), v5 = .int .i64 x5_2 ∧ Aside0 (spec_l2Of.l1 kq a0 x3_2 x4_1 x5_2 = some r) ∧ Aside0 (kq ≤ k1) ∧ Aside0 (Kd.R (Kd.int .i64) 3 w' w.heap.size (fun _ => True) v3 x3_2) ∧ Aside0 (Below w.heap.size w w'))
    case atStart => exact ⟨(x3_1), (0), (by first | rfl | (simp; done) | (simp [*]; done)), H', ⟨Nat.le_refl _⟩, ⟨rr_ HO_3⟩, ⟨by repeat (first | (with_reducible first | exact HB.out | apply below_alloc | apply pw_below_drewN | apply below_drew1) | exact HB.out)⟩⟩
    case round =>
     clear H'
     try clear c1
     try clear p2
     try clear c4
     try clear c4b0
     try clear p2
     obtain ⟨x3_2, x5_2, rfl, HA, HK2, HO_3, HB⟩ := hrel
     cases gk with
     | zero => exact absurd HA.out (by simp [spec_l2Of.l1])
     | succ k2 =>
      have H := HA.out
      clear HA
      simp only [spec_l2Of.l1] at H
      by_cases c5 : x5_2 < 9
      ·rw [if_pos c5] at H
       have c5b0 : decide (x5_2 < 9) = true := decide_eq_true c5
       clear c5
       replace H := Option.bind_eq_some_iff.mp H
       obtain ⟨t122, A60, H⟩ := H
       replace H : (if x3_2.length < 17592186044416 then (spec_l2Of.l1 k2 a0 (x3_2 ++ [t122]) x4_1 (wrap64 (x5_2 + 1))) else (none)) = some r := H
       have A6 := Aside0.mk A60
       clear A60
       by_cases c7 : x3_2.length < 17592186044416
       ·rw [if_pos c7] at H
        have LMc7 := Aside0.mk c7
        clear c7
        obtain ⟨y123, hy123⟩ : ∃ y_ : List Int, y_ = (x3_2 ++ [t122]) := ⟨_, rfl⟩
        replace H : (spec_l2Of.l1 k2 a0 y123 x4_1 (wrap64 (x5_2 + 1))) = some r := by first | (rw [hy123]; with_reducible exact H) | (have H2_ := (Option.bind_some _ _).symm.trans H; rw [hy123]; with_reducible exact H2_) | (have H2_ := (Option.bind_some _ _).symm.trans H; with_reducible exact H2_) | with_reducible exact H | (rw [hy123]; exact H) | exact H
        have Ny123 := Aside0.mk hy123
        clear hy123
        have H' := Aside0.mk H
        clear H
        go_wp2_with (first | (refine goesL_ (some 19) rfl rfl Try.func166 (by kernel_rfl) rfl #[.int .i64 a0, .int .i64 x4_1, .int .i64 x5_2] rfl ll_ ?_; (with_reducible refine (spec_l2Product.calls k2 a0 x4_1 x5_2 t122 _ A6.out).mono ?_); rintro e w' ⟨rfl, ⟨nd, rfl⟩⟩; refine ⟨_, rfl, ?_⟩) | (at_builtin; refine Kd.R_append (Kd.int .i64) (w0 := w) w.heap.size rfl (.tmp 15) (.tmp 20) 23 3 (.int .i64 0) 8 rfl Try.underlying23 info3 rfl (by decide) (by omega) u3 x3_2 t122 [.int .i64 t122] (fun _ => True) (fun _ => False) rfl rfl ?aP (fun _ hk => hk.elim) ?aF ?aO ?aB ?aS ?aL ?_; (case aP => exact rfl); (case aB => exact (bb_ HB)); (case aF => exact (fun _ _ => trivial)); (case aO => exact (rr_ HO_3)); (case aS => exact (below_size (bb_ HB))); (case aL => have := LMc7.out; omega); intro v124 w8 ho hb hg hat; rw [← Ny123.out] at ho; have n0_ := Aside0.mk (hb); have n1_ := Aside0.mk (ho); clear HB; clear HO_3; have HB := n0_; have HO125 := n1_; clear n0_ n1_; clear ho hb hg hat))
        go_roundg k2
        case measure => have := HK1.out; have := HK2.out; omega
        case rel => exact ⟨(y123), (wrap64 (x5_2 + 1)), (by first | rfl | (simp; done) | (simp [*]; done)), H', ⟨by have := HK1.out; have := HK2.out; omega⟩, ⟨rr_ HO125⟩, ⟨by repeat (first | (with_reducible first | exact HB.out | apply below_alloc | apply pw_below_drewN | apply below_drew1) | exact HB.out)⟩⟩
       ·rw [if_neg c7] at H
        exact absurd H (by simp)
      ·rw [if_neg c5] at H
       have c5b0 : decide (x5_2 < 9) = false := decide_eq_false c5
       clear c5
       have H' := Aside0.mk H
       clear H
       go_wp2
       go_roundg k2
       case measure => have := HK1.out; have := HK2.out; omega
       case rel => exact ⟨(x3_2), (wrap64 (x4_1 + 1)), (by first | rfl | (simp; done) | (simp [*]; done)), H', ⟨by have := HK1.out; have := HK2.out; omega⟩, ⟨rr_ HO_3⟩, ⟨by repeat (first | (with_reducible first | exact HB.out | apply below_alloc | apply pw_below_drewN | apply below_drew1) | exact HB.out)⟩⟩
   ·rw [if_neg c4] at H
    have c4b0 : decide (x4_1 < 9) = false := decide_eq_false c4
    clear c4
    obtain rfl := Option.some.inj H
    go_wp2
    go_ret
    exact ⟨_, ee_, by (with_reducible repeat (first | apply Kd.R_alloc | apply Kd.R_drewN | apply Kd.R_drew)); exact HO_3.out, bb_ HB⟩
end Go.Proofs.Ytcbkoecanldlpaa.P

namespace Go.Proofs.Ytcbkoecanldlpaa.P
open Go.RowKit Go.Proofs.YtcbkoecanldlpaaW.PrintWords Go.Proofs.YtcbkoecanldlpaaW.PrintLast
set_option linter.unusedVariables false
set_option linter.unusedSimpArgs false

def spec_l91System.f (k : Nat) (s0_0 : List Int) (s0_1 : Int) : Option (List Int × Int) := (spec_l6Rd_pick.f k s0_0 s0_1 5).bind fun bt126 => ((spec_l2Of.f k bt126.1).bind fun t128 => ((spec_l6Rd_pick.f k s0_0 bt126.2 30).bind fun bt131 => (if bt131.1 = 0 then ((spec_l6Rd_pick.f k s0_0 bt131.2 9).bind fun bt133 => ((spec_l6Rd_pick.f k s0_0 bt133.2 9).bind fun bt135 => ((spec_l6Rd_pick.f k s0_0 bt135.2 9).bind fun bt137 => (if 0 ≤ (wrap64 ((wrap64 (9 * bt133.1)) + bt135.1)) then (if (wrap64 ((wrap64 (9 * bt133.1)) + bt135.1)) < (t128.length : Int) then (some ((t128.set ((wrap64 ((wrap64 (9 * bt133.1)) + bt135.1)) : Int).toNat bt137.1), bt137.2)) else (none)) else (none))))) else (if bt131.1 = 1 then (if 80 ≤ (t128.length : Int) then (some ((t128.take (80 : Int).toNat), bt131.2)) else (none)) else (some (t128, bt131.2))))))
set_option maxHeartbeats 8000000 in
set_option maxRecDepth 100000 in
theorem spec_l91System.calls (k : Nat) (g : Nat) (s0_0 : List Int) (s0_1 : Int) (r1 : List Int) (r2 : Int) (w0 w : World) (hI : IsS76 w0 w g s0_0 s0_1) (hB : Below w0.heap.size w0 w) (h : spec_l91System.f k s0_0 s0_1 = some (r1, r2)) :
  Calls Try.prog 77 #[.pointer (some ⟨g, 0, none⟩)] w fun e w' => ∃ v0_ : Value, e = .returned (v0_) ∧ Kd.R (Kd.int .i64) 3 w' w.heap.size (fun _ => True) v0_ r1 ∧ IsS76 w0 w' g s0_0 r2 ∧ Below w0.heap.size w0 w' ∧ KeepBut w w' g none := by
 have HI0 := Aside0.mk hI
 have HK := Aside0.mk (KeepBut.refl w g none)
 have HL := Aside0.mk hB.size
 clear hI
 have HW0 := Aside0.mk hB.size
 have HB := Aside0.mk hB
 clear hB
 have H : ((spec_l6Rd_pick.f k s0_0 s0_1 5).bind fun bt126 => ((spec_l2Of.f k bt126.1).bind fun t128 => ((spec_l6Rd_pick.f k s0_0 bt126.2 30).bind fun bt131 => (if bt131.1 = 0 then ((spec_l6Rd_pick.f k s0_0 bt131.2 9).bind fun bt133 => ((spec_l6Rd_pick.f k s0_0 bt133.2 9).bind fun bt135 => ((spec_l6Rd_pick.f k s0_0 bt135.2 9).bind fun bt137 => (if 0 ≤ (wrap64 ((wrap64 (9 * bt133.1)) + bt135.1)) then (if (wrap64 ((wrap64 (9 * bt133.1)) + bt135.1)) < (t128.length : Int) then (some ((t128.set ((wrap64 ((wrap64 (9 * bt133.1)) + bt135.1)) : Int).toNat bt137.1), bt137.2)) else (none)) else (none))))) else (if bt131.1 = 1 then (if 80 ≤ (t128.length : Int) then (some ((t128.take (80 : Int).toNat), bt131.2)) else (none)) else (some (t128, bt131.2))))))) = some (r1, r2) := h
 clear h
 replace H := Option.bind_eq_some_iff.mp H
 obtain ⟨⟨t126, t127⟩, A20, H⟩ := H
 replace H : ((spec_l2Of.f k t126).bind fun t128 => ((spec_l6Rd_pick.f k s0_0 t127 30).bind fun bt131 => (if bt131.1 = 0 then ((spec_l6Rd_pick.f k s0_0 bt131.2 9).bind fun bt133 => ((spec_l6Rd_pick.f k s0_0 bt133.2 9).bind fun bt135 => ((spec_l6Rd_pick.f k s0_0 bt135.2 9).bind fun bt137 => (if 0 ≤ (wrap64 ((wrap64 (9 * bt133.1)) + bt135.1)) then (if (wrap64 ((wrap64 (9 * bt133.1)) + bt135.1)) < (t128.length : Int) then (some ((t128.set ((wrap64 ((wrap64 (9 * bt133.1)) + bt135.1)) : Int).toNat bt137.1), bt137.2)) else (none)) else (none))))) else (if bt131.1 = 1 then (if 80 ≤ (t128.length : Int) then (some ((t128.take (80 : Int).toNat), bt131.2)) else (none)) else (some (t128, bt131.2)))))) = some (r1, r2) := H
 have A2 := Aside0.mk A20
 clear A20
 replace H := Option.bind_eq_some_iff.mp H
 obtain ⟨t128, A30, H⟩ := H
 replace H : ((spec_l6Rd_pick.f k s0_0 t127 30).bind fun bt131 => (if bt131.1 = 0 then ((spec_l6Rd_pick.f k s0_0 bt131.2 9).bind fun bt133 => ((spec_l6Rd_pick.f k s0_0 bt133.2 9).bind fun bt135 => ((spec_l6Rd_pick.f k s0_0 bt135.2 9).bind fun bt137 => (if 0 ≤ (wrap64 ((wrap64 (9 * bt133.1)) + bt135.1)) then (if (wrap64 ((wrap64 (9 * bt133.1)) + bt135.1)) < (t128.length : Int) then (some ((t128.set ((wrap64 ((wrap64 (9 * bt133.1)) + bt135.1)) : Int).toNat bt137.1), bt137.2)) else (none)) else (none))))) else (if bt131.1 = 1 then (if 80 ≤ (t128.length : Int) then (some ((t128.take (80 : Int).toNat), bt131.2)) else (none)) else (some (t128, bt131.2))))) = some (r1, r2) := H
 have A3 := Aside0.mk A30
 clear A30
 replace H := Option.bind_eq_some_iff.mp H
 obtain ⟨⟨t131, t132⟩, A40, H⟩ := H
 replace H : (if t131 = 0 then ((spec_l6Rd_pick.f k s0_0 t132 9).bind fun bt133 => ((spec_l6Rd_pick.f k s0_0 bt133.2 9).bind fun bt135 => ((spec_l6Rd_pick.f k s0_0 bt135.2 9).bind fun bt137 => (if 0 ≤ (wrap64 ((wrap64 (9 * bt133.1)) + bt135.1)) then (if (wrap64 ((wrap64 (9 * bt133.1)) + bt135.1)) < (t128.length : Int) then (some ((t128.set ((wrap64 ((wrap64 (9 * bt133.1)) + bt135.1)) : Int).toNat bt137.1), bt137.2)) else (none)) else (none))))) else (if t131 = 1 then (if 80 ≤ (t128.length : Int) then (some ((t128.take (80 : Int).toNat), t132)) else (none)) else (some (t128, t132)))) = some (r1, r2) := H
 have A4 := Aside0.mk A40
 clear A40
 by_cases c5 : t131 = 0
 ·rw [if_pos c5] at H
  have c5b0 : (t131 == 0) = true := beq_iff_eq.mpr c5
  have c5b1 : (t131 != 0) = false := bne_eq_false_iff_eq.mpr c5
  clear c5
  replace H := Option.bind_eq_some_iff.mp H
  obtain ⟨⟨t133, t134⟩, A60, H⟩ := H
  replace H : ((spec_l6Rd_pick.f k s0_0 t134 9).bind fun bt135 => ((spec_l6Rd_pick.f k s0_0 bt135.2 9).bind fun bt137 => (if 0 ≤ (wrap64 ((wrap64 (9 * t133)) + bt135.1)) then (if (wrap64 ((wrap64 (9 * t133)) + bt135.1)) < (t128.length : Int) then (some ((t128.set ((wrap64 ((wrap64 (9 * t133)) + bt135.1)) : Int).toNat bt137.1), bt137.2)) else (none)) else (none)))) = some (r1, r2) := H
  have A6 := Aside0.mk A60
  clear A60
  replace H := Option.bind_eq_some_iff.mp H
  obtain ⟨⟨t135, t136⟩, A70, H⟩ := H
  replace H : ((spec_l6Rd_pick.f k s0_0 t136 9).bind fun bt137 => (if 0 ≤ (wrap64 ((wrap64 (9 * t133)) + t135)) then (if (wrap64 ((wrap64 (9 * t133)) + t135)) < (t128.length : Int) then (some ((t128.set ((wrap64 ((wrap64 (9 * t133)) + t135)) : Int).toNat bt137.1), bt137.2)) else (none)) else (none))) = some (r1, r2) := H
  have A7 := Aside0.mk A70
  clear A70
  replace H := Option.bind_eq_some_iff.mp H
  obtain ⟨⟨t137, t138⟩, A80, H⟩ := H
  replace H : (if 0 ≤ (wrap64 ((wrap64 (9 * t133)) + t135)) then (if (wrap64 ((wrap64 (9 * t133)) + t135)) < (t128.length : Int) then (some ((t128.set ((wrap64 ((wrap64 (9 * t133)) + t135)) : Int).toNat t137), t138)) else (none)) else (none)) = some (r1, r2) := H
  have A8 := Aside0.mk A80
  clear A80
  obtain ⟨ji9, hji9⟩ : ∃ j_ : Int, (wrap64 ((wrap64 (9 * t133)) + t135)) = j_ := ⟨_, rfl⟩
  replace H : (if 0 ≤ (ji9) then (if (ji9) < (t128.length : Int) then (some ((t128.set ((ji9) : Int).toNat t137), t138)) else (none)) else (none)) = some (r1, r2) := by first | (rw [hji9] at H; exact H) | (simp only [hji9] at H ⊢; exact H)
  (try rw [hji9] at A2)
  (try rw [hji9] at A3)
  (try rw [hji9] at A4)
  (try rw [hji9] at A6)
  (try rw [hji9] at A7)
  (try rw [hji9] at A8)
  have hji9w : (IntKind.i64.wrap ((wrap64 (9 * t133)) + t135)) = ji9 := (i64_w _).trans hji9
  by_cases c10 : 0 ≤ (ji9)
  ·rw [if_pos c10] at H
   have c10b0 : decide (0 ≤ (ji9)) = true := decide_eq_true c10
   clear c10
   by_cases c11 : (ji9) < (t128.length : Int)
   ·rw [if_pos c11] at H
    have c11b0 : decide ((ji9) < (t128.length : Int)) = true := decide_eq_true c11
    clear c11
    obtain ⟨y139, hy139⟩ : ∃ y_ : List Int, y_ = (t128.set ((ji9) : Int).toNat t137) := ⟨_, rfl⟩
    replace H : (some (y139, t138)) = some (r1, r2) := by first | (rw [hy139]; with_reducible exact H) | (have H2_ := (Option.bind_some _ _).symm.trans H; rw [hy139]; with_reducible exact H2_) | (have H2_ := (Option.bind_some _ _).symm.trans H; with_reducible exact H2_) | with_reducible exact H | (rw [hy139]; exact H) | exact H
    have Ny139 := Aside0.mk hy139
    clear hy139
    simp only [Option.some.injEq, Prod.mk.injEq] at H
    obtain ⟨rfl, rfl⟩ := H
    go_enter Try.func77, Try.ntmps77
    go_wp2_with (first | (refine goesL_ (some 5) rfl rfl Try.func79 (by kernel_rfl) rfl #[.pointer (some ⟨g, 0, none⟩), .int .i64 5] rfl ll_ ?_; (with_reducible refine (spec_l6Rd_pick.calls k g s0_0 s0_1 5 t126 t127 w0 _ ?side1 ?side2 A2.out).mono ?_); (case side1 => repeat (first | (with_reducible first | exact HI0.out | apply IsS76.alloc | apply IsS76.drewN | apply IsS76.drew | apply IsS76.set_1) | exact HI0.out)); (case side2 => repeat (first | (with_reducible first | exact HB.out | apply below_alloc | apply pw_below_drewN | apply below_drew1 | refine below_set ?_ (IsS76.ge HI0.out)) | exact HB.out)); rintro e w13 ⟨rfl, hi, hb, hk⟩; refine ⟨_, rfl, ?_⟩; have n0_ := Aside0.mk (KeepBut.trans (by repeat (first | (with_reducible first | exact HK.out | apply KeepBut.set_ | apply keep_drewN | apply keep_drew | apply keep_alloc) | exact HK.out)) hk (.inl rfl)); have n1_ := Aside0.mk (hb); have n2_ := Aside0.mk (hi); clear HK; clear HB; clear HI0; have HK := n0_; have HB := n1_; have HI0 := n2_; clear n0_ n1_ n2_; (try clear hb); (try clear hb2); (try clear hk); (try clear hi)) | (refine goesL_ (some 6) rfl rfl Try.func136 (by kernel_rfl) rfl #[.int .i64 t126] rfl ll_ ?_; (with_reducible refine (spec_l2Of.calls k t126 t128 _ A3.out).mono ?_); rintro e w14 ⟨v129, rfl, ho0, hb⟩; refine ⟨_, rfl, ?_⟩; have n0_ := Aside0.mk (Kd.R_lower ho0 (keep_size (w := w) (g := g) (row := none) (by repeat (first | (with_reducible first | exact HK.out | apply KeepBut.set_ | apply keep_drewN | apply keep_drew | apply keep_alloc) | exact HK.out)))); have n1_ := Aside0.mk (IsS76.below (by repeat (first | (with_reducible first | exact HI0.out | apply IsS76.alloc | apply IsS76.drewN | apply IsS76.drew | apply IsS76.set_1) | exact HI0.out)) hb); have n2_ := Aside0.mk (KeepBut.trans (by repeat (first | (with_reducible first | exact HK.out | apply KeepBut.set_ | apply keep_drewN | apply keep_drew | apply keep_alloc) | exact HK.out)) (KeepBut.of_below hb g none) (.inl rfl)); have n3_ := Aside0.mk (below_step (by repeat (first | (with_reducible first | exact HB.out | apply below_alloc | apply pw_below_drewN | apply below_drew1 | refine below_set ?_ (IsS76.ge HI0.out)) | exact HB.out)) hb); clear HI0; clear HK; clear HB; have HO130 := n0_; have HI0 := n1_; have HK := n2_; have HB := n3_; clear n0_ n1_ n2_ n3_; (try clear hb); (try clear hb2); (try clear hk); (try clear hi); (try clear ho0)) | (refine goesL_ (some 8) rfl rfl Try.func79 (by kernel_rfl) rfl #[.pointer (some ⟨g, 0, none⟩), .int .i64 30] rfl ll_ ?_; (with_reducible refine (spec_l6Rd_pick.calls k g s0_0 t127 30 t131 t132 w0 _ ?side1 ?side2 A4.out).mono ?_); (case side1 => repeat (first | (with_reducible first | exact HI0.out | apply IsS76.alloc | apply IsS76.drewN | apply IsS76.drew | apply IsS76.set_1) | exact HI0.out)); (case side2 => repeat (first | (with_reducible first | exact HB.out | apply below_alloc | apply pw_below_drewN | apply below_drew1 | refine below_set ?_ (IsS76.ge HI0.out)) | exact HB.out)); rintro e w15 ⟨rfl, hi, hb, hk⟩; refine ⟨_, rfl, ?_⟩; have n0_ := Aside0.mk (Kd.R_mono (Kd.R_keep (IsS76.apart (show IsS76 w0 _ g s0_0 t127 from by repeat (first | (with_reducible first | exact HI0.out | apply IsS76.alloc | apply IsS76.drewN | apply IsS76.drew | apply IsS76.set_1) | exact HI0.out)) (rr_ HO130) (by decide)) hk (fun _ h => h.2)) (fun _ h => h.1)); have n1_ := Aside0.mk (KeepBut.trans (by repeat (first | (with_reducible first | exact HK.out | apply KeepBut.set_ | apply keep_drewN | apply keep_drew | apply keep_alloc) | exact HK.out)) hk (.inl rfl)); have n2_ := Aside0.mk (hb); have n3_ := Aside0.mk (hi); clear HO130; clear HK; clear HB; clear HI0; have HO130 := n0_; have HK := n1_; have HB := n2_; have HI0 := n3_; clear n0_ n1_ n2_ n3_; (try clear hb); (try clear hb2); (try clear hk); (try clear hi)) | (refine goesL_ (some 13) rfl rfl Try.func79 (by kernel_rfl) rfl #[.pointer (some ⟨g, 0, none⟩), .int .i64 9] rfl ll_ ?_; (with_reducible refine (spec_l6Rd_pick.calls k g s0_0 t132 9 t133 t134 w0 _ ?side1 ?side2 A6.out).mono ?_); (case side1 => repeat (first | (with_reducible first | exact HI0.out | apply IsS76.alloc | apply IsS76.drewN | apply IsS76.drew | apply IsS76.set_1) | exact HI0.out)); (case side2 => repeat (first | (with_reducible first | exact HB.out | apply below_alloc | apply pw_below_drewN | apply below_drew1 | refine below_set ?_ (IsS76.ge HI0.out)) | exact HB.out)); rintro e w16 ⟨rfl, hi, hb, hk⟩; refine ⟨_, rfl, ?_⟩; have n0_ := Aside0.mk (Kd.R_mono (Kd.R_keep (IsS76.apart (show IsS76 w0 _ g s0_0 t132 from by repeat (first | (with_reducible first | exact HI0.out | apply IsS76.alloc | apply IsS76.drewN | apply IsS76.drew | apply IsS76.set_1) | exact HI0.out)) (rr_ HO130) (by decide)) hk (fun _ h => h.2)) (fun _ h => h.1)); have n1_ := Aside0.mk (KeepBut.trans (by repeat (first | (with_reducible first | exact HK.out | apply KeepBut.set_ | apply keep_drewN | apply keep_drew | apply keep_alloc) | exact HK.out)) hk (.inl rfl)); have n2_ := Aside0.mk (hb); have n3_ := Aside0.mk (hi); clear HO130; clear HK; clear HB; clear HI0; have HO130 := n0_; have HK := n1_; have HB := n2_; have HI0 := n3_; clear n0_ n1_ n2_ n3_; (try clear hb); (try clear hb2); (try clear hk); (try clear hi)) | (refine goesL_ (some 16) rfl rfl Try.func79 (by kernel_rfl) rfl #[.pointer (some ⟨g, 0, none⟩), .int .i64 9] rfl ll_ ?_; (with_reducible refine (spec_l6Rd_pick.calls k g s0_0 t134 9 t135 t136 w0 _ ?side1 ?side2 A7.out).mono ?_); (case side1 => repeat (first | (with_reducible first | exact HI0.out | apply IsS76.alloc | apply IsS76.drewN | apply IsS76.drew | apply IsS76.set_1) | exact HI0.out)); (case side2 => repeat (first | (with_reducible first | exact HB.out | apply below_alloc | apply pw_below_drewN | apply below_drew1 | refine below_set ?_ (IsS76.ge HI0.out)) | exact HB.out)); rintro e w17 ⟨rfl, hi, hb, hk⟩; refine ⟨_, rfl, ?_⟩; have n0_ := Aside0.mk (Kd.R_mono (Kd.R_keep (IsS76.apart (show IsS76 w0 _ g s0_0 t134 from by repeat (first | (with_reducible first | exact HI0.out | apply IsS76.alloc | apply IsS76.drewN | apply IsS76.drew | apply IsS76.set_1) | exact HI0.out)) (rr_ HO130) (by decide)) hk (fun _ h => h.2)) (fun _ h => h.1)); have n1_ := Aside0.mk (KeepBut.trans (by repeat (first | (with_reducible first | exact HK.out | apply KeepBut.set_ | apply keep_drewN | apply keep_drew | apply keep_alloc) | exact HK.out)) hk (.inl rfl)); have n2_ := Aside0.mk (hb); have n3_ := Aside0.mk (hi); clear HO130; clear HK; clear HB; clear HI0; have HO130 := n0_; have HK := n1_; have HB := n2_; have HI0 := n3_; clear n0_ n1_ n2_ n3_; (try clear hb); (try clear hb2); (try clear hk); (try clear hi)) | (refine goesL_ (some 19) rfl rfl Try.func79 (by kernel_rfl) rfl #[.pointer (some ⟨g, 0, none⟩), .int .i64 9] rfl ll_ ?_; (with_reducible refine (spec_l6Rd_pick.calls k g s0_0 t136 9 t137 t138 w0 _ ?side1 ?side2 A8.out).mono ?_); (case side1 => repeat (first | (with_reducible first | exact HI0.out | apply IsS76.alloc | apply IsS76.drewN | apply IsS76.drew | apply IsS76.set_1) | exact HI0.out)); (case side2 => repeat (first | (with_reducible first | exact HB.out | apply below_alloc | apply pw_below_drewN | apply below_drew1 | refine below_set ?_ (IsS76.ge HI0.out)) | exact HB.out)); rintro e w18 ⟨rfl, hi, hb, hk⟩; refine ⟨_, rfl, ?_⟩; have n0_ := Aside0.mk (Kd.R_mono (Kd.R_keep (IsS76.apart (show IsS76 w0 _ g s0_0 t136 from by repeat (first | (with_reducible first | exact HI0.out | apply IsS76.alloc | apply IsS76.drewN | apply IsS76.drew | apply IsS76.set_1) | exact HI0.out)) (rr_ HO130) (by decide)) hk (fun _ h => h.2)) (fun _ h => h.1)); have n1_ := Aside0.mk (KeepBut.trans (by repeat (first | (with_reducible first | exact HK.out | apply KeepBut.set_ | apply keep_drewN | apply keep_drew | apply keep_alloc) | exact HK.out)) hk (.inl rfl)); have n2_ := Aside0.mk (hb); have n3_ := Aside0.mk (hi); clear HO130; clear HK; clear HB; clear HI0; have HO130 := n0_; have HK := n1_; have HB := n2_; have HI0 := n3_; clear n0_ n1_ n2_ n3_; (try clear hb); (try clear hb2); (try clear hk); (try clear hi); have p12 : 0 ≤ ((ji9) : Int) := dd_; have q12 : ((ji9) : Int) < ((t128.length : Int) : Int) := dd_; obtain ⟨go12, co12, eo12, gb12, gl12, cl12, HG12⟩ := Kd.R_form HO130.out (by omega); (first | cases eo12 | (injection eo12 with ea_ en_ ec_; (first | subst ea_ | (injection ea_ with ea_; subst ea_)); subst ec_; clear en_)); have GB12 := Aside0.mk gb12; have GG12 := Aside0.mk HG12; clear gb12 gl12 HG12; obtain ⟨hx12_0, hf12_0⟩ := Kd.R_celln 0 HO130.out ((ji9) : Int) p12 q12; replace p12 := eq_true p12; replace q12 := eq_true q12; obtain ⟨hy19_, hz19_⟩ := Kd.R_celln 0 HO130.out ((ji9) : Int) (dd_) (dd_); have HP19 := Kd.R_putg HO130.out ((ji9) : Int) t137) | ((with_reducible refine gate_store (t := 3) (p := 20) rfl ?_); refine store_event (t := 3) (p := 20) (v := ?vo_w20) (w1 := (w18.setCell ⟨go12, ((ji9) : Int).toNat, none⟩ (.int .i64 t137))) ?hg ?ho ?hn ?hr ?_; (case ho => rfl); (case hg => rfl); (case hn => rfl); (case hr => first | (go_simp; done) | (go_simp; rfl)); intro w20 hw; have hg : w18.grownBy w20 (some go12) := (by rw [hw]; exact HP19.2); have hp_ : Kd.R (Kd.int .i64) 3 w20 w.heap.size (fun _ => True) (.slice (some ⟨go12, 0, none⟩) t128.length co12) y139 := (by rw [hw, Ny139.out]; exact HP19.1); clear HP19; have n0_ := Aside0.mk (IsS76.grown (by repeat (first | (with_reducible first | exact HI0.out | apply IsS76.alloc | apply IsS76.drewN | apply IsS76.drew | apply IsS76.set_1) | exact HI0.out)) hg (IsS76.own_ne HI0.out HO130.out (by decide))); have n1_ := Aside0.mk (hp_); have n2_ := Aside0.mk ((by rw [hw]; exact below_set (HB.out) (Nat.le_trans HL.out GB12.out) : Below w0.heap.size w0 w20)); have n3_ := Aside0.mk (KeepBut.trans (by repeat (first | (with_reducible first | exact HK.out | apply KeepBut.set_ | apply keep_drewN | apply keep_drew | apply keep_alloc) | exact HK.out)) (KeepBut.of_grown hg g) (Kd.R_base2 HO130.out)); clear HI0; clear HO130; clear HB; clear HK; have HI0 := n0_; have HO130 := n1_; have HB := n2_; have HK := n3_; clear n0_ n1_ n2_ n3_; clear hg hw hp_))
    go_ret
    exact ⟨_, by first | rfl | (simp [errW_none, errW_some] <;> rfl) | (simp only [← hji9]; first | rfl | (simp [errW_none, errW_some] <;> rfl)) | (simp [*, errW_none, errW_some] <;> rfl), by (with_reducible repeat (first | apply Kd.R_alloc | apply Kd.R_drewN | apply Kd.R_drew)); exact HO130.out, by repeat (first | (with_reducible first | exact HI0.out | apply IsS76.alloc | apply IsS76.drewN | apply IsS76.drew | apply IsS76.set_1) | exact HI0.out), by repeat (first | (with_reducible first | exact HB.out | apply below_alloc | apply pw_below_drewN | apply below_drew1 | refine below_set ?_ (IsS76.ge HI0.out)) | exact HB.out), by repeat (first | (with_reducible first | exact HK.out | apply KeepBut.set_ | apply keep_drewN | apply keep_drew | apply keep_alloc) | exact HK.out)⟩
   ·rw [if_neg c11] at H
    exact absurd H (by simp)
  ·rw [if_neg c10] at H
   exact absurd H (by simp)
 ·rw [if_neg c5] at H
  have c5b0 : (t131 == 0) = false := beq_eq_false_iff_ne.mpr c5
  have c5b1 : (t131 != 0) = true := bne_iff_ne.mpr c5
  by_cases c21 : t131 = 1
  ·rw [if_pos c21] at H
   have c21b0 : (t131 == 1) = true := beq_iff_eq.mpr c21
   have c21b1 : (t131 != 1) = false := bne_eq_false_iff_eq.mpr c21
   clear c21
   by_cases c22 : 80 ≤ (t128.length : Int)
   ·rw [if_pos c22] at H
    have c22b0 := eq_true c22
    have c22b1 : decide (80 ≤ (t128.length : Int)) = true := decide_eq_true c22
    clear c22
    obtain ⟨y140, hy140⟩ : ∃ y_ : List Int, y_ = (t128.take (80 : Int).toNat) := ⟨_, rfl⟩
    replace H : (some (y140, t132)) = some (r1, r2) := by first | (rw [hy140]; with_reducible exact H) | (have H2_ := (Option.bind_some _ _).symm.trans H; rw [hy140]; with_reducible exact H2_) | (have H2_ := (Option.bind_some _ _).symm.trans H; with_reducible exact H2_) | with_reducible exact H | (rw [hy140]; exact H) | exact H
    have Ny140 := Aside0.mk hy140
    clear hy140
    simp only [Option.some.injEq, Prod.mk.injEq] at H
    obtain ⟨rfl, rfl⟩ := H
    go_enter Try.func77, Try.ntmps77
    go_wp2_with (first | (refine goesL_ (some 5) rfl rfl Try.func79 (by kernel_rfl) rfl #[.pointer (some ⟨g, 0, none⟩), .int .i64 5] rfl ll_ ?_; (with_reducible refine (spec_l6Rd_pick.calls k g s0_0 s0_1 5 t126 t127 w0 _ ?side1 ?side2 A2.out).mono ?_); (case side1 => repeat (first | (with_reducible first | exact HI0.out | apply IsS76.alloc | apply IsS76.drewN | apply IsS76.drew | apply IsS76.set_1) | exact HI0.out)); (case side2 => repeat (first | (with_reducible first | exact HB.out | apply below_alloc | apply pw_below_drewN | apply below_drew1 | refine below_set ?_ (IsS76.ge HI0.out)) | exact HB.out)); rintro e w23 ⟨rfl, hi, hb, hk⟩; refine ⟨_, rfl, ?_⟩; have n0_ := Aside0.mk (KeepBut.trans (by repeat (first | (with_reducible first | exact HK.out | apply KeepBut.set_ | apply keep_drewN | apply keep_drew | apply keep_alloc) | exact HK.out)) hk (.inl rfl)); have n1_ := Aside0.mk (hb); have n2_ := Aside0.mk (hi); clear HK; clear HB; clear HI0; have HK := n0_; have HB := n1_; have HI0 := n2_; clear n0_ n1_ n2_; (try clear hb); (try clear hb2); (try clear hk); (try clear hi)) | (refine goesL_ (some 6) rfl rfl Try.func136 (by kernel_rfl) rfl #[.int .i64 t126] rfl ll_ ?_; (with_reducible refine (spec_l2Of.calls k t126 t128 _ A3.out).mono ?_); rintro e w24 ⟨v129, rfl, ho0, hb⟩; refine ⟨_, rfl, ?_⟩; have n0_ := Aside0.mk (Kd.R_lower ho0 (keep_size (w := w) (g := g) (row := none) (by repeat (first | (with_reducible first | exact HK.out | apply KeepBut.set_ | apply keep_drewN | apply keep_drew | apply keep_alloc) | exact HK.out)))); have n1_ := Aside0.mk (IsS76.below (by repeat (first | (with_reducible first | exact HI0.out | apply IsS76.alloc | apply IsS76.drewN | apply IsS76.drew | apply IsS76.set_1) | exact HI0.out)) hb); have n2_ := Aside0.mk (KeepBut.trans (by repeat (first | (with_reducible first | exact HK.out | apply KeepBut.set_ | apply keep_drewN | apply keep_drew | apply keep_alloc) | exact HK.out)) (KeepBut.of_below hb g none) (.inl rfl)); have n3_ := Aside0.mk (below_step (by repeat (first | (with_reducible first | exact HB.out | apply below_alloc | apply pw_below_drewN | apply below_drew1 | refine below_set ?_ (IsS76.ge HI0.out)) | exact HB.out)) hb); clear HI0; clear HK; clear HB; have HO130 := n0_; have HI0 := n1_; have HK := n2_; have HB := n3_; clear n0_ n1_ n2_ n3_; (try clear hb); (try clear hb2); (try clear hk); (try clear hi); (try clear ho0)) | (refine goesL_ (some 8) rfl rfl Try.func79 (by kernel_rfl) rfl #[.pointer (some ⟨g, 0, none⟩), .int .i64 30] rfl ll_ ?_; (with_reducible refine (spec_l6Rd_pick.calls k g s0_0 t127 30 t131 t132 w0 _ ?side1 ?side2 A4.out).mono ?_); (case side1 => repeat (first | (with_reducible first | exact HI0.out | apply IsS76.alloc | apply IsS76.drewN | apply IsS76.drew | apply IsS76.set_1) | exact HI0.out)); (case side2 => repeat (first | (with_reducible first | exact HB.out | apply below_alloc | apply pw_below_drewN | apply below_drew1 | refine below_set ?_ (IsS76.ge HI0.out)) | exact HB.out)); rintro e w25 ⟨rfl, hi, hb, hk⟩; refine ⟨_, rfl, ?_⟩; have n0_ := Aside0.mk (Kd.R_mono (Kd.R_keep (IsS76.apart (show IsS76 w0 _ g s0_0 t127 from by repeat (first | (with_reducible first | exact HI0.out | apply IsS76.alloc | apply IsS76.drewN | apply IsS76.drew | apply IsS76.set_1) | exact HI0.out)) (rr_ HO130) (by decide)) hk (fun _ h => h.2)) (fun _ h => h.1)); have n1_ := Aside0.mk (KeepBut.trans (by repeat (first | (with_reducible first | exact HK.out | apply KeepBut.set_ | apply keep_drewN | apply keep_drew | apply keep_alloc) | exact HK.out)) hk (.inl rfl)); have n2_ := Aside0.mk (hb); have n3_ := Aside0.mk (hi); clear HO130; clear HK; clear HB; clear HI0; have HO130 := n0_; have HK := n1_; have HB := n2_; have HI0 := n3_; clear n0_ n1_ n2_ n3_; (try clear hb); (try clear hb2); (try clear hk); (try clear hi); obtain ⟨Ao26, co26, eo26⟩ := Kd.R_slice HO130.out; subst eo26; have q27 : (80 : Int) ≤ ((t128.length : Int) : Int) := dd_; obtain ⟨i027, hi027, _, hsz27, _⟩ := info_parts info3; have hcut27 := cut_to (P := Try.prog) 23 3 .i64 Try.underlying23 hi027 Ao26 t128.length co26 80 (by omega) q27 (Kd.R_reads' HO130.out).2.1; have hr27 := Kd.R_take (m := (80 : Int).toNat) HO130.out (by omega); have hy27 : y140.length = (80 : Int).toNat := (by rw [Ny140.out, List.length_take]; omega); rw [← Ny140.out] at hr27; rw [← hy27] at hr27 hcut27; clear hy27 hi027 hsz27 HO130; have HO142 := Aside0.mk hr27; clear hr27; replace q27 := eq_true q27))
    go_ret
    exact ⟨_, ee_, by (with_reducible repeat (first | apply Kd.R_alloc | apply Kd.R_drewN | apply Kd.R_drew)); exact HO142.out, by repeat (first | (with_reducible first | exact HI0.out | apply IsS76.alloc | apply IsS76.drewN | apply IsS76.drew | apply IsS76.set_1) | exact HI0.out), by repeat (first | (with_reducible first | exact HB.out | apply below_alloc | apply pw_below_drewN | apply below_drew1 | refine below_set ?_ (IsS76.ge HI0.out)) | exact HB.out), by repeat (first | (with_reducible first | exact HK.out | apply KeepBut.set_ | apply keep_drewN | apply keep_drew | apply keep_alloc) | exact HK.out)⟩
   ·rw [if_neg c22] at H
    exact absurd H (by simp)
  ·rw [if_neg c21] at H
   have c21b0 : (t131 == 1) = false := beq_eq_false_iff_ne.mpr c21
   have c21b1 : (t131 != 1) = true := bne_iff_ne.mpr c21
   simp only [Option.some.injEq, Prod.mk.injEq] at H
   obtain ⟨rfl, rfl⟩ := H
   go_enter Try.func77, Try.ntmps77
   go_wp2_with (first | (refine goesL_ (some 5) rfl rfl Try.func79 (by kernel_rfl) rfl #[.pointer (some ⟨g, 0, none⟩), .int .i64 5] rfl ll_ ?_; (with_reducible refine (spec_l6Rd_pick.calls k g s0_0 s0_1 5 t126 t127 w0 _ ?side1 ?side2 A2.out).mono ?_); (case side1 => repeat (first | (with_reducible first | exact HI0.out | apply IsS76.alloc | apply IsS76.drewN | apply IsS76.drew | apply IsS76.set_1) | exact HI0.out)); (case side2 => repeat (first | (with_reducible first | exact HB.out | apply below_alloc | apply pw_below_drewN | apply below_drew1 | refine below_set ?_ (IsS76.ge HI0.out)) | exact HB.out)); rintro e w28 ⟨rfl, hi, hb, hk⟩; refine ⟨_, rfl, ?_⟩; have n0_ := Aside0.mk (KeepBut.trans (by repeat (first | (with_reducible first | exact HK.out | apply KeepBut.set_ | apply keep_drewN | apply keep_drew | apply keep_alloc) | exact HK.out)) hk (.inl rfl)); have n1_ := Aside0.mk (hb); have n2_ := Aside0.mk (hi); clear HK; clear HB; clear HI0; have HK := n0_; have HB := n1_; have HI0 := n2_; clear n0_ n1_ n2_; (try clear hb); (try clear hb2); (try clear hk); (try clear hi)) | (refine goesL_ (some 6) rfl rfl Try.func136 (by kernel_rfl) rfl #[.int .i64 t126] rfl ll_ ?_; (with_reducible refine (spec_l2Of.calls k t126 t128 _ A3.out).mono ?_); rintro e w29 ⟨v129, rfl, ho0, hb⟩; refine ⟨_, rfl, ?_⟩; have n0_ := Aside0.mk (Kd.R_lower ho0 (keep_size (w := w) (g := g) (row := none) (by repeat (first | (with_reducible first | exact HK.out | apply KeepBut.set_ | apply keep_drewN | apply keep_drew | apply keep_alloc) | exact HK.out)))); have n1_ := Aside0.mk (IsS76.below (by repeat (first | (with_reducible first | exact HI0.out | apply IsS76.alloc | apply IsS76.drewN | apply IsS76.drew | apply IsS76.set_1) | exact HI0.out)) hb); have n2_ := Aside0.mk (KeepBut.trans (by repeat (first | (with_reducible first | exact HK.out | apply KeepBut.set_ | apply keep_drewN | apply keep_drew | apply keep_alloc) | exact HK.out)) (KeepBut.of_below hb g none) (.inl rfl)); have n3_ := Aside0.mk (below_step (by repeat (first | (with_reducible first | exact HB.out | apply below_alloc | apply pw_below_drewN | apply below_drew1 | refine below_set ?_ (IsS76.ge HI0.out)) | exact HB.out)) hb); clear HI0; clear HK; clear HB; have HO130 := n0_; have HI0 := n1_; have HK := n2_; have HB := n3_; clear n0_ n1_ n2_ n3_; (try clear hb); (try clear hb2); (try clear hk); (try clear hi); (try clear ho0)) | (refine goesL_ (some 8) rfl rfl Try.func79 (by kernel_rfl) rfl #[.pointer (some ⟨g, 0, none⟩), .int .i64 30] rfl ll_ ?_; (with_reducible refine (spec_l6Rd_pick.calls k g s0_0 t127 30 t131 t132 w0 _ ?side1 ?side2 A4.out).mono ?_); (case side1 => repeat (first | (with_reducible first | exact HI0.out | apply IsS76.alloc | apply IsS76.drewN | apply IsS76.drew | apply IsS76.set_1) | exact HI0.out)); (case side2 => repeat (first | (with_reducible first | exact HB.out | apply below_alloc | apply pw_below_drewN | apply below_drew1 | refine below_set ?_ (IsS76.ge HI0.out)) | exact HB.out)); rintro e w30 ⟨rfl, hi, hb, hk⟩; refine ⟨_, rfl, ?_⟩; have n0_ := Aside0.mk (Kd.R_mono (Kd.R_keep (IsS76.apart (show IsS76 w0 _ g s0_0 t127 from by repeat (first | (with_reducible first | exact HI0.out | apply IsS76.alloc | apply IsS76.drewN | apply IsS76.drew | apply IsS76.set_1) | exact HI0.out)) (rr_ HO130) (by decide)) hk (fun _ h => h.2)) (fun _ h => h.1)); have n1_ := Aside0.mk (KeepBut.trans (by repeat (first | (with_reducible first | exact HK.out | apply KeepBut.set_ | apply keep_drewN | apply keep_drew | apply keep_alloc) | exact HK.out)) hk (.inl rfl)); have n2_ := Aside0.mk (hb); have n3_ := Aside0.mk (hi); clear HO130; clear HK; clear HB; clear HI0; have HO130 := n0_; have HK := n1_; have HB := n2_; have HI0 := n3_; clear n0_ n1_ n2_ n3_; (try clear hb); (try clear hb2); (try clear hk); (try clear hi)))
   go_ret
   exact ⟨_, ee_, by (with_reducible repeat (first | apply Kd.R_alloc | apply Kd.R_drewN | apply Kd.R_drew)); exact HO130.out, by repeat (first | (with_reducible first | exact HI0.out | apply IsS76.alloc | apply IsS76.drewN | apply IsS76.drew | apply IsS76.set_1) | exact HI0.out), by repeat (first | (with_reducible first | exact HB.out | apply below_alloc | apply pw_below_drewN | apply below_drew1 | refine below_set ?_ (IsS76.ge HI0.out)) | exact HB.out), by repeat (first | (with_reducible first | exact HK.out | apply KeepBut.set_ | apply keep_drewN | apply keep_drew | apply keep_alloc) | exact HK.out)⟩
end Go.Proofs.Ytcbkoecanldlpaa.P

namespace Go.Proofs.YtcbkoecanldlpaaW.PrintLast
section
variable {P : Program} {ops : Array Oper} {Q : Exit → Act → World → Prop} {md : Region.Mode} {S : World → Prop} {ds : List Nat} {T : Bool × List (List Nat × List Nat)}
end
end Go.Proofs.YtcbkoecanldlpaaW.PrintLast

namespace Go.Proofs.YtcbkoecanldlpaaW.PrintWords
open Go.RowKit
section
variable {P : Program} {d : Nat} {xs ys : Array Value} {f : Field} {fs : List Field} {a b : Value} {r s : Bool} {w : World}
end
end Go.Proofs.YtcbkoecanldlpaaW.PrintWords

namespace Go.Proofs.YtcbkoecanldlpaaW.PrintLast
section
variable {P : Program} {ops : Array Oper} {Q : Exit → Act → World → Prop} {md : Region.Mode} {T : Bool × List (List Nat × List Nat)} {B : List Nat} {O : List Nat} {b : Nat → Bool} {i j n : Nat}
end
end Go.Proofs.YtcbkoecanldlpaaW.PrintLast

namespace Go.Proofs.YtcbkoecanldlpaaW.PrintWords
open Go.RowKit
end Go.Proofs.YtcbkoecanldlpaaW.PrintWords
namespace Go.Proofs.YtcbkoecanldlpaaW.PrintLast
section
variable {ops : Array Oper} {a : Act} {o og : Oper} {g : Nat} {t : Tmp} {u : Bool}
end
end Go.Proofs.YtcbkoecanldlpaaW.PrintLast

namespace Go.Proofs.YtcbkoecanldlpaaW.PrintWords
open Go.RowKit
section
variable {P : Program} {ops : Array Oper} {rest : List Oper} {o : Oper} {a : Act} {Q : Exit → Act → World → Prop} {W : World}
end
end Go.Proofs.YtcbkoecanldlpaaW.PrintWords

namespace Go.Proofs.Ytcbkoecanldlpaa.P
open Go.RowKit Go.Proofs.YtcbkoecanldlpaaW.PrintWords Go.Proofs.YtcbkoecanldlpaaW.PrintLast Go.Proofs.YtcbkoecanldlpaaW.PrintMore
set_option linter.unusedVariables false
set_option linter.unusedSimpArgs false

def spec_l91Spread.j0 : Nat → List (List Int) → List Int → Int → Option ((List (List Int)) × Int)
 | 0, _, _, _ => none
 | k + 1, x3, x1000, x1001 => (spec_l6Rd_pick.f k x1000 x1001 24).bind fun bt1083 => (if bt1083.1 = 0 then ((spec_l91Leaf.f k x1000 bt1083.2).bind fun bt1085 => (if 3 < (x3.length : Int) then (some ((x3.set (3 : Int).toNat bt1085.1), bt1085.2)) else (none))) else (some (x3, bt1083.2)))
def spec_l91Spread.f (k : Nat) (s0_0 : List Int) (s0_1 : Int) : Option ((List (List Int)) × Int) := (spec_l91System.f k s0_0 s0_1).bind fun bt1069 => ((spec_SpreadOf.f k bt1069.1).bind fun bt1073 => (if bt1073.2 = true then ((spec_l6Rd_pick.f k s0_0 bt1069.2 3).bind fun bt1077 => (if bt1077.1 = 0 then ((spec_SpreadDerive.f k bt1073.1).bind fun bt1079 => (if bt1079.2 = true then (spec_l91Spread.j0 k bt1079.1 s0_0 bt1077.2) else (spec_l91Spread.j0 k bt1073.1 s0_0 bt1077.2))) else (spec_l91Spread.j0 k bt1073.1 s0_0 bt1077.2))) else (some (bt1073.1, bt1069.2))))
set_option maxHeartbeats 8000000 in
set_option maxRecDepth 100000 in
theorem spec_l91Spread.calls (k : Nat) (g : Nat) (s0_0 : List Int) (s0_1 : Int) (r1 : List (List Int)) (r2 : Int) (w0 w : World) (hI : IsS76 w0 w g s0_0 s0_1) (hB : Below w0.heap.size w0 w) (h : spec_l91Spread.f k s0_0 s0_1 = some (r1, r2)) :
  Calls Try.prog 95 #[.pointer (some ⟨g, 0, none⟩)] w fun e w' => ∃ v0_ : Value, e = .returned (v0_) ∧ Kd.N (Kd.slice 3 (Kd.int .i64)) 23 w' w.heap.size (fun k_ => (w.heap.size ≤ k_)) v0_ r1 ∧ IsS76 w0 w' g s0_0 r2 ∧ Below w0.heap.size w0 w' ∧ KeepBut w w' g none := by
 have HI0 := Aside0.mk hI
 have HK := Aside0.mk (KeepBut.refl w g none)
 have HL := Aside0.mk hB.size
 clear hI
 have HW0 := Aside0.mk hB.size
 have HB := Aside0.mk hB
 clear hB
 have H : ((spec_l91System.f k s0_0 s0_1).bind fun bt1069 => ((spec_SpreadOf.f k bt1069.1).bind fun bt1073 => (if bt1073.2 = true then ((spec_l6Rd_pick.f k s0_0 bt1069.2 3).bind fun bt1077 => (if bt1077.1 = 0 then ((spec_SpreadDerive.f k bt1073.1).bind fun bt1079 => (if bt1079.2 = true then (spec_l91Spread.j0 k bt1079.1 s0_0 bt1077.2) else (spec_l91Spread.j0 k bt1073.1 s0_0 bt1077.2))) else (spec_l91Spread.j0 k bt1073.1 s0_0 bt1077.2))) else (some (bt1073.1, bt1069.2))))) = some (r1, r2) := h
 clear h
 replace H := Option.bind_eq_some_iff.mp H
 obtain ⟨⟨t1069, t1072⟩, A20, H⟩ := H
 replace H : ((spec_SpreadOf.f k t1069).bind fun bt1073 => (if bt1073.2 = true then ((spec_l6Rd_pick.f k s0_0 t1072 3).bind fun bt1077 => (if bt1077.1 = 0 then ((spec_SpreadDerive.f k bt1073.1).bind fun bt1079 => (if bt1079.2 = true then (spec_l91Spread.j0 k bt1079.1 s0_0 bt1077.2) else (spec_l91Spread.j0 k bt1073.1 s0_0 bt1077.2))) else (spec_l91Spread.j0 k bt1073.1 s0_0 bt1077.2))) else (some (bt1073.1, t1072)))) = some (r1, r2) := H
 have A2 := Aside0.mk A20
 clear A20
 replace H := Option.bind_eq_some_iff.mp H
 obtain ⟨⟨t1073, t1076⟩, A30, H⟩ := H
 replace H : (if t1076 = true then ((spec_l6Rd_pick.f k s0_0 t1072 3).bind fun bt1077 => (if bt1077.1 = 0 then ((spec_SpreadDerive.f k t1073).bind fun bt1079 => (if bt1079.2 = true then (spec_l91Spread.j0 k bt1079.1 s0_0 bt1077.2) else (spec_l91Spread.j0 k t1073 s0_0 bt1077.2))) else (spec_l91Spread.j0 k t1073 s0_0 bt1077.2))) else (some (t1073, t1072))) = some (r1, r2) := H
 have A3 := Aside0.mk A30
 clear A30
 by_cases c4 : t1076 = true
 ·subst c4
  have H1 : ((spec_l6Rd_pick.f k s0_0 t1072 3).bind fun bt1077 => (if bt1077.1 = 0 then ((spec_SpreadDerive.f k t1073).bind fun bt1079 => (if bt1079.2 = true then (spec_l91Spread.j0 k bt1079.1 s0_0 bt1077.2) else (spec_l91Spread.j0 k t1073 s0_0 bt1077.2))) else (spec_l91Spread.j0 k t1073 s0_0 bt1077.2))) = some (r1, r2) := by rw [if_pos rfl] at H; exact H
  clear H
  have H := H1
  clear H1
  replace H := Option.bind_eq_some_iff.mp H
  obtain ⟨⟨t1077, t1078⟩, A50, H⟩ := H
  replace H : (if t1077 = 0 then ((spec_SpreadDerive.f k t1073).bind fun bt1079 => (if bt1079.2 = true then (spec_l91Spread.j0 k bt1079.1 s0_0 t1078) else (spec_l91Spread.j0 k t1073 s0_0 t1078))) else (spec_l91Spread.j0 k t1073 s0_0 t1078)) = some (r1, r2) := H
  have A5 := Aside0.mk A50
  clear A50
  have HC6 := Aside0.mk H
  clear H
  go_enter Try.func95, Try.ntmps95
  go_upto_if 18 with (first | ((with_reducible refine gate_callee (f := 77) rfl ?_); refine goesL_ (some 9) rfl rfl Try.func77 (by kernel_rfl) rfl #[.pointer (some ⟨g, 0, none⟩)] rfl ll_ ?_; (with_reducible refine (spec_l91System.calls k g s0_0 s0_1 t1069 t1072 w0 _ ?side1 ?side2 A2.out).mono ?_); (case side1 => repeat (first | (with_reducible first | exact HI0.out | apply IsS76.alloc | apply IsS76.drewN | apply IsS76.drew | apply IsS76.set_1) | exact HI0.out)); (case side2 => repeat (first | (with_reducible first | exact HB.out | apply below_alloc | apply pw_below_drewN | apply below_drew1 | refine below_set ?_ (IsS76.ge HI0.out)) | exact HB.out)); rintro e w7 ⟨v1070, rfl, ho0, hi, hb, hk⟩; refine ⟨_, rfl, ?_⟩; have n0_ := Aside0.mk (Kd.R_lower (Kd.R_newM (M := fun k_ => (w.heap.size ≤ k_)) ho0 (keep_size (w := w) (g := g) (row := none) (by repeat (first | (with_reducible first | exact HK.out | apply KeepBut.set_ | apply keep_drewN | apply keep_drew | apply keep_alloc) | exact HK.out))) (fun k_ h_ => h_)) (keep_size (w := w) (g := g) (row := none) (by repeat (first | (with_reducible first | exact HK.out | apply KeepBut.set_ | apply keep_drewN | apply keep_drew | apply keep_alloc) | exact HK.out)))); have n1_ := Aside0.mk (KeepBut.trans (by repeat (first | (with_reducible first | exact HK.out | apply KeepBut.set_ | apply keep_drewN | apply keep_drew | apply keep_alloc) | exact HK.out)) hk (.inl rfl)); have n2_ := Aside0.mk (hb); have n3_ := Aside0.mk (hi); clear HK; clear HB; clear HI0; have HO1071 := n0_; have HK := n1_; have HB := n2_; have HI0 := n3_; clear n0_ n1_ n2_ n3_; (try clear hb); (try clear hb2); (try clear hk); (try clear hi); (try clear ho0); obtain ⟨Ao8, co8, eo8⟩ := Kd.R_slice HO1071.out; subst eo8) | ((with_reducible refine gate_callee (f := 151) rfl ?_); refine goesL_ (some 10) rfl rfl Try.func151 (by kernel_rfl) rfl #[.slice Ao8 t1069.length co8] rfl ll_ ?_; (with_reducible refine (spec_SpreadOf.calls k _ _ t1069 t1073 true _ ?side1 ?side2 A3.out).mono ?_); (case side1 => exact cc_ HO1071); (case side2 => exact (Kd.R_reads' HO1071.out).2.1); rintro e w9 ⟨v1074, rfl, ho0, hb⟩; refine ⟨_, rfl, ?_⟩; have n0_ := Aside0.mk (Kd.R_below (rr_ HO1071) hb); have n1_ := Aside0.mk (Kd.N_lower (Kd.N_mono (ok' := fun k_ => (w.heap.size ≤ k_) ∧ some k_ ≠ (.slice Ao8 t1069.length co8 : Value).ownBlock ∧ k_ ≠ g) ho0 (fun k_ hk_ => ⟨(Nat.le_trans (keep_size (w := w) (g := g) (row := none) (by repeat (first | (with_reducible first | exact HK.out | apply KeepBut.set_ | apply keep_drewN | apply keep_drew | apply keep_alloc) | exact HK.out))) hk_), (Kd.fresh' (Kd.R_lt (rr_ HO1071)) k_ hk_), (IsS76.fresh (by repeat (first | (with_reducible first | exact HI0.out | apply IsS76.alloc | apply IsS76.drewN | apply IsS76.drew | apply IsS76.set_1) | exact HI0.out)) k_ hk_)⟩)) (keep_size (w := w) (g := g) (row := none) (by repeat (first | (with_reducible first | exact HK.out | apply KeepBut.set_ | apply keep_drewN | apply keep_drew | apply keep_alloc) | exact HK.out)))); have n2_ := Aside0.mk (IsS76.below (by repeat (first | (with_reducible first | exact HI0.out | apply IsS76.alloc | apply IsS76.drewN | apply IsS76.drew | apply IsS76.set_1) | exact HI0.out)) hb); have n3_ := Aside0.mk (KeepBut.trans (by repeat (first | (with_reducible first | exact HK.out | apply KeepBut.set_ | apply keep_drewN | apply keep_drew | apply keep_alloc) | exact HK.out)) (KeepBut.of_below hb g none) (.inl rfl)); have n4_ := Aside0.mk (below_step (by repeat (first | (with_reducible first | exact HB.out | apply below_alloc | apply pw_below_drewN | apply below_drew1 | refine below_set ?_ (IsS76.ge HI0.out)) | exact HB.out)) hb); clear HO1071; clear HI0; clear HK; clear HB; have HO1071 := n0_; have HO1075 := n1_; have HI0 := n2_; have HK := n3_; have HB := n4_; clear n0_ n1_ n2_ n3_ n4_; (try clear hb); (try clear hb2); (try clear hk); (try clear hi); (try clear ho0)) | ((with_reducible refine gate_callee (f := 79) rfl ?_); refine goesL_ (some 17) rfl rfl Try.func79 (by kernel_rfl) rfl #[.pointer (some ⟨g, 0, none⟩), .int .i64 3] rfl ll_ ?_; (with_reducible refine (spec_l6Rd_pick.calls k g s0_0 t1072 3 t1077 t1078 w0 _ ?side1 ?side2 A5.out).mono ?_); (case side1 => repeat (first | (with_reducible first | exact HI0.out | apply IsS76.alloc | apply IsS76.drewN | apply IsS76.drew | apply IsS76.set_1) | exact HI0.out)); (case side2 => repeat (first | (with_reducible first | exact HB.out | apply below_alloc | apply pw_below_drewN | apply below_drew1 | refine below_set ?_ (IsS76.ge HI0.out)) | exact HB.out)); rintro e w10 ⟨rfl, hi, hb, hk⟩; refine ⟨_, rfl, ?_⟩; have n0_ := Aside0.mk (Kd.R_mono (Kd.R_keep (IsS76.apart (show IsS76 w0 _ g s0_0 t1072 from by repeat (first | (with_reducible first | exact HI0.out | apply IsS76.alloc | apply IsS76.drewN | apply IsS76.drew | apply IsS76.set_1) | exact HI0.out)) (rr_ HO1071) (by decide)) hk (fun _ h => h.2)) (fun _ h => h.1)); have n1_ := Aside0.mk (Kd.N_mono (Kd.N_keep (Kd.N_mono (ok := fun k_ => (((w.heap.size ≤ k_)) ∧ (some k_ ≠ (.slice Ao8 t1069.length co8 : Value).ownBlock ∧ k_ ≠ g))) (by (with_reducible repeat (first | apply Kd.N_alloc | apply Kd.N_drewN | apply Kd.N_drew)); exact HO1075.out) (fun k_ hk_ => (⟨hk_, hk_.2.2⟩ : _ ∧ k_ ≠ g))) hk (fun _ h => h.2)) (fun _ h => h.1)); have n2_ := Aside0.mk (KeepBut.trans (by repeat (first | (with_reducible first | exact HK.out | apply KeepBut.set_ | apply keep_drewN | apply keep_drew | apply keep_alloc) | exact HK.out)) hk (.inl rfl)); have n3_ := Aside0.mk (hb); have n4_ := Aside0.mk (hi); clear HO1071; clear HO1075; clear HK; clear HB; clear HI0; have HO1071 := n0_; have HO1075 := n1_; have HK := n2_; have HB := n3_; have HI0 := n4_; clear n0_ n1_ n2_ n3_ n4_; (try clear hb); (try clear hb2); (try clear hk); (try clear hi)))
  (try simp only [Act.put, List.setIfInBounds_toArray, List.set_cons_zero, List.set_cons_succ])
  go_cut [3] (fun v3 wc => ∃ (kq : Nat) (x3_5 : List (List Int)), Aside0 (spec_l91Spread.j0 kq x3_5 s0_0 t1078 = some (r1, r2)) ∧ Aside0 (kq ≤ k) ∧ Aside0 (Kd.N (Kd.slice 3 (Kd.int .i64)) 23 wc w.heap.size (fun k_ => (w.heap.size ≤ k_) ∧ k_ ≠ g) v3 x3_5) ∧ Aside0 (IsS76 w0 wc g s0_0 t1078) ∧ Aside0 (KeepBut w wc g none) ∧ Aside0 (Below w0.heap.size w0 wc))
  case first =>
   have H := HC6.out
   clear HC6
   by_cases c11 : t1077 = 0
   ·rw [if_pos c11] at H
    have c11b0 : (t1077 == 0) = true := beq_iff_eq.mpr c11
    have c11b1 : (t1077 != 0) = false := bne_eq_false_iff_eq.mpr c11
    clear c11
    (first | rw [c11b0] | (simp only [i64_w, i32_w]; rw [c11b0]) | skip)
    replace H := Option.bind_eq_some_iff.mp H
    obtain ⟨⟨t1079, t1082⟩, A120, H⟩ := H
    replace H : (if t1082 = true then (spec_l91Spread.j0 k t1079 s0_0 t1078) else (spec_l91Spread.j0 k t1073 s0_0 t1078)) = some (r1, r2) := H
    have A12 := Aside0.mk A120
    clear A120
    by_cases c13 : t1082 = true
    ·subst c13
     have H1 : (spec_l91Spread.j0 k t1079 s0_0 t1078) = some (r1, r2) := by rw [if_pos rfl] at H; exact H
     clear H
     have H := H1
     clear H1
     have H' := Aside0.mk H
     clear H
     obtain ⟨Ao14, co14, eo14⟩ := Kd.N_slice HO1075.out
     subst eo14
     go_wp2_with (first | ((with_reducible refine gate_callee (f := 152) rfl ?_); refine goesL_ (some 21) rfl rfl Try.func152 (by kernel_rfl) rfl #[.slice Ao14 t1073.length co14] rfl ll_ ?_; (with_reducible refine (spec_SpreadDerive.calls k _ _ t1073 t1079 true _ ?side1 ?side2 A12.out).mono ?_); (case side1 => repeat (first | exact (Kd.N_reads' HO1075.out).2.2 | (with_reducible refine Kd.C_alloc ?_ _) | (with_reducible refine Kd.C_drewN ?_ _) | (with_reducible refine Kd.C_drew ?_))); (case side2 => exact (Kd.N_reads' HO1075.out).2.1); rintro e w15 ⟨v1080, rfl, ho0, hb⟩; refine ⟨_, rfl, ?_⟩; have n0_ := Aside0.mk (Kd.R_below (rr_ HO1071) hb); have n1_ := Aside0.mk (Kd.N_elder' (by (with_reducible repeat (first | apply Kd.N_alloc | apply Kd.N_drewN | apply Kd.N_drew)); exact HO1075.out) (Kd.N_base ho0) hb); have n2_ := Aside0.mk (Kd.N_lower (Kd.N_mono (ok' := fun k_ => (w.heap.size ≤ k_) ∧ some k_ ≠ (.slice Ao8 t1069.length co8 : Value).ownBlock ∧ some k_ ≠ (.slice Ao14 t1073.length co14 : Value).ownBlock ∧ k_ ≠ g) ho0 (fun k_ hk_ => ⟨(Nat.le_trans (keep_size (w := w) (g := g) (row := none) (by repeat (first | (with_reducible first | exact HK.out | apply KeepBut.set_ | apply keep_drewN | apply keep_drew | apply keep_alloc) | exact HK.out))) hk_), (Kd.fresh' (Kd.R_lt (rr_ HO1071)) k_ hk_), (Kd.fresh' (Kd.N_lt (by (with_reducible repeat (first | apply Kd.N_alloc | apply Kd.N_drewN | apply Kd.N_drew)); exact HO1075.out)) k_ hk_), (IsS76.fresh (by repeat (first | (with_reducible first | exact HI0.out | apply IsS76.alloc | apply IsS76.drewN | apply IsS76.drew | apply IsS76.set_1) | exact HI0.out)) k_ hk_)⟩)) (keep_size (w := w) (g := g) (row := none) (by repeat (first | (with_reducible first | exact HK.out | apply KeepBut.set_ | apply keep_drewN | apply keep_drew | apply keep_alloc) | exact HK.out)))); have n3_ := Aside0.mk (IsS76.below (by repeat (first | (with_reducible first | exact HI0.out | apply IsS76.alloc | apply IsS76.drewN | apply IsS76.drew | apply IsS76.set_1) | exact HI0.out)) hb); have n4_ := Aside0.mk (KeepBut.trans (by repeat (first | (with_reducible first | exact HK.out | apply KeepBut.set_ | apply keep_drewN | apply keep_drew | apply keep_alloc) | exact HK.out)) (KeepBut.of_below hb g none) (.inl rfl)); have n5_ := Aside0.mk (below_step (by repeat (first | (with_reducible first | exact HB.out | apply below_alloc | apply pw_below_drewN | apply below_drew1 | refine below_set ?_ (IsS76.ge HI0.out)) | exact HB.out)) hb); clear HO1071; clear HO1075; clear HI0; clear HK; clear HB; have HO1071 := n0_; have HO1075 := n1_; have HO1081 := n2_; have HI0 := n3_; have HK := n4_; have HB := n5_; clear n0_ n1_ n2_ n3_ n4_ n5_; (try clear hb); (try clear hb2); (try clear hk); (try clear hi); (try clear ho0)))
     go_meet
     case rel => exact ⟨_, (t1079), H', ⟨by first | omega | exact Nat.le_refl _⟩, ⟨by (with_reducible repeat (first | apply Kd.N_alloc | apply Kd.N_drewN | apply Kd.N_drew)); exact Kd.N_mono HO1081.out (fun _ hk => ⟨hk.1, hk.2.2.2⟩)⟩, ⟨by repeat (first | (with_reducible first | exact HI0.out | apply IsS76.alloc | apply IsS76.drewN | apply IsS76.drew | apply IsS76.set_1) | exact HI0.out)⟩, ⟨by repeat (first | (with_reducible first | exact HK.out | apply KeepBut.set_ | apply keep_drewN | apply keep_drew | apply keep_alloc) | exact HK.out)⟩, ⟨by repeat (first | (with_reducible first | exact HB.out | apply below_alloc | apply pw_below_drewN | apply below_drew1 | refine below_set ?_ (IsS76.ge HI0.out)) | exact HB.out)⟩⟩
    ·replace c13 := Bool.eq_false_iff.mpr c13
     subst c13
     have H1 : (spec_l91Spread.j0 k t1073 s0_0 t1078) = some (r1, r2) := by rw [if_neg (show ¬ (false = true) by decide)] at H; exact H
     clear H
     have H := H1
     clear H1
     have H' := Aside0.mk H
     clear H
     obtain ⟨Ao16, co16, eo16⟩ := Kd.N_slice HO1075.out
     subst eo16
     go_wp2_with (first | ((with_reducible refine gate_callee (f := 152) rfl ?_); refine goesL_ (some 21) rfl rfl Try.func152 (by kernel_rfl) rfl #[.slice Ao16 t1073.length co16] rfl ll_ ?_; (with_reducible refine (spec_SpreadDerive.calls k _ _ t1073 t1079 false _ ?side1 ?side2 A12.out).mono ?_); (case side1 => repeat (first | exact (Kd.N_reads' HO1075.out).2.2 | (with_reducible refine Kd.C_alloc ?_ _) | (with_reducible refine Kd.C_drewN ?_ _) | (with_reducible refine Kd.C_drew ?_))); (case side2 => exact (Kd.N_reads' HO1075.out).2.1); rintro e w17 ⟨v1080, rfl, ho0, hb⟩; refine ⟨_, rfl, ?_⟩; have n0_ := Aside0.mk (Kd.R_below (rr_ HO1071) hb); have n1_ := Aside0.mk (Kd.N_elder' (by (with_reducible repeat (first | apply Kd.N_alloc | apply Kd.N_drewN | apply Kd.N_drew)); exact HO1075.out) (Kd.N_base ho0) hb); have n2_ := Aside0.mk (Kd.N_lower (Kd.N_mono (ok' := fun k_ => (w.heap.size ≤ k_) ∧ some k_ ≠ (.slice Ao8 t1069.length co8 : Value).ownBlock ∧ some k_ ≠ (.slice Ao16 t1073.length co16 : Value).ownBlock ∧ k_ ≠ g) ho0 (fun k_ hk_ => ⟨(Nat.le_trans (keep_size (w := w) (g := g) (row := none) (by repeat (first | (with_reducible first | exact HK.out | apply KeepBut.set_ | apply keep_drewN | apply keep_drew | apply keep_alloc) | exact HK.out))) hk_), (Kd.fresh' (Kd.R_lt (rr_ HO1071)) k_ hk_), (Kd.fresh' (Kd.N_lt (by (with_reducible repeat (first | apply Kd.N_alloc | apply Kd.N_drewN | apply Kd.N_drew)); exact HO1075.out)) k_ hk_), (IsS76.fresh (by repeat (first | (with_reducible first | exact HI0.out | apply IsS76.alloc | apply IsS76.drewN | apply IsS76.drew | apply IsS76.set_1) | exact HI0.out)) k_ hk_)⟩)) (keep_size (w := w) (g := g) (row := none) (by repeat (first | (with_reducible first | exact HK.out | apply KeepBut.set_ | apply keep_drewN | apply keep_drew | apply keep_alloc) | exact HK.out)))); have n3_ := Aside0.mk (IsS76.below (by repeat (first | (with_reducible first | exact HI0.out | apply IsS76.alloc | apply IsS76.drewN | apply IsS76.drew | apply IsS76.set_1) | exact HI0.out)) hb); have n4_ := Aside0.mk (KeepBut.trans (by repeat (first | (with_reducible first | exact HK.out | apply KeepBut.set_ | apply keep_drewN | apply keep_drew | apply keep_alloc) | exact HK.out)) (KeepBut.of_below hb g none) (.inl rfl)); have n5_ := Aside0.mk (below_step (by repeat (first | (with_reducible first | exact HB.out | apply below_alloc | apply pw_below_drewN | apply below_drew1 | refine below_set ?_ (IsS76.ge HI0.out)) | exact HB.out)) hb); clear HO1071; clear HO1075; clear HI0; clear HK; clear HB; have HO1071 := n0_; have HO1075 := n1_; have HO1081 := n2_; have HI0 := n3_; have HK := n4_; have HB := n5_; clear n0_ n1_ n2_ n3_ n4_ n5_; (try clear hb); (try clear hb2); (try clear hk); (try clear hi); (try clear ho0)))
     go_meet
     case rel => exact ⟨_, (t1073), H', ⟨by first | omega | exact Nat.le_refl _⟩, ⟨by (with_reducible repeat (first | apply Kd.N_alloc | apply Kd.N_drewN | apply Kd.N_drew)); exact Kd.N_mono HO1075.out (fun _ hk => ⟨hk.1.1, hk.1.2.2⟩)⟩, ⟨by repeat (first | (with_reducible first | exact HI0.out | apply IsS76.alloc | apply IsS76.drewN | apply IsS76.drew | apply IsS76.set_1) | exact HI0.out)⟩, ⟨by repeat (first | (with_reducible first | exact HK.out | apply KeepBut.set_ | apply keep_drewN | apply keep_drew | apply keep_alloc) | exact HK.out)⟩, ⟨by repeat (first | (with_reducible first | exact HB.out | apply below_alloc | apply pw_below_drewN | apply below_drew1 | refine below_set ?_ (IsS76.ge HI0.out)) | exact HB.out)⟩⟩
   ·rw [if_neg c11] at H
    have c11b0 : (t1077 == 0) = false := beq_eq_false_iff_ne.mpr c11
    have c11b1 : (t1077 != 0) = true := bne_iff_ne.mpr c11
    (first | rw [c11b0] | (simp only [i64_w, i32_w]; rw [c11b0]) | skip)
    have H' := Aside0.mk H
    clear H
    go_wp2
    go_meet
    case rel => exact ⟨_, (t1073), H', ⟨by first | omega | exact Nat.le_refl _⟩, ⟨by (with_reducible repeat (first | apply Kd.N_alloc | apply Kd.N_drewN | apply Kd.N_drew)); exact Kd.N_mono HO1075.out (fun _ hk => ⟨hk.1, hk.2.2⟩)⟩, ⟨by repeat (first | (with_reducible first | exact HI0.out | apply IsS76.alloc | apply IsS76.drewN | apply IsS76.drew | apply IsS76.set_1) | exact HI0.out)⟩, ⟨by repeat (first | (with_reducible first | exact HK.out | apply KeepBut.set_ | apply keep_drewN | apply keep_drew | apply keep_alloc) | exact HK.out)⟩, ⟨by repeat (first | (with_reducible first | exact HB.out | apply below_alloc | apply pw_below_drewN | apply below_drew1 | refine below_set ?_ (IsS76.ge HI0.out)) | exact HB.out)⟩⟩
  case rest =>
   clear HC6
   try clear c1
   try clear p2
   try clear c4
   try clear c7
   try clear c9
   try clear c11
   try clear c11b0
   try clear c11b1
   try clear c13
   try clear c15
   obtain ⟨kq, x3_5, HA, HJ5, HO_3, HI0, HK, HB⟩ := hcut
   cases kq with
   | zero => exact absurd HA.out (by simp [spec_l91Spread.j0])
   | succ kj5 =>
    have H := HA.out
    clear HA
    simp only [spec_l91Spread.j0] at H
    replace H := Option.bind_eq_some_iff.mp H
    obtain ⟨⟨t1083, t1084⟩, A180, H⟩ := H
    replace H : (if t1083 = 0 then ((spec_l91Leaf.f kj5 s0_0 t1084).bind fun bt1085 => (if 3 < (x3_5.length : Int) then (some ((x3_5.set (3 : Int).toNat bt1085.1), bt1085.2)) else (none))) else (some (x3_5, t1084))) = some (r1, r2) := H
    have A18 := Aside0.mk A180
    clear A180
    by_cases c19 : t1083 = 0
    ·rw [if_pos c19] at H
     have c19b0 : (t1083 == 0) = true := beq_iff_eq.mpr c19
     have c19b1 : (t1083 != 0) = false := bne_eq_false_iff_eq.mpr c19
     clear c19
     replace H := Option.bind_eq_some_iff.mp H
     obtain ⟨⟨t1085, t1088⟩, A200, H⟩ := H
     replace H : (if 3 < (x3_5.length : Int) then (some ((x3_5.set (3 : Int).toNat t1085), t1088)) else (none)) = some (r1, r2) := H
     have A20 := Aside0.mk A200
     clear A200
     by_cases c21 : 3 < (x3_5.length : Int)
     ·rw [if_pos c21] at H
      have c21b0 : decide (3 < (x3_5.length : Int)) = true := decide_eq_true c21
      have c21b1 : decide (3 < x3_5.length) = true := decide_eq_true (by omega)
      clear c21
      obtain ⟨y1089, hy1089⟩ : ∃ y_ : List (List Int), y_ = (x3_5.set (3 : Int).toNat t1085) := ⟨_, rfl⟩
      replace H : (some (y1089, t1088)) = some (r1, r2) := by first | (rw [hy1089]; with_reducible exact H) | (have H2_ := (Option.bind_some _ _).symm.trans H; rw [hy1089]; with_reducible exact H2_) | (have H2_ := (Option.bind_some _ _).symm.trans H; with_reducible exact H2_) | with_reducible exact H | (rw [hy1089]; exact H) | exact H
      have Ny1089 := Aside0.mk hy1089
      clear hy1089
      simp only [Option.some.injEq, Prod.mk.injEq] at H
      obtain ⟨rfl, rfl⟩ := H
      go_wp2_with (first | ((with_reducible refine gate_callee (f := 79) rfl ?_); refine goesL_ (some 27) rfl rfl Try.func79 (by kernel_rfl) rfl #[.pointer (some ⟨g, 0, none⟩), .int .i64 24] rfl ll_ ?_; (with_reducible refine (spec_l6Rd_pick.calls kj5 g s0_0 t1078 24 t1083 t1084 w0 _ ?side1 ?side2 A18.out).mono ?_); (case side1 => repeat (first | (with_reducible first | exact HI0.out | apply IsS76.alloc | apply IsS76.drewN | apply IsS76.drew | apply IsS76.set_1) | exact HI0.out)); (case side2 => repeat (first | (with_reducible first | exact HB.out | apply below_alloc | apply pw_below_drewN | apply below_drew1 | refine below_set ?_ (IsS76.ge HI0.out)) | exact HB.out)); rintro e w23 ⟨rfl, hi, hb, hk⟩; refine ⟨_, rfl, ?_⟩; have n0_ := Aside0.mk (Kd.N_mono (Kd.N_keep (Kd.N_mono (ok := fun k_ => (((w.heap.size ≤ k_)) ∧ k_ ≠ g)) (by (with_reducible repeat (first | apply Kd.N_alloc | apply Kd.N_drewN | apply Kd.N_drew)); exact HO_3.out) (fun k_ hk_ => (⟨hk_, hk_.2⟩ : _ ∧ k_ ≠ g))) hk (fun _ h => h.2)) (fun _ h => h.1)); have n1_ := Aside0.mk (KeepBut.trans (by repeat (first | (with_reducible first | exact HK.out | apply KeepBut.set_ | apply keep_drewN | apply keep_drew | apply keep_alloc) | exact HK.out)) hk (.inl rfl)); have n2_ := Aside0.mk (hb); have n3_ := Aside0.mk (hi); clear HO_3; clear HK; clear HB; clear HI0; have HO_3 := n0_; have HK := n1_; have HB := n2_; have HI0 := n3_; clear n0_ n1_ n2_ n3_; (try clear hb); (try clear hb2); (try clear hk); (try clear hi)) | ((with_reducible refine gate_callee (f := 153) rfl ?_); refine goesL_ (some 31) rfl rfl Try.func153 (by kernel_rfl) rfl #[.pointer (some ⟨g, 0, none⟩)] rfl ll_ ?_; (with_reducible refine (spec_l91Leaf.calls kj5 g s0_0 t1084 t1085 t1088 w0 _ ?side1 ?side2 A20.out).mono ?_); (case side1 => repeat (first | (with_reducible first | exact HI0.out | apply IsS76.alloc | apply IsS76.drewN | apply IsS76.drew | apply IsS76.set_1) | exact HI0.out)); (case side2 => repeat (first | (with_reducible first | exact HB.out | apply below_alloc | apply pw_below_drewN | apply below_drew1 | refine below_set ?_ (IsS76.ge HI0.out)) | exact HB.out)); rintro e w24 ⟨v1086, rfl, ho0, hi, hb, hk⟩; refine ⟨_, rfl, ?_⟩; have n0_ := Aside0.mk (Kd.N_mono (Kd.N_told (Kd.N_oldK (Kd.N_mono (ok := fun k_ => (((w.heap.size ≤ k_)) ∧ k_ ≠ g)) (by (with_reducible repeat (first | apply Kd.N_alloc | apply Kd.N_drewN | apply Kd.N_drew)); exact HO_3.out) (fun k_ hk_ => (⟨hk_, hk_.2⟩ : _ ∧ k_ ≠ g))) hk) (Kd.R_base ho0)) (fun _ h_ => h_.1)); have n1_ := Aside0.mk (Kd.R_lower (Kd.R_newM (M := fun k_ => (w.heap.size ≤ k_)) ho0 (keep_size (w := w) (g := g) (row := none) (by repeat (first | (with_reducible first | exact HK.out | apply KeepBut.set_ | apply keep_drewN | apply keep_drew | apply keep_alloc) | exact HK.out))) (fun k_ h_ => h_)) (keep_size (w := w) (g := g) (row := none) (by repeat (first | (with_reducible first | exact HK.out | apply KeepBut.set_ | apply keep_drewN | apply keep_drew | apply keep_alloc) | exact HK.out)))); have n2_ := Aside0.mk (KeepBut.trans (by repeat (first | (with_reducible first | exact HK.out | apply KeepBut.set_ | apply keep_drewN | apply keep_drew | apply keep_alloc) | exact HK.out)) hk (.inl rfl)); have n3_ := Aside0.mk (hb); have n4_ := Aside0.mk (hi); clear HO_3; clear HK; clear HB; clear HI0; have HO_3 := n0_; have HO1087 := n1_; have HK := n2_; have HB := n3_; have HI0 := n4_; clear n0_ n1_ n2_ n3_ n4_; (try clear hb); (try clear hb2); (try clear hk); (try clear hi); (try clear ho0); have p22 : 0 ≤ (3 : Int) := (by omega); have q22 : (3 : Int) < ((x3_5.length : Int) : Int) := dd_; have qi22 : (3 < x3_5.length) = True := eq_true (by omega); obtain ⟨go22, co22, eo22, gb22, gl22, cl22, HG22⟩ := Kd.N_form HO_3.out (by omega); (first | cases eo22 | (injection eo22 with ea_ en_ ec_; (first | subst ea_ | (injection ea_ with ea_; subst ea_)); subst ec_; clear en_)); have GB22 := Aside0.mk gb22; have GG22 := Aside0.mk HG22; clear gb22 gl22 HG22; obtain ⟨ce22, hcl22, hM22, hcc22, hfr22⟩ := Kd.N_elem HO_3.out [] (3 : Int) p22 q22; obtain ⟨ua22_0, uc22_0, rfl, ul22_0, ge22_0⟩ := Kd.FK_slice_open hM22; have hx22_0 := hcc22 0 _ rfl; have hf22_0 := hfr22 0; (try simp only [show ((Kd.slice 3 (Kd.int .i64))).sz = 1 from rfl, Nat.mul_one, Nat.add_zero] at hx22_0); (try simp only [show ((Kd.slice 3 (Kd.int .i64))).sz = 1 from rfl, Nat.mul_one, Nat.add_zero] at hf22_0); (try clear hM22); clear hcl22 hcc22 hfr22; (try rw [show ((3 : Int)).toNat = 3 from rfl] at hx22_0); (try simp only [Nat.reduceMul, Nat.zero_mul, Nat.zero_add, Nat.reduceAdd] at hx22_0); (try rw [show ((3 : Int)).toNat = 3 from rfl] at hf22_0); (try simp only [Nat.reduceMul, Nat.zero_mul, Nat.zero_add, Nat.reduceAdd] at hf22_0); replace p22 := eq_true p22; replace q22 := eq_true q22; have n_ := Aside0.mk (Kd.N_mono (ok' := (fun k_ => (w.heap.size ≤ k_) ∧ some k_ ≠ (v1086 : Value).ownBlock)) HO_3.out (fun k_ hk => ⟨hk.1.1, hk.2⟩)); clear HO_3; have HO_3 := n_; clear n_; have HX25 := Aside0.mk (show Kd.N (Kd.slice 3 (Kd.int .i64)) 23 w24 w.heap.size (fun k_ => (w.heap.size ≤ k_)) (.slice (some ⟨go22, 0, none⟩) x3_5.length co22) x3_5 from (by (with_reducible repeat (first | apply Kd.N_alloc | apply Kd.N_drewN | apply Kd.N_drew)); exact Kd.N_mono HO_3.out (fun _ hk => hk.1))); obtain ⟨ce25, hcl25, hM25, hcc25, hfr25⟩ := Kd.N_elem HX25.out [] (3 : Int) (by omega) (by have h_ : (3 : Int) < ((x3_5.length : Int) : Int) := dd_; first | exact h_ | (have e_ := (Kd.N_reads' HO_3.out).1; omega) | simpa using h_); obtain ⟨ua25_0, uc25_0, rfl, ul25_0, ge25_0⟩ := Kd.FK_slice_open hM25; have HP25 := Kd.N_seg HX25.out (3 : Int) (by omega) (by have h_ : (3 : Int) < ((x3_5.length : Int) : Int) := dd_; first | exact h_ | (have e_ := (Kd.N_reads' HO_3.out).1; omega) | simpa using h_) (seg := [v1086]) (j := 0) hcl25 hcc25 (show 1 ≤ 1 from by decide) (x' := t1085) (by obtain ⟨A_, c_, e_⟩ := Kd.R_slice HO1087.out; subst e_; exact Kd.FK_slice_mk (Kd.R_reads' (Kd.R_mono (ok' := (fun k_ => ((fun k_ => (w.heap.size ≤ k_))) k_ ∧ k_ ≠ go22)) (Kd.R_apart' (HO1087.out) (Kd.N_typed HO_3.out) (by decide)) (fun k_ hk => ⟨hk.1.1, fun e_ => (hk.2) (by rw [e_]; rfl)⟩))).2.1 (Kd.R_F (Kd.R_mono (ok' := (fun k_ => ((fun k_ => (w.heap.size ≤ k_))) k_ ∧ k_ ≠ go22)) (Kd.R_apart' (HO1087.out) (Kd.N_typed HO_3.out) (by decide)) (fun k_ hk => ⟨hk.1.1, fun e_ => (hk.2) (by rw [e_]; rfl)⟩)))) (fun _ hk => hk); have hx25_0 := hcc25 0 _ rfl; (try simp only [show ((Kd.slice 3 (Kd.int .i64))).sz = 1 from rfl, Nat.mul_one, Nat.add_zero] at hx25_0); (try rw [show ((3 : Int)).toNat = 3 from rfl] at hx25_0); (try simp only [Nat.reduceMul, Nat.zero_mul, Nat.zero_add, Nat.reduceAdd] at hx25_0); have hf25_0 := hfr25 0; (try simp only [show ((Kd.slice 3 (Kd.int .i64))).sz = 1 from rfl, Nat.mul_one, Nat.add_zero] at hf25_0); (try rw [show ((3 : Int)).toNat = 3 from rfl] at hf25_0); (try simp only [Nat.reduceMul, Nat.zero_mul, Nat.zero_add, Nat.reduceAdd] at hf25_0); (try clear hM25); clear hcl25 hcc25 hfr25; (try simp only [show ((Kd.slice 3 (Kd.int .i64))).sz = 1 from rfl, Nat.mul_one, Nat.add_zero] at HP25); (try simp only [show ((Kd.slice 3 (Kd.int .i64))).sz = 1 from rfl, Nat.mul_one, Nat.add_zero] at HP25)) | ((with_reducible refine gate_store (t := 23) (p := 32) rfl ?_); refine store_event (t := 23) (p := 32) (v := ?vo_w26) (w1 := (w24.setCell ⟨go22, 3, none⟩ (v1086))) ?hg ?ho ?hn ?hr ?_; (case ho => rfl); (case hg => rfl); (case hn => rfl); (case hr => first | (go_simp; done) | (go_simp; rfl) | (obtain ⟨a_, c_, e_⟩ := Kd.R_slice HO1087.out; rw [e_]; first | (go_simp; done) | (go_simp; rfl)) | (obtain ⟨a_, c_, e_⟩ := Kd.N_slice HO1087.out; rw [e_]; first | (go_simp; done) | (go_simp; rfl))); intro w26 hw; have hg : w24.grownBy w26 (some go22) := (by rw [hw]; exact HP25.2); have hp_ : Kd.N (Kd.slice 3 (Kd.int .i64)) 23 w26 w.heap.size (fun k_ => (w.heap.size ≤ k_)) (.slice (some ⟨go22, 0, none⟩) x3_5.length co22) y1089 := (by rw [hw, Ny1089.out]; exact HP25.1); clear HP25; have n0_ := Aside0.mk (hp_); have n1_ := Aside0.mk (IsS76.grown (by repeat (first | (with_reducible first | exact HI0.out | apply IsS76.alloc | apply IsS76.drewN | apply IsS76.drew | apply IsS76.set_1) | exact HI0.out)) hg (IsS76.own_neN HI0.out HO_3.out (by decide))); have n2_ := Aside0.mk ((by rw [hw]; exact below_set (HB.out) (Nat.le_trans HL.out GB22.out) : Below w0.heap.size w0 w26)); have n3_ := Aside0.mk (KeepBut.trans (by repeat (first | (with_reducible first | exact HK.out | apply KeepBut.set_ | apply keep_drewN | apply keep_drew | apply keep_alloc) | exact HK.out)) (KeepBut.of_grown hg g) (Kd.N_base2 HO_3.out)); clear HO_3; clear HI0; clear HB; clear HK; clear HO1087; have HO_3 := n0_; have HI0 := n1_; have HB := n2_; have HK := n3_; clear n0_ n1_ n2_ n3_; clear hg hw hp_))
      go_ret
      exact ⟨_, ee_, by (with_reducible repeat (first | apply Kd.N_alloc | apply Kd.N_drewN | apply Kd.N_drew)); exact HO_3.out, by repeat (first | (with_reducible first | exact HI0.out | apply IsS76.alloc | apply IsS76.drewN | apply IsS76.drew | apply IsS76.set_1) | exact HI0.out), by repeat (first | (with_reducible first | exact HB.out | apply below_alloc | apply pw_below_drewN | apply below_drew1 | refine below_set ?_ (IsS76.ge HI0.out)) | exact HB.out), by repeat (first | (with_reducible first | exact HK.out | apply KeepBut.set_ | apply keep_drewN | apply keep_drew | apply keep_alloc) | exact HK.out)⟩
     ·rw [if_neg c21] at H
      exact absurd H (by simp)
    ·rw [if_neg c19] at H
     have c19b0 : (t1083 == 0) = false := beq_eq_false_iff_ne.mpr c19
     have c19b1 : (t1083 != 0) = true := bne_iff_ne.mpr c19
     simp only [Option.some.injEq, Prod.mk.injEq] at H
     obtain ⟨rfl, rfl⟩ := H
     go_wp2_with (first | ((with_reducible refine gate_callee (f := 79) rfl ?_); refine goesL_ (some 27) rfl rfl Try.func79 (by kernel_rfl) rfl #[.pointer (some ⟨g, 0, none⟩), .int .i64 24] rfl ll_ ?_; (with_reducible refine (spec_l6Rd_pick.calls kj5 g s0_0 t1078 24 t1083 t1084 w0 _ ?side1 ?side2 A18.out).mono ?_); (case side1 => repeat (first | (with_reducible first | exact HI0.out | apply IsS76.alloc | apply IsS76.drewN | apply IsS76.drew | apply IsS76.set_1) | exact HI0.out)); (case side2 => repeat (first | (with_reducible first | exact HB.out | apply below_alloc | apply pw_below_drewN | apply below_drew1 | refine below_set ?_ (IsS76.ge HI0.out)) | exact HB.out)); rintro e w27 ⟨rfl, hi, hb, hk⟩; refine ⟨_, rfl, ?_⟩; have n0_ := Aside0.mk (Kd.N_mono (Kd.N_keep (Kd.N_mono (ok := fun k_ => (((w.heap.size ≤ k_)) ∧ k_ ≠ g)) (by (with_reducible repeat (first | apply Kd.N_alloc | apply Kd.N_drewN | apply Kd.N_drew)); exact HO_3.out) (fun k_ hk_ => (⟨hk_, hk_.2⟩ : _ ∧ k_ ≠ g))) hk (fun _ h => h.2)) (fun _ h => h.1)); have n1_ := Aside0.mk (KeepBut.trans (by repeat (first | (with_reducible first | exact HK.out | apply KeepBut.set_ | apply keep_drewN | apply keep_drew | apply keep_alloc) | exact HK.out)) hk (.inl rfl)); have n2_ := Aside0.mk (hb); have n3_ := Aside0.mk (hi); clear HO_3; clear HK; clear HB; clear HI0; have HO_3 := n0_; have HK := n1_; have HB := n2_; have HI0 := n3_; clear n0_ n1_ n2_ n3_; (try clear hb); (try clear hb2); (try clear hk); (try clear hi)))
     go_ret
     exact ⟨_, ee_, by (with_reducible repeat (first | apply Kd.N_alloc | apply Kd.N_drewN | apply Kd.N_drew)); exact Kd.N_mono HO_3.out (fun _ hk => hk.1), by repeat (first | (with_reducible first | exact HI0.out | apply IsS76.alloc | apply IsS76.drewN | apply IsS76.drew | apply IsS76.set_1) | exact HI0.out), by repeat (first | (with_reducible first | exact HB.out | apply below_alloc | apply pw_below_drewN | apply below_drew1 | refine below_set ?_ (IsS76.ge HI0.out)) | exact HB.out), by repeat (first | (with_reducible first | exact HK.out | apply KeepBut.set_ | apply keep_drewN | apply keep_drew | apply keep_alloc) | exact HK.out)⟩
 ·replace c4 := Bool.eq_false_iff.mpr c4
  subst c4
  have H1 : (some (t1073, t1072)) = some (r1, r2) := by rw [if_neg (show ¬ (false = true) by decide)] at H; exact H
  clear H
  have H := H1
  clear H1
  simp only [Option.some.injEq, Prod.mk.injEq] at H
  obtain ⟨rfl, rfl⟩ := H
  go_enter Try.func95, Try.ntmps95
  go_wp2_with (first | ((with_reducible refine gate_callee (f := 77) rfl ?_); refine goesL_ (some 9) rfl rfl Try.func77 (by kernel_rfl) rfl #[.pointer (some ⟨g, 0, none⟩)] rfl ll_ ?_; (with_reducible refine (spec_l91System.calls k g s0_0 s0_1 t1069 t1072 w0 _ ?side1 ?side2 A2.out).mono ?_); (case side1 => repeat (first | (with_reducible first | exact HI0.out | apply IsS76.alloc | apply IsS76.drewN | apply IsS76.drew | apply IsS76.set_1) | exact HI0.out)); (case side2 => repeat (first | (with_reducible first | exact HB.out | apply below_alloc | apply pw_below_drewN | apply below_drew1 | refine below_set ?_ (IsS76.ge HI0.out)) | exact HB.out)); rintro e w28 ⟨v1070, rfl, ho0, hi, hb, hk⟩; refine ⟨_, rfl, ?_⟩; have n0_ := Aside0.mk (Kd.R_lower (Kd.R_newM (M := fun k_ => (w.heap.size ≤ k_)) ho0 (keep_size (w := w) (g := g) (row := none) (by repeat (first | (with_reducible first | exact HK.out | apply KeepBut.set_ | apply keep_drewN | apply keep_drew | apply keep_alloc) | exact HK.out))) (fun k_ h_ => h_)) (keep_size (w := w) (g := g) (row := none) (by repeat (first | (with_reducible first | exact HK.out | apply KeepBut.set_ | apply keep_drewN | apply keep_drew | apply keep_alloc) | exact HK.out)))); have n1_ := Aside0.mk (KeepBut.trans (by repeat (first | (with_reducible first | exact HK.out | apply KeepBut.set_ | apply keep_drewN | apply keep_drew | apply keep_alloc) | exact HK.out)) hk (.inl rfl)); have n2_ := Aside0.mk (hb); have n3_ := Aside0.mk (hi); clear HK; clear HB; clear HI0; have HO1071 := n0_; have HK := n1_; have HB := n2_; have HI0 := n3_; clear n0_ n1_ n2_ n3_; (try clear hb); (try clear hb2); (try clear hk); (try clear hi); (try clear ho0); obtain ⟨Ao29, co29, eo29⟩ := Kd.R_slice HO1071.out; subst eo29) | ((with_reducible refine gate_callee (f := 151) rfl ?_); refine goesL_ (some 10) rfl rfl Try.func151 (by kernel_rfl) rfl #[.slice Ao29 t1069.length co29] rfl ll_ ?_; (with_reducible refine (spec_SpreadOf.calls k _ _ t1069 t1073 false _ ?side1 ?side2 A3.out).mono ?_); (case side1 => exact cc_ HO1071); (case side2 => exact (Kd.R_reads' HO1071.out).2.1); rintro e w30 ⟨v1074, rfl, ho0, hb⟩; refine ⟨_, rfl, ?_⟩; have n0_ := Aside0.mk (Kd.R_below (rr_ HO1071) hb); have n1_ := Aside0.mk (Kd.N_lower (Kd.N_mono (ok' := fun k_ => (w.heap.size ≤ k_) ∧ some k_ ≠ (.slice Ao29 t1069.length co29 : Value).ownBlock ∧ k_ ≠ g) ho0 (fun k_ hk_ => ⟨(Nat.le_trans (keep_size (w := w) (g := g) (row := none) (by repeat (first | (with_reducible first | exact HK.out | apply KeepBut.set_ | apply keep_drewN | apply keep_drew | apply keep_alloc) | exact HK.out))) hk_), (Kd.fresh' (Kd.R_lt (rr_ HO1071)) k_ hk_), (IsS76.fresh (by repeat (first | (with_reducible first | exact HI0.out | apply IsS76.alloc | apply IsS76.drewN | apply IsS76.drew | apply IsS76.set_1) | exact HI0.out)) k_ hk_)⟩)) (keep_size (w := w) (g := g) (row := none) (by repeat (first | (with_reducible first | exact HK.out | apply KeepBut.set_ | apply keep_drewN | apply keep_drew | apply keep_alloc) | exact HK.out)))); have n2_ := Aside0.mk (IsS76.below (by repeat (first | (with_reducible first | exact HI0.out | apply IsS76.alloc | apply IsS76.drewN | apply IsS76.drew | apply IsS76.set_1) | exact HI0.out)) hb); have n3_ := Aside0.mk (KeepBut.trans (by repeat (first | (with_reducible first | exact HK.out | apply KeepBut.set_ | apply keep_drewN | apply keep_drew | apply keep_alloc) | exact HK.out)) (KeepBut.of_below hb g none) (.inl rfl)); have n4_ := Aside0.mk (below_step (by repeat (first | (with_reducible first | exact HB.out | apply below_alloc | apply pw_below_drewN | apply below_drew1 | refine below_set ?_ (IsS76.ge HI0.out)) | exact HB.out)) hb); clear HO1071; clear HI0; clear HK; clear HB; have HO1071 := n0_; have HO1075 := n1_; have HI0 := n2_; have HK := n3_; have HB := n4_; clear n0_ n1_ n2_ n3_ n4_; (try clear hb); (try clear hb2); (try clear hk); (try clear hi); (try clear ho0)))
  go_ret
  exact ⟨_, ee_, by (with_reducible repeat (first | apply Kd.N_alloc | apply Kd.N_drewN | apply Kd.N_drew)); exact Kd.N_mono HO1075.out (fun _ hk => hk.1), by repeat (first | (with_reducible first | exact HI0.out | apply IsS76.alloc | apply IsS76.drewN | apply IsS76.drew | apply IsS76.set_1) | exact HI0.out), by repeat (first | (with_reducible first | exact HB.out | apply below_alloc | apply pw_below_drewN | apply below_drew1 | refine below_set ?_ (IsS76.ge HI0.out)) | exact HB.out), by repeat (first | (with_reducible first | exact HK.out | apply KeepBut.set_ | apply keep_drewN | apply keep_drew | apply keep_alloc) | exact HK.out)⟩
end Go.Proofs.Ytcbkoecanldlpaa.P

namespace Go.Proofs.Ytcbkoecanldlpaa.P
open Go.RowKit Go.Proofs.YtcbkoecanldlpaaW.PrintWords Go.Proofs.YtcbkoecanldlpaaW.PrintLast
set_option linter.unusedVariables false
set_option linter.unusedSimpArgs false

def spec_DrawSpreadIn.f (k : Nat) (l0 : List Int) : Option ((List (List Int))) := (spec_l6Open.f l0).bind fun bt1137 => ((spec_l91Spread.f k bt1137.1 bt1137.2).bind fun bt1140 => (some bt1140.1))
set_option maxHeartbeats 8000000 in
set_option maxRecDepth 100000 in
theorem spec_DrawSpreadIn.calls (k : Nat) (A0 : Option Addr) (c0 : Nat) (l0 : List Int) (r : List (List Int)) (w : World) (hr0 : Kd.C (Kd.int .u8) w A0 l0.length l0) (hc0 : l0.length ≤ c0) (h : spec_DrawSpreadIn.f k l0 = some r) :
  Calls Try.prog 44 #[.slice A0 l0.length c0] w fun e w' => ∃ v0_ : Value, e = .returned (v0_) ∧ Kd.N (Kd.slice 3 (Kd.int .i64)) 23 w' w.heap.size (fun k_ => (w.heap.size ≤ k_)) v0_ r ∧ Below w.heap.size w w' := by
 have HR0 := Aside0.mk hr0
 have HC0 := Aside0.mk hc0
 clear hr0 hc0
 have HB := Aside0.mk (Below.refl w.heap.size w)
 have H : ((spec_l6Open.f l0).bind fun bt1137 => ((spec_l91Spread.f k bt1137.1 bt1137.2).bind fun bt1140 => (some bt1140.1))) = some r := h
 clear h
 replace H := Option.bind_eq_some_iff.mp H
 obtain ⟨⟨t1137, t1138⟩, A20, H⟩ := H
 replace H : ((spec_l91Spread.f k t1137 t1138).bind fun bt1140 => (some bt1140.1)) = some r := H
 have A2 := Aside0.mk A20
 clear A20
 replace H := Option.bind_eq_some_iff.mp H
 obtain ⟨⟨t1140, t1143⟩, A30, H⟩ := H
 replace H : (some t1140) = some r := H
 have A3 := Aside0.mk A30
 clear A30
 obtain rfl := Option.some.inj H
 go_enter Try.func44, Try.ntmps44
 go_wp2_with (first | (refine goesL_ (some 4) rfl rfl Try.func76 (by kernel_rfl) rfl #[.slice A0 l0.length c0] rfl ll_ ?_; (with_reducible refine (spec_l6Open.calls _ _ l0 t1137 t1138 w _ ?side1 ?side2 ?side3 A2.out).mono ?_); (case side1 => repeat (first | (with_reducible first | exact HB.out | apply below_alloc | apply pw_below_drewN | apply below_drew1) | exact HB.out)); (case side2 => exact HR0.out); (case side3 => exact HC0.out); rintro e w4 ⟨g1139, rfl, hi, hb, hb2⟩; refine ⟨_, rfl, ?_⟩; have n0_ := Aside0.mk (hb); have n1_ := Aside0.mk (hi); clear HB; have HB := n0_; have HI1139 := n1_; clear n0_ n1_; (try clear hb); (try clear hb2); (try clear hk); (try clear hi)) | (refine goesL_ (some 5) rfl rfl Try.func95 (by kernel_rfl) rfl #[.pointer (some ⟨g1139, 0, none⟩)] rfl ll_ ?_; (with_reducible refine (spec_l91Spread.calls k g1139 t1137 t1138 t1140 t1143 w _ ?side1 ?side2 A3.out).mono ?_); (case side1 => repeat (first | (with_reducible first | exact HI1139.out | apply IsS76.alloc | apply IsS76.drewN | apply IsS76.drew | apply IsS76.set_1) | exact HI1139.out)); (case side2 => repeat (first | (with_reducible first | exact HB.out | apply below_alloc | apply pw_below_drewN | apply below_drew1 | refine below_set ?_ (IsS76.ge HI1139.out)) | exact HB.out)); rintro e w5 ⟨v1141, rfl, ho0, hi, hb, hk⟩; refine ⟨_, rfl, ?_⟩; have n0_ := Aside0.mk (Kd.N_lower (Kd.N_mono (ok' := fun k_ => (w.heap.size ≤ k_) ∧ k_ ≠ g1139) ho0 (fun k_ hk_ => ⟨(Nat.le_trans (below_size (by repeat (first | (with_reducible first | exact HB.out | apply below_alloc | apply pw_below_drewN | apply below_drew1 | refine below_set ?_ (IsS76.ge HI1139.out)) | exact HB.out))) hk_), (IsS76.fresh (by repeat (first | (with_reducible first | exact HI1139.out | apply IsS76.alloc | apply IsS76.drewN | apply IsS76.drew | apply IsS76.set_1) | exact HI1139.out)) k_ hk_)⟩)) (below_size (by repeat (first | (with_reducible first | exact HB.out | apply below_alloc | apply pw_below_drewN | apply below_drew1 | refine below_set ?_ (IsS76.ge HI1139.out)) | exact HB.out)))); have n1_ := Aside0.mk (hb); have n2_ := Aside0.mk (hi); clear HB; clear HI1139; have HO1142 := n0_; have HB := n1_; have HI1139 := n2_; clear n0_ n1_ n2_; (try clear hb); (try clear hb2); (try clear hk); (try clear hi); (try clear ho0)))
 go_ret
 exact ⟨_, ee_, by (with_reducible repeat (first | apply Kd.N_alloc | apply Kd.N_drewN | apply Kd.N_drew)); exact Kd.N_mono HO1142.out (fun _ hk => hk.1), by repeat (first | (with_reducible first | exact HB.out | apply below_alloc | apply pw_below_drewN | apply below_drew1 | refine below_set ?_ (IsS76.ge HI1139.out)) | exact HB.out)⟩
end Go.Proofs.Ytcbkoecanldlpaa.P

namespace Go.Proofs.Ytcbkoecanldlpaa.P
open Go.RowKit Go.Proofs.YtcbkoecanldlpaaW.PrintWords Go.Proofs.YtcbkoecanldlpaaW.PrintLast Go.Proofs.YtcbkoecanldlpaaW.PrintMore
set_option linter.unusedVariables false
set_option linter.unusedSimpArgs false

mutual
def laws_FnSpread.j0 : Nat → List (List Int) → Bool → Bool → Bool → Option (Bool)
 | 0, _, _, _, _ => none
 | k + 1, x3, x4, x5, x27 => if x27 = true then (some (x4 == x5)) else (if 81 ≤ 35184372088832 then (laws_FnSpread.l0 k x3 (List.replicate 81 0) 0) else (none))
def laws_FnSpread.l0 : Nat → List (List Int) → List Int → Int → Option (Bool)
 | 0, _, _, _ => none
 | k + 1, x3, x6, x7 => if x7 < (x3.length : Int) then (laws_FnSpread.l1 k x3 x6 x7 0) else (laws_FnSpread.l2 k x3 x6 1)
def laws_FnSpread.l1 : Nat → List (List Int) → List Int → Int → Int → Option (Bool)
 | 0, _, _, _, _ => none
 | k + 1, x3, x6, x7, x8 => if 0 ≤ x7 then (if x7 < (x3.length : Int) then (if x8 < ((rd_LI x3 x7).length : Int) then (if 0 ≤ x8 then (if 0 ≤ (rd (rd_LI x3 x7) x8) then (if (rd (rd_LI x3 x7) x8) < (x6.length : Int) then (laws_FnSpread.l1 k x3 (x6.set ((rd (rd_LI x3 x7) x8) : Int).toNat (wrap64 ((rd x6 (rd (rd_LI x3 x7) x8)) + 1))) x7 (wrap64 (x8 + 1))) else (none)) else (none)) else (none)) else (laws_FnSpread.l0 k x3 x6 (wrap64 (x7 + 1)))) else (none)) else (none)
def laws_FnSpread.l2 : Nat → List (List Int) → List Int → Int → Option (Bool)
 | 0, _, _, _ => none
 | k + 1, x3, x6, x9 => if x9 < 81 then (if 0 ≤ x9 then (if x9 < (x6.length : Int) then (if (rd x6 x9) = 1 then (laws_FnSpread.l2 k x3 x6 (wrap64 (x9 + 1))) else (some false)) else (none)) else (none)) else ((impl_SpreadSame.f k x3 x3).bind fun bt1166 => (if bt1166.2 = true then (if bt1166.1 = 10 then (if 0 < (x6.length : Int) then (some ((rd x6 0) == 10)) else (none)) else (some false)) else (some false)))
end
def laws_FnSpread.f (k : Nat) (l0 : List Int) : Option (Bool) := if (l0.length : Int) > 1048576 then (some true) else ((spec_DrawSpreadIn.f k l0).bind fun t1150 => ((impl_SpreadIn.f t1150).bind fun t1153 => ((spec_SpreadIn.f k t1150).bind fun t1154 => (if (t1153 != t1154) = true then (laws_FnSpread.j0 k t1150 t1153 t1154 true) else (laws_FnSpread.j0 k t1150 t1153 t1154 (!t1153))))))
def laws_FnSpread.T15 : Bool × List (List Nat × List Nat) := (true, [([], []), ([], []), ([], []), ([1, 2], [1, 2]), ([3], [3]), ([], []), ([4, 5], [4, 5]), ([6], [6]), ([], []), ([], []), ([], []), ([9, 10], [9, 10]), ([11], [11]), ([], []), ([12, 13], [12, 13]), ([14], [14]), ([8, 15], [8, 15]), ([16], [16]), ([17], [17]), ([0, 7, 0, 1, 2, 3, 4, 5, 6, 7, 8, 9, 10, 11, 12, 13, 14, 15, 16, 17, 18], [0, 7]), ([19, 18, 0, 1, 2, 3, 4, 5, 6, 7, 8, 9, 10, 11, 12, 13, 14, 15, 16, 17, 18], [18, 19])])
def laws_FnSpread.B15 : List Nat := [0, 0, 0, 6, 14, 0, 62, 126, 0, 0, 0, 1536, 3584, 0, 15872, 32256, 65280, 130816, 261888, 524287, 1048575]
theorem laws_FnSpread.tab15 : rtab .any (opsOf Try.f11 15) = laws_FnSpread.T15 := by kernel_rfl
theorem laws_FnSpread.bits15 : waitsOk laws_FnSpread.T15.2 laws_FnSpread.B15 = true := by kernel_rfl
set_option maxHeartbeats 8000000 in
set_option maxRecDepth 100000 in
theorem laws_FnSpread.calls (k : Nat) (A0 : Option Addr) (c0 : Nat) (l0 : List Int) (r : Bool) (w : World) (hr0 : Kd.C (Kd.int .u8) w A0 l0.length l0) (hc0 : l0.length ≤ c0) (h : laws_FnSpread.f k l0 = some r) :
  Calls Try.prog 11 #[.slice A0 l0.length c0] w fun e w' => e = .returned (.bool r) ∧ Below w.heap.size w w' := by
 have HR0 := Aside0.mk hr0
 have HC0 := Aside0.mk hc0
 clear hr0 hc0
 have HB := Aside0.mk (Below.refl w.heap.size w)
 have H : (if (l0.length : Int) > 1048576 then (some true) else ((spec_DrawSpreadIn.f k l0).bind fun t1150 => ((impl_SpreadIn.f t1150).bind fun t1153 => ((spec_SpreadIn.f k t1150).bind fun t1154 => (if (t1153 != t1154) = true then (laws_FnSpread.j0 k t1150 t1153 t1154 true) else (laws_FnSpread.j0 k t1150 t1153 t1154 (!t1153))))))) = some r := h
 clear h
 by_cases c2 : (l0.length : Int) > 1048576
 ·rw [if_pos c2] at H
  have c2b0 : decide (1048576 < (l0.length : Int)) = true := decide_eq_true c2
  have c2b1 : decide (1048576 < l0.length) = true := decide_eq_true (by omega)
  clear c2
  obtain rfl := Option.some.inj H
  go_enter Try.func11, Try.ntmps11
  go_wp2
  go_ret
  exact ⟨ee_, bb_ HB⟩
 ·rw [if_neg c2] at H
  have c2b0 : decide (1048576 < (l0.length : Int)) = false := decide_eq_false c2
  have c2b1 : decide (1048576 < l0.length) = false := decide_eq_false (by omega)
  clear c2
  replace H := Option.bind_eq_some_iff.mp H
  obtain ⟨t1150, A30, H⟩ := H
  replace H : ((impl_SpreadIn.f t1150).bind fun t1153 => ((spec_SpreadIn.f k t1150).bind fun t1154 => (if (t1153 != t1154) = true then (laws_FnSpread.j0 k t1150 t1153 t1154 true) else (laws_FnSpread.j0 k t1150 t1153 t1154 (!t1153))))) = some r := H
  have A3 := Aside0.mk A30
  clear A30
  replace H := Option.bind_eq_some_iff.mp H
  obtain ⟨t1153, A40, H⟩ := H
  replace H : ((spec_SpreadIn.f k t1150).bind fun t1154 => (if (t1153 != t1154) = true then (laws_FnSpread.j0 k t1150 t1153 t1154 true) else (laws_FnSpread.j0 k t1150 t1153 t1154 (!t1153)))) = some r := H
  have A4 := Aside0.mk A40
  clear A40
  replace H := Option.bind_eq_some_iff.mp H
  obtain ⟨t1154, A50, H⟩ := H
  replace H : (if (t1153 != t1154) = true then (laws_FnSpread.j0 k t1150 t1153 t1154 true) else (laws_FnSpread.j0 k t1150 t1153 t1154 (!t1153))) = some r := H
  have A5 := Aside0.mk A50
  clear A50
  have HC6 := Aside0.mk H
  clear H
  go_enter Try.func11, Try.ntmps11
  go_upto_region 6 with (first | (refine goesL_ (some 16) rfl rfl Try.func44 (by kernel_rfl) rfl #[.slice A0 l0.length c0] rfl ll_ ?_; (with_reducible refine (spec_DrawSpreadIn.calls k _ _ l0 t1150 _ ?side1 ?side2 A3.out).mono ?_); (case side1 => exact ss_ HR0); (case side2 => exact HC0.out); rintro e w7 ⟨v1151, rfl, ho0, hb⟩; refine ⟨_, rfl, ?_⟩; have n0_ := Aside0.mk (Kd.N_lower (Kd.N_mono (ok' := fun k_ => True) ho0 (fun k_ hk_ => trivial)) (below_size (bb_ HB))); have n1_ := Aside0.mk (below_step (bb_ HB) hb); clear HB; have HO1152 := n0_; have HB := n1_; clear n0_ n1_; (try clear hb); (try clear hb2); (try clear hk); (try clear hi); (try clear ho0); obtain ⟨Ao8, co8, eo8⟩ := Kd.N_slice HO1152.out; subst eo8) | (refine goesL_ (some 18) rfl rfl Try.func45 (by kernel_rfl) rfl #[.slice Ao8 t1150.length co8] rfl ll_ ?_; (with_reducible refine (impl_SpreadIn.calls _ _ t1150 t1153 _ ?side1 ?side2 A4.out).mono ?_); (case side1 => repeat (first | exact (Kd.N_reads' HO1152.out).2.2 | (with_reducible refine Kd.C_alloc ?_ _) | (with_reducible refine Kd.C_drewN ?_ _) | (with_reducible refine Kd.C_drew ?_))); (case side2 => exact (Kd.N_reads' HO1152.out).2.1); rintro e w9 ⟨rfl, hb⟩; refine ⟨_, rfl, ?_⟩; have n0_ := Aside0.mk (Kd.N_below (by (with_reducible repeat (first | apply Kd.N_alloc | apply Kd.N_drewN | apply Kd.N_drew)); exact HO1152.out) hb); have n1_ := Aside0.mk (below_step (bb_ HB) hb); clear HO1152; clear HB; have HO1152 := n0_; have HB := n1_; clear n0_ n1_; (try clear hb); (try clear hb2); (try clear hk); (try clear hi)) | (refine goesL_ (some 20) rfl rfl Try.func46 (by kernel_rfl) rfl #[.slice Ao8 t1150.length co8] rfl ll_ ?_; (with_reducible refine (spec_SpreadIn.calls k _ _ t1150 t1154 _ ?side1 ?side2 A5.out).mono ?_); (case side1 => repeat (first | exact (Kd.N_reads' HO1152.out).2.2 | (with_reducible refine Kd.C_alloc ?_ _) | (with_reducible refine Kd.C_drewN ?_ _) | (with_reducible refine Kd.C_drew ?_))); (case side2 => exact (Kd.N_reads' HO1152.out).2.1); rintro e w10 ⟨rfl, hb⟩; refine ⟨_, rfl, ?_⟩; have n0_ := Aside0.mk (Kd.N_below (by (with_reducible repeat (first | apply Kd.N_alloc | apply Kd.N_drewN | apply Kd.N_drew)); exact HO1152.out) hb); have n1_ := Aside0.mk (below_step (bb_ HB) hb); clear HO1152; clear HB; have HO1152 := n0_; have HB := n1_; clear n0_ n1_; (try clear hb); (try clear hb2); (try clear hk); (try clear hi)))
  (try simp only [Act.put, List.setIfInBounds_toArray, List.set_cons_zero, List.set_cons_succ])
  go_cut [27] (fun v27 wc => ∃ (kq : Nat) (x27_5 : Bool), v27 = .bool x27_5 ∧ Aside0 (laws_FnSpread.j0 kq t1150 t1153 t1154 x27_5 = some r) ∧ Aside0 (kq ≤ k) ∧ Aside0 (Kd.N (Kd.slice 3 (Kd.int .i64)) 23 wc w.heap.size (fun _ => True) (.slice Ao8 t1150.length co8) t1150) ∧ Aside0 (Below w.heap.size w wc))
  case first =>
   have H := HC6.out
   clear HC6
   by_cases c11 : (t1153 != t1154) = true
   ·rw [if_pos c11] at H
    have c11b0 : (t1153 != t1154) = true := c11
    (try (have c11b1 : decide (t1153 = t1154) = false := by simpa using c11))
    (try (have c11b2 : (t1153 == t1154) = false := by simpa using c11))
    (try (have c11b3 : ¬ (t1153 = t1154) := by simpa using c11))
    clear c11
    (first | rw [c11b0] | (simp only [i64_w, i32_w]; rw [c11b0]) | skip)
    have H' := Aside0.mk H
    clear H
    go_wp2
    go_meet
    case rel => exact ⟨_, (true), (by first | rfl | (simp; done) | (simp [*]; done)), H', ⟨by first | omega | exact Nat.le_refl _⟩, ⟨by (with_reducible repeat (first | apply Kd.N_alloc | apply Kd.N_drewN | apply Kd.N_drew)); exact HO1152.out⟩, ⟨by repeat (first | (with_reducible first | exact HB.out | apply below_alloc | apply pw_below_drewN | apply below_drew1) | exact HB.out)⟩⟩
   ·rw [if_neg c11] at H
    have c11b0 : (t1153 != t1154) = false := by simpa using c11
    (try (have c11b1 : decide (t1153 = t1154) = true := by simpa using c11))
    (try (have c11b2 : (t1153 == t1154) = true := by simpa using c11))
    clear c11
    (first | rw [c11b0] | (simp only [i64_w, i32_w]; rw [c11b0]) | skip)
    have H' := Aside0.mk H
    clear H
    go_wp2
    go_meet
    case rel => exact ⟨_, (!t1153), (by first | rfl | (simp; done) | (simp [*]; done)), H', ⟨by first | omega | exact Nat.le_refl _⟩, ⟨by (with_reducible repeat (first | apply Kd.N_alloc | apply Kd.N_drewN | apply Kd.N_drew)); exact HO1152.out⟩, ⟨by repeat (first | (with_reducible first | exact HB.out | apply below_alloc | apply pw_below_drewN | apply below_drew1) | exact HB.out)⟩⟩
  case rest =>
   clear HC6
   try clear c1
   try clear c2
   try clear c2b0
   try clear c2b1
   try clear p2
   try clear c4
   try clear c11
   try clear c11b0
   try clear c11b1
   try clear c11b2
   obtain ⟨kq, x27_5, rfl, HA, HJ5, HO_3, HB⟩ := hcut
   cases kq with
   | zero => exact absurd HA.out (by simp [laws_FnSpread.j0])
   | succ kj5 =>
    have H := HA.out
    clear HA
    simp only [laws_FnSpread.j0] at H
    by_cases c12 : x27_5 = true
    ·subst c12
     have H1 : (some (t1153 == t1154)) = some r := by rw [if_pos rfl] at H; exact H
     clear H
     have H := H1
     clear H1
     obtain rfl := Option.some.inj H
     go_wp2
     go_ret
     exact ⟨ee_, bb_ HB⟩
    ·replace c12 := Bool.eq_false_iff.mpr c12
     subst c12
     have H1 : (if 81 ≤ 35184372088832 then (laws_FnSpread.l0 kj5 t1150 (List.replicate 81 0) 0) else (none)) = some r := by rw [if_neg (show ¬ (false = true) by decide)] at H; exact H
     clear H
     have H := H1
     clear H1
     by_cases c13 : 81 ≤ 35184372088832
     ·rw [if_pos c13] at H
      have c13b0 := eq_true c13
      have c13b1 : decide (81 ≤ 35184372088832) = true := decide_eq_true c13
      clear c13
      obtain ⟨y1155, hy1155⟩ : ∃ y_ : List Int, y_ = (List.replicate 81 0) := ⟨_, rfl⟩
      replace H : (laws_FnSpread.l0 kj5 t1150 y1155 0) = some r := by first | (rw [hy1155]; with_reducible exact H) | (have H2_ := (Option.bind_some _ _).symm.trans H; rw [hy1155]; with_reducible exact H2_) | (have H2_ := (Option.bind_some _ _).symm.trans H; with_reducible exact H2_) | with_reducible exact H | (rw [hy1155]; exact H) | exact H
      have Ny1155 := Aside0.mk hy1155
      clear hy1155
      have H' := Aside0.mk H
      clear H
      go_wp2_with (first | ((with_reducible refine gate_dst (N := 31) rfl ?_); refine Kd.R_make (Kd.int .i64) _ 3 rfl (N := 31) rfl 23 _ _ rfl 81 rfl rfl Try.underlying23 (.int .i64 0) 8 info3 rfl (by decide) (by omega) 0 (ok := fun _ => True) (okp := fun _ => True) rfl (fun _ hk => hk) trivial (by omega) (by omega) (Below.refl _ _) (Nat.le_refl _) ?_; intro v1156 w14 ho15 hb hg_ hnew_; clear hg_ hnew_; (first | rw [← Ny1155.out] at ho15 | (simp only [Int.reduceToNat] at ho15; rw [← Ny1155.out] at ho15)); have n0_ := Aside0.mk (Kd.N_elder' (by (with_reducible repeat (first | apply Kd.N_alloc | apply Kd.N_drewN | apply Kd.N_drew)); exact HO_3.out) (Kd.R_base ho15) hb); have n1_ := Aside0.mk (Kd.R_lower ho15 (below_size (bb_ HB))); have n2_ := Aside0.mk (below_step (bb_ HB) hb); clear HO_3; clear HB; have HO_3 := n0_; have HO1157 := n1_; have HB := n2_; clear n0_ n1_ n2_; clear hb ho15))
      go_loopg [7] kj5 (fun kq v7 w' => ∃ (x6_2 : List Int) (x7_2 : Int), v7 = .int .i64 x7_2 ∧ Aside0 (laws_FnSpread.l0 kq t1150 x6_2 x7_2 = some r) ∧ Aside0 (kq ≤ kj5) ∧ Aside0 (Kd.N (Kd.slice 3 (Kd.int .i64)) 23 w' w.heap.size (fun k_ => some k_ ≠ (v1156 : Value).ownBlock) (.slice Ao8 t1150.length co8) t1150) ∧ Aside0 (Kd.R (Kd.int .i64) 3 w' w.heap.size (fun _ => True) v1156 x6_2) ∧ Aside0 (Below w.heap.size w w'))
      case atStart => exact ⟨(y1155), (0), (by first | rfl | (simp; done) | (simp [*]; done)), H', ⟨Nat.le_refl _⟩, ⟨by (with_reducible repeat (first | apply Kd.N_alloc | apply Kd.N_drewN | apply Kd.N_drew)); exact Kd.N_mono HO_3.out (fun _ hk => hk.2)⟩, ⟨rr_ HO1157⟩, ⟨by repeat (first | (with_reducible first | exact HB.out | apply below_alloc | apply pw_below_drewN | apply below_drew1) | exact HB.out)⟩⟩
      case round =>
       clear H'
       try clear c1
       try clear c2
       try clear c2b0
       try clear c2b1
       try clear p2
       try clear c4
       try clear c11
       try clear c11b0
       try clear c11b1
       try clear c11b2
       try clear c12
       try clear c13
       try clear c13b0
       try clear c13b1
       try clear p2
       obtain ⟨x6_2, x7_2, rfl, HA, HK2, HO_3, HO_6, HB⟩ := hrel
       cases gk with
       | zero => exact absurd HA.out (by simp [laws_FnSpread.l0])
       | succ k2 =>
        have H := HA.out
        clear HA
        simp only [laws_FnSpread.l0] at H
        by_cases c16 : x7_2 < (t1150.length : Int)
        ·rw [if_pos c16] at H
         have c16b0 : decide (x7_2 < (t1150.length : Int)) = true := decide_eq_true c16
         clear c16
         have H' := Aside0.mk H
         clear H
         go_wp2
         go_loopg [8] k2 (fun kq v8 w' => ∃ (x6_3 : List Int) (x8_3 : Int), v8 = .int .i64 x8_3 ∧ Aside0 (laws_FnSpread.l1 kq t1150 x6_3 x7_2 x8_3 = some r) ∧ Aside0 (kq ≤ k2) ∧ Aside0 (Kd.N (Kd.slice 3 (Kd.int .i64)) 23 w' w.heap.size (fun k_ => some k_ ≠ (v1156 : Value).ownBlock) (.slice Ao8 t1150.length co8) t1150) ∧ Aside0 (Kd.R (Kd.int .i64) 3 w' w.heap.size (fun _ => True) v1156 x6_3) ∧ Aside0 (Below w.heap.size w w'))
         case atStart => exact ⟨(x6_2), (0), (by first | rfl | (simp; done) | (simp [*]; done)), H', ⟨Nat.le_refl _⟩, ⟨by (with_reducible repeat (first | apply Kd.N_alloc | apply Kd.N_drewN | apply Kd.N_drew)); exact HO_3.out⟩, ⟨rr_ HO_6⟩, ⟨by repeat (first | (with_reducible first | exact HB.out | apply below_alloc | apply pw_below_drewN | apply below_drew1) | exact HB.out)⟩⟩
         case round =>
          clear H'
          try clear c1
          try clear c2
          try clear c2b0
          try clear c2b1
          try clear p2
          try clear c4
          try clear c11
          try clear c11b0
          try clear c11b1
          try clear c11b2
          try clear c12
          try clear c13
          try clear c13b0
          try clear c13b1
          try clear c16
          try clear c16b0
          try clear p2
          obtain ⟨x6_3, x8_3, rfl, HA, HK3, HO_3, HO_6, HB⟩ := hrel
          cases gk with
          | zero => exact absurd HA.out (by simp [laws_FnSpread.l1])
          | succ k3 =>
           have H := HA.out
           clear HA
           simp only [laws_FnSpread.l1] at H
           by_cases c17 : 0 ≤ x7_2
           ·rw [if_pos c17] at H
            have c17b0 : decide (0 ≤ x7_2) = true := decide_eq_true c17
            clear c17
            by_cases c18 : x7_2 < (t1150.length : Int)
            ·rw [if_pos c18] at H
             have c18b0 : decide (x7_2 < (t1150.length : Int)) = true := decide_eq_true c18
             clear c18
             by_cases c19 : x8_3 < ((rd_LI t1150 x7_2).length : Int)
             ·rw [if_pos c19] at H
              have c19b0 : decide (x8_3 < ((rd_LI t1150 x7_2).length : Int)) = true := decide_eq_true c19
              clear c19
              by_cases c20 : 0 ≤ x8_3
              ·rw [if_pos c20] at H
               have c20b0 : decide (0 ≤ x8_3) = true := decide_eq_true c20
               clear c20
               by_cases c21 : 0 ≤ (rd (rd_LI t1150 x7_2) x8_3)
               ·rw [if_pos c21] at H
                have c21b0 : decide (0 ≤ (rd (rd_LI t1150 x7_2) x8_3)) = true := decide_eq_true c21
                clear c21
                by_cases c22 : (rd (rd_LI t1150 x7_2) x8_3) < (x6_3.length : Int)
                ·rw [if_pos c22] at H
                 have c22b0 : decide ((rd (rd_LI t1150 x7_2) x8_3) < (x6_3.length : Int)) = true := decide_eq_true c22
                 clear c22
                 obtain ⟨y1164, hy1164⟩ : ∃ y_ : List Int, y_ = (x6_3.set ((rd (rd_LI t1150 x7_2) x8_3) : Int).toNat (wrap64 ((rd x6_3 (rd (rd_LI t1150 x7_2) x8_3)) + 1))) := ⟨_, rfl⟩
                 replace H : (laws_FnSpread.l1 k3 t1150 y1164 x7_2 (wrap64 (x8_3 + 1))) = some r := by first | (rw [hy1164]; with_reducible exact H) | (have H2_ := (Option.bind_some _ _).symm.trans H; rw [hy1164]; with_reducible exact H2_) | (have H2_ := (Option.bind_some _ _).symm.trans H; with_reducible exact H2_) | with_reducible exact H | (rw [hy1164]; exact H) | exact H
                 have Ny1164 := Aside0.mk hy1164
                 clear hy1164
                 have H' := Aside0.mk H
                 clear H
                 have p1158 : 0 ≤ (x7_2 : Int) := dd_
                 have q1158 : x7_2 < (t1150.length : Int) := dd_
                 obtain ⟨ad1158, A1158_0, c1158_0, e1158, hx1158_0, hl1158_0, hi1158_0⟩ := at_LI (Kd.N_reads' HO_3.out).2.2 x7_2 p1158 q1158
                 cases e1158
                 obtain ⟨ce1158, hce1158, hMe1158, hcc1158⟩ := Kd.N_get HO_3.out [] x7_2 p1158 (by first | exact q1158 | exact dd_ | (have e_ := (Kd.N_reads' HO_3.out).1; omega))
                 obtain ⟨ua1158_0, uc1158_0, rfl, ul1158_0, ge1158_0⟩ := Kd.FK_slice_open hMe1158
                 have hv1158_0 := hcc1158 0 _ rfl
                 rw [Nat.add_zero, show ((Kd.slice 3 (Kd.int .i64))).sz = 1 from rfl, Nat.mul_one] at hv1158_0
                 replace hv1158_0 := Option.some.inj (hv1158_0.symm.trans hx1158_0)
                 injection hv1158_0 with hva_ hvn_ hvc_
                 rw [hva_] at ge1158_0
                 rw [hvc_] at ul1158_0
                 have HL1158_0 := Aside0.mk (show Kd.V (Kd.int .i64) 3 _ w.heap.size _ _ (rd_LI t1150 x7_2) from Kd.V_mk ul1158_0 ge1158_0)
                 clear hva_ hvn_ hvc_ ge1158_0 ul1158_0
                 clear hcc1158 hce1158
                 have HR1158_0 := Aside0.mk hi1158_0
                 have HC1158_0 := Aside0.mk hl1158_0
                 clear hi1158_0 hl1158_0
                 replace p1158 := eq_true p1158
                 replace q1158 := eq_true q1158
                 try go_wp2
                 have n0_ := Aside0.mk (Kd.N_drew HO_3.out)
                 have n1_ := Aside0.mk (Kd.R_drew HO_6.out)
                 have n2_ := Aside0.mk (Kd.V_drew HL1158_0.out)
                 have n3_ := Aside0.mk (Kd.C_drew HR1158_0.out)
                 have n4_ := Aside0.mk (below_drew1 HB.out)
                 clear HO_3
                 clear HO_6
                 clear HL1158_0
                 clear HR1158_0
                 clear HB
                 have HO_3 := n0_
                 have HO_6 := n1_
                 have HL1158_0 := n2_
                 have HR1158_0 := n3_
                 have HB := n4_
                 clear n0_ n1_ n2_ n3_ n4_
                 have p1159 : 0 ≤ (x7_2 : Int) := dd_
                 have q1159 : x7_2 < (t1150.length : Int) := dd_
                 obtain ⟨ad1159, A1159_0, c1159_0, e1159, hx1159_0, hl1159_0, hi1159_0⟩ := at_LI (Kd.N_reads' HO_3.out).2.2 x7_2 p1159 q1159
                 obtain rfl : ad1158 = ad1159 := (by injection e1159)
                 obtain ⟨ce1159, hce1159, hMe1159, hcc1159⟩ := Kd.N_get HO_3.out [] x7_2 p1159 (by first | exact q1159 | exact dd_ | (have e_ := (Kd.N_reads' HO_3.out).1; omega))
                 obtain ⟨ua1159_0, uc1159_0, rfl, ul1159_0, ge1159_0⟩ := Kd.FK_slice_open hMe1159
                 have hv1159_0 := hcc1159 0 _ rfl
                 rw [Nat.add_zero, show ((Kd.slice 3 (Kd.int .i64))).sz = 1 from rfl, Nat.mul_one] at hv1159_0
                 replace hv1159_0 := Option.some.inj (hv1159_0.symm.trans hx1159_0)
                 injection hv1159_0 with hva_ hvn_ hvc_
                 rw [hva_] at ge1159_0
                 rw [hvc_] at ul1159_0
                 have HL1159_0 := Aside0.mk (show Kd.V (Kd.int .i64) 3 _ w.heap.size _ _ (rd_LI t1150 x7_2) from Kd.V_mk ul1159_0 ge1159_0)
                 clear hva_ hvn_ hvc_ ge1159_0 ul1159_0
                 clear hcc1159 hce1159
                 have HR1159_0 := Aside0.mk hi1159_0
                 have HC1159_0 := Aside0.mk hl1159_0
                 clear hi1159_0 hl1159_0
                 replace p1159 := eq_true p1159
                 replace q1159 := eq_true q1159
                 have p1160 : 0 ≤ (x8_3 : Int) := dd_
                 have q1160 : x8_3 < ((rd_LI t1150 x7_2).length : Int) := dd_
                 obtain ⟨ad1160, e1160, hx1160_0⟩ := Kd.at_int (by repeat (first | (with_reducible exact HR1159_0.out) | (with_reducible refine Kd.C_alloc ?_ _) | (with_reducible refine Kd.C_drewN ?_ _) | (with_reducible refine Kd.C_drew ?_) | exact HR1159_0.out)) x8_3 p1160 q1160
                 cases e1160
                 replace p1160 := eq_true p1160
                 replace q1160 := eq_true q1160
                 have p1161 : 0 ≤ (x7_2 : Int) := dd_
                 have q1161 : x7_2 < (t1150.length : Int) := dd_
                 obtain ⟨ad1161, A1161_0, c1161_0, e1161, hx1161_0, hl1161_0, hi1161_0⟩ := at_LI (Kd.N_reads' HO_3.out).2.2 x7_2 p1161 q1161
                 obtain rfl : ad1158 = ad1161 := (by injection e1161)
                 obtain ⟨ce1161, hce1161, hMe1161, hcc1161⟩ := Kd.N_get HO_3.out [] x7_2 p1161 (by first | exact q1161 | exact dd_ | (have e_ := (Kd.N_reads' HO_3.out).1; omega))
                 obtain ⟨ua1161_0, uc1161_0, rfl, ul1161_0, ge1161_0⟩ := Kd.FK_slice_open hMe1161
                 have hv1161_0 := hcc1161 0 _ rfl
                 rw [Nat.add_zero, show ((Kd.slice 3 (Kd.int .i64))).sz = 1 from rfl, Nat.mul_one] at hv1161_0
                 replace hv1161_0 := Option.some.inj (hv1161_0.symm.trans hx1161_0)
                 injection hv1161_0 with hva_ hvn_ hvc_
                 rw [hva_] at ge1161_0
                 rw [hvc_] at ul1161_0
                 have HL1161_0 := Aside0.mk (show Kd.V (Kd.int .i64) 3 _ w.heap.size _ _ (rd_LI t1150 x7_2) from Kd.V_mk ul1161_0 ge1161_0)
                 clear hva_ hvn_ hvc_ ge1161_0 ul1161_0
                 clear hcc1161 hce1161
                 have HR1161_0 := Aside0.mk hi1161_0
                 have HC1161_0 := Aside0.mk hl1161_0
                 clear hi1161_0 hl1161_0
                 replace p1161 := eq_true p1161
                 replace q1161 := eq_true q1161
                 have ea_ := Option.some.inj (hx1159_0.symm.trans hx1161_0)
                 injection ea_ with ea_ en_ ec_
                 subst ea_
                 subst ec_
                 clear en_
                 have p1162 : 0 ≤ (x8_3 : Int) := dd_
                 have q1162 : x8_3 < ((rd_LI t1150 x7_2).length : Int) := dd_
                 obtain ⟨ad1162, e1162, hx1162_0⟩ := Kd.at_int (by repeat (first | (with_reducible exact HR1161_0.out) | (with_reducible refine Kd.C_alloc ?_ _) | (with_reducible refine Kd.C_drewN ?_ _) | (with_reducible refine Kd.C_drew ?_) | exact HR1161_0.out)) x8_3 p1162 q1162
                 cases e1162
                 replace p1162 := eq_true p1162
                 replace q1162 := eq_true q1162
                 obtain ⟨Ao25, co25, eo25⟩ := Kd.R_slice HO_6.out
                 (first | subst eo25 | (injection eo25 with f1_ f2_ f3_; have f4_ := f1_.symm; have f5_ := f3_.symm; clear f1_ f2_ f3_; subst f4_; subst f5_))
                 have p1163 : 0 ≤ ((rd (rd_LI t1150 x7_2) x8_3) : Int) := dd_
                 have q1163 : (rd (rd_LI t1150 x7_2) x8_3) < (x6_3.length : Int) := dd_
                 obtain ⟨ad1163, e1163, hx1163_0⟩ := Kd.at_int (Kd.R_reads' HO_6.out).2.2 (rd (rd_LI t1150 x7_2) x8_3) p1163 q1163
                 cases e1163
                 replace p1163 := eq_true p1163
                 replace q1163 := eq_true q1163
                 have p23 : 0 ≤ ((rd (rd_LI t1150 x7_2) x8_3) : Int) := dd_
                 have q23 : ((rd (rd_LI t1150 x7_2) x8_3) : Int) < ((x6_3.length : Int) : Int) := dd_
                 obtain ⟨go23, co23, eo23, gb23, gl23, cl23, HG23⟩ := Kd.R_form HO_6.out (by omega)
                 (first | cases eo23 | (injection eo23 with ea_ en_ ec_; (first | subst ea_ | (injection ea_ with ea_; subst ea_)); subst ec_; clear en_))
                 have GB23 := Aside0.mk gb23
                 have GG23 := Aside0.mk HG23
                 clear gb23 gl23 HG23
                 (first | simp only [add_plain] at hx1163_0 | skip)
                 obtain ⟨hx23_0, hf23_0⟩ := Kd.R_celln 0 HO_6.out ((rd (rd_LI t1150 x7_2) x8_3) : Int) p23 q23
                 replace p23 := eq_true p23
                 replace q23 := eq_true q23
                 have HP26 := Kd.R_putn HO_6.out ((rd (rd_LI t1150 x7_2) x8_3) : Int) (wrap64 ((rd x6_3 (rd (rd_LI t1150 x7_2) x8_3)) + 1))
                 rw [← Ny1164.out] at HP26
                 have HQ26 := Aside0.mk HP26
                 clear HP26
                 refine start_ (n := 21) (S := fun w' => w'.cell? (ad1158.add (x7_2).toNat) = some (.slice (some ad1160) (rd_LI t1150 x7_2).length c1159_0) ∧ w'.cell? (ad1160.add (x8_3).toNat) = some (.int .i64 (rd (rd_LI t1150 x7_2) x8_3)) ∧ w'.cell? (ad1158.add (x7_2).toNat) = some (.slice (some ad1160) (rd_LI t1150 x7_2).length c1159_0) ∧ w'.cell? (ad1160.add (x8_3).toNat) = some (.int .i64 (rd (rd_LI t1150 x7_2) x8_3)) ∧ w'.cell? ⟨go23, ((rd (rd_LI t1150 x7_2) x8_3)).toNat, none⟩ = some (.int .i64 (rd x6_3 (rd (rd_LI t1150 x7_2) x8_3)))) (ds := [20]) #[F_,F_,F_,F_,F_,F_,F_,F_,F_,F_,F_,F_,F_,F_,F_,F_,F_,F_,F_,F_,F_] (by kernel_rfl) rfl rfl ⟨hx1159_0, hx1160_0, hx1161_0, hx1162_0, hx1163_0⟩ (fun hHeld => ?_); refine with_tabW laws_FnSpread.tab15 laws_FnSpread.bits15 (fun HT_ HW_ => ?_)
                 generalize wr.drew = w24 at HO_3 HO_6 HL1158_0 HR1158_0 HB GG23 HL1159_0 HL1161_0 HQ26 HR1159_0 HR1161_0 hf23_0 hx1159_0 hx1160_0 hx1161_0 hx1162_0 hx1163_0 hx23_0 hHeld ⊢
                 refine p_ 0 47 (m_ 21 1) HT_.out ?_
                 refine p_ 1 48 (m_ 21 3) HT_.out ?_
                 refine p_ 2 49 (m_ 21 7) HT_.out ?_
                 refine p_ 3 50 (m_ 21 15) HT_.out ?_
                 refine p_ 5 52 (m_ 21 47) HT_.out ?_
                 refine p_ 8 55 (m_ 21 303) HT_.out ?_
                 refine p_ 9 56 (m_ 21 815) HT_.out ?_
                 refine p_ 10 57 (m_ 21 1839) HT_.out ?_
                 refine p_ 11 58 (m_ 21 3887) HT_.out ?_
                 refine p_ 13 60 (m_ 21 12079) HT_.out ?_
                 refine t5_ 4 51 (m_ 21 12095) HT_.out HW_.out hHeld ?_
                 refine p_ 6 53 (m_ 21 12159) HT_.out ?_
                 refine t5_ 7 54 (m_ 21 12287) HT_.out HW_.out hHeld ?_
                 refine t5_ 12 59 (m_ 21 16383) HT_.out HW_.out hHeld ?_
                 refine p_ 14 61 (m_ 21 32767) HT_.out ?_
                 refine t5_ 15 62 (m_ 21 65535) HT_.out HW_.out hHeld ?_
                 refine p_ 16 63 (m_ 21 131071) HT_.out ?_
                 refine t5_ 17 64 (m_ 21 262143) HT_.out HW_.out hHeld ?_
                 refine p_ 18 65 (m_ 21 524287) HT_.out ?_
                 refine p_ 19 66 (m_ 21 1048575) HT_.out ?_
                 refine last_ (i := 20) (N := none) (m_ 21 2097151) rfl rfl (one_of HT_.out (by kernel_rfl)) (by decide) (fun K hK => ?_)
                 refine skip_ (w1 := ?_) (by rfl) rfl ?_ ?_; rotate_left; (go_simp; rfl)
                 refine hK.out _ _ ?_
                 clear hK K
                 refine done_ (done_of HT_.out (by kernel_rfl)) ?_
                 try go_wp2
                 go_roundg k3
                 case measure => have := HJ5.out; have := HK2.out; have := HK3.out; omega
                 case rel => exact ⟨(y1164), (wrap64 (x8_3 + 1)), (by first | rfl | (simp; done) | (simp [*]; done)), H', ⟨by have := HJ5.out; have := HK2.out; have := HK3.out; omega⟩, ⟨by (with_reducible repeat (first | apply Kd.N_alloc | apply Kd.N_drewN | apply Kd.N_drew)); exact Kd.N_mono (Kd.N_far (p := ⟨go23, ((rd (rd_LI t1150 x7_2) x8_3) : Int).toNat, none⟩) (Kd.N_mono HO_3.out (fun k_ hk => (⟨hk, fun e_ => hk (by rw [e_]; rfl)⟩ : _ ∧ k_ ≠ go23))) (fun _ hk => hk.2) (.int .i64 (wrap64 ((rd x6_3 (rd (rd_LI t1150 x7_2) x8_3)) + 1)))) (fun _ hk => hk.1)⟩, ⟨rr_ HQ26⟩, ⟨by repeat (first | (with_reducible first | exact HB.out | apply below_alloc | apply pw_below_drewN | apply below_drew1 | refine below_set ?_ GB23.out) | exact HB.out)⟩⟩
                ·rw [if_neg c22] at H
                 exact absurd H (by simp)
               ·rw [if_neg c21] at H
                exact absurd H (by simp)
              ·rw [if_neg c20] at H
               exact absurd H (by simp)
             ·rw [if_neg c19] at H
              have c19b0 : decide (x8_3 < ((rd_LI t1150 x7_2).length : Int)) = false := decide_eq_false c19
              clear c19
              have H' := Aside0.mk H
              clear H
              have p1158 : 0 ≤ (x7_2 : Int) := dd_
              have q1158 : x7_2 < (t1150.length : Int) := dd_
              obtain ⟨ad1158, A1158_0, c1158_0, e1158, hx1158_0, hl1158_0, hi1158_0⟩ := at_LI (Kd.N_reads' HO_3.out).2.2 x7_2 p1158 q1158
              cases e1158
              obtain ⟨ce1158, hce1158, hMe1158, hcc1158⟩ := Kd.N_get HO_3.out [] x7_2 p1158 (by first | exact q1158 | exact dd_ | (have e_ := (Kd.N_reads' HO_3.out).1; omega))
              obtain ⟨ua1158_0, uc1158_0, rfl, ul1158_0, ge1158_0⟩ := Kd.FK_slice_open hMe1158
              have hv1158_0 := hcc1158 0 _ rfl
              rw [Nat.add_zero, show ((Kd.slice 3 (Kd.int .i64))).sz = 1 from rfl, Nat.mul_one] at hv1158_0
              replace hv1158_0 := Option.some.inj (hv1158_0.symm.trans hx1158_0)
              injection hv1158_0 with hva_ hvn_ hvc_
              rw [hva_] at ge1158_0
              rw [hvc_] at ul1158_0
              have HL1158_0 := Aside0.mk (show Kd.V (Kd.int .i64) 3 _ w.heap.size _ _ (rd_LI t1150 x7_2) from Kd.V_mk ul1158_0 ge1158_0)
              clear hva_ hvn_ hvc_ ge1158_0 ul1158_0
              clear hcc1158 hce1158
              have HR1158_0 := Aside0.mk hi1158_0
              have HC1158_0 := Aside0.mk hl1158_0
              clear hi1158_0 hl1158_0
              replace p1158 := eq_true p1158
              replace q1158 := eq_true q1158
              go_wp2
              go_roundg k3
              case measure => have := HJ5.out; have := HK2.out; have := HK3.out; omega
              case rel => exact ⟨(x6_3), (wrap64 (x7_2 + 1)), (by first | rfl | (simp; done) | (simp [*]; done)), H', ⟨by have := HJ5.out; have := HK2.out; have := HK3.out; omega⟩, ⟨by (with_reducible repeat (first | apply Kd.N_alloc | apply Kd.N_drewN | apply Kd.N_drew)); exact HO_3.out⟩, ⟨rr_ HO_6⟩, ⟨by repeat (first | (with_reducible first | exact HB.out | apply below_alloc | apply pw_below_drewN | apply below_drew1) | exact HB.out)⟩⟩
            ·rw [if_neg c18] at H
             exact absurd H (by simp)
           ·rw [if_neg c17] at H
            exact absurd H (by simp)
        ·rw [if_neg c16] at H
         have c16b0 : decide (x7_2 < (t1150.length : Int)) = false := decide_eq_false c16
         clear c16
         have H' := Aside0.mk H
         clear H
         go_wp2
         go_loopg [9] k2 (fun kq v9 w' => ∃ (x9_3 : Int), v9 = .int .i64 x9_3 ∧ Aside0 (laws_FnSpread.l2 kq t1150 x6_2 x9_3 = some r) ∧ Aside0 (kq ≤ k2) ∧ Aside0 (Kd.N (Kd.slice 3 (Kd.int .i64)) 23 w' w.heap.size (fun k_ => some k_ ≠ (v1156 : Value).ownBlock) (.slice Ao8 t1150.length co8) t1150) ∧ Aside0 (Kd.R (Kd.int .i64) 3 w' w.heap.size (fun _ => True) v1156 x6_2) ∧ Aside0 (Below w.heap.size w w'))
         case atStart => exact ⟨(1), (by first | rfl | (simp; done) | (simp [*]; done)), H', ⟨Nat.le_refl _⟩, ⟨by (with_reducible repeat (first | apply Kd.N_alloc | apply Kd.N_drewN | apply Kd.N_drew)); exact HO_3.out⟩, ⟨rr_ HO_6⟩, ⟨by repeat (first | (with_reducible first | exact HB.out | apply below_alloc | apply pw_below_drewN | apply below_drew1) | exact HB.out)⟩⟩
         case round =>
          clear H'
          try clear c1
          try clear p1
          try clear q1
          try clear hx1
          try clear c2
          try clear c2b0
          try clear c2b1
          try clear p2
          try clear q2
          try clear hx2
          try clear hf2
          try clear c4
          try clear p6
          try clear c11
          try clear c11b0
          try clear c11b1
          try clear c11b2
          try clear p11
          try clear q11
          try clear hx11
          try clear c12
          try clear c13
          try clear c13b0
          try clear c13b1
          try clear c16
          try clear c16b0
          try clear c17
          try clear c17b0
          try clear c18
          try clear c18b0
          try clear c19
          try clear c19b0
          try clear c20
          try clear c20b0
          try clear c21
          try clear c21b0
          try clear c22
          try clear c22b0
          try clear p23
          try clear q23
          try clear hx23
          try clear hf23
          try clear hx1158_0
          try clear hx1159_0
          try clear hx1160_0
          try clear hx1161_0
          try clear hx1162_0
          try clear hx1163_0
          try clear hx23_0
          try clear p1158
          try clear p1159
          try clear p1160
          try clear p1161
          try clear p1162
          try clear p1163
          try clear p2
          try clear p23
          try clear q1158
          try clear q1159
          try clear q1160
          try clear q1161
          try clear q1162
          try clear q1163
          try clear q23
          obtain ⟨x9_3, rfl, HA, HK3, HO_3, HO_6, HB⟩ := hrel
          cases gk with
          | zero => exact absurd HA.out (by simp [laws_FnSpread.l2])
          | succ k3 =>
           have H := HA.out
           clear HA
           simp only [laws_FnSpread.l2] at H
           by_cases c27 : x9_3 < 81
           ·rw [if_pos c27] at H
            have c27b0 : decide (x9_3 < 81) = true := decide_eq_true c27
            clear c27
            by_cases c28 : 0 ≤ x9_3
            ·rw [if_pos c28] at H
             have c28b0 : decide (0 ≤ x9_3) = true := decide_eq_true c28
             clear c28
             by_cases c29 : x9_3 < (x6_2.length : Int)
             ·rw [if_pos c29] at H
              have c29b0 : decide (x9_3 < (x6_2.length : Int)) = true := decide_eq_true c29
              clear c29
              by_cases c30 : (rd x6_2 x9_3) = 1
              ·rw [if_pos c30] at H
               have c30b0 : ((rd x6_2 x9_3) == 1) = true := beq_iff_eq.mpr c30
               have c30b1 : ((rd x6_2 x9_3) != 1) = false := bne_eq_false_iff_eq.mpr c30
               clear c30
               have H' := Aside0.mk H
               clear H
               obtain ⟨Ao31, co31, eo31⟩ := Kd.R_slice HO_6.out
               subst eo31
               have p1165 : 0 ≤ (x9_3 : Int) := dd_
               have q1165 : x9_3 < (x6_2.length : Int) := dd_
               obtain ⟨ad1165, e1165, hx1165_0⟩ := Kd.at_int (Kd.R_reads' HO_6.out).2.2 x9_3 p1165 q1165
               cases e1165
               replace p1165 := eq_true p1165
               replace q1165 := eq_true q1165
               go_wp2
               go_roundg k3
               case measure => have := HJ5.out; have := HK2.out; have := HK3.out; omega
               case rel => exact ⟨(wrap64 (x9_3 + 1)), (by first | rfl | (simp; done) | (simp [*]; done)), H', ⟨by have := HJ5.out; have := HK2.out; have := HK3.out; omega⟩, ⟨by (with_reducible repeat (first | apply Kd.N_alloc | apply Kd.N_drewN | apply Kd.N_drew)); exact HO_3.out⟩, ⟨rr_ HO_6⟩, ⟨by repeat (first | (with_reducible first | exact HB.out | apply below_alloc | apply pw_below_drewN | apply below_drew1) | exact HB.out)⟩⟩
              ·rw [if_neg c30] at H
               have c30b0 : ((rd x6_2 x9_3) == 1) = false := beq_eq_false_iff_ne.mpr c30
               have c30b1 : ((rd x6_2 x9_3) != 1) = true := bne_iff_ne.mpr c30
               obtain rfl := Option.some.inj H
               obtain ⟨Ao32, co32, eo32⟩ := Kd.R_slice HO_6.out
               subst eo32
               have p1165 : 0 ≤ (x9_3 : Int) := dd_
               have q1165 : x9_3 < (x6_2.length : Int) := dd_
               obtain ⟨ad1165, e1165, hx1165_0⟩ := Kd.at_int (Kd.R_reads' HO_6.out).2.2 x9_3 p1165 q1165
               cases e1165
               replace p1165 := eq_true p1165
               replace q1165 := eq_true q1165
               go_wp2
               go_ret
               exact ⟨ee_, bb_ HB⟩
             ·rw [if_neg c29] at H
              exact absurd H (by simp)
            ·rw [if_neg c28] at H
             exact absurd H (by simp)
           ·rw [if_neg c27] at H
            have c27b0 : decide (x9_3 < 81) = false := decide_eq_false c27
            clear c27
            replace H := Option.bind_eq_some_iff.mp H
            obtain ⟨⟨t1166, t1167⟩, A330, H⟩ := H
            replace H : (if t1167 = true then (if t1166 = 10 then (if 0 < (x6_2.length : Int) then (some ((rd x6_2 0) == 10)) else (none)) else (some false)) else (some false)) = some r := H
            have A33 := Aside0.mk A330
            clear A330
            by_cases c34 : t1167 = true
            ·subst c34
             have H1 : (if t1166 = 10 then (if 0 < (x6_2.length : Int) then (some ((rd x6_2 0) == 10)) else (none)) else (some false)) = some r := by rw [if_pos rfl] at H; exact H
             clear H
             have H := H1
             clear H1
             by_cases c35 : t1166 = 10
             ·rw [if_pos c35] at H
              have c35b0 : (t1166 == 10) = true := beq_iff_eq.mpr c35
              have c35b1 : (t1166 != 10) = false := bne_eq_false_iff_eq.mpr c35
              clear c35
              by_cases c36 : 0 < (x6_2.length : Int)
              ·rw [if_pos c36] at H
               have c36b0 : decide (0 < (x6_2.length : Int)) = true := decide_eq_true c36
               have c36b1 : decide (0 < x6_2.length) = true := decide_eq_true (by omega)
               clear c36
               obtain rfl := Option.some.inj H
               go_wp2_with (first | (refine goesL_ (some 79) rfl rfl Try.func47 (by kernel_rfl) rfl #[.slice Ao8 t1150.length co8, .slice Ao8 t1150.length co8] rfl ll_ ?_; (with_reducible refine (impl_SpreadSame.calls k3 _ _ t1150 _ _ t1150 t1166 true _ ?side1 ?side2 ?side3 ?side4 A33.out).mono ?_); (case side1 => repeat (first | exact (Kd.N_reads' HO_3.out).2.2 | (with_reducible refine Kd.C_alloc ?_ _) | (with_reducible refine Kd.C_drewN ?_ _) | (with_reducible refine Kd.C_drew ?_))); (case side2 => exact (Kd.N_reads' HO_3.out).2.1); (case side3 => repeat (first | exact (Kd.N_reads' HO_3.out).2.2 | (with_reducible refine Kd.C_alloc ?_ _) | (with_reducible refine Kd.C_drewN ?_ _) | (with_reducible refine Kd.C_drew ?_))); (case side4 => exact (Kd.N_reads' HO_3.out).2.1); rintro e w37 ⟨rfl, hb⟩; refine ⟨_, rfl, ?_⟩; have n0_ := Aside0.mk (Kd.N_below (by (with_reducible repeat (first | apply Kd.N_alloc | apply Kd.N_drewN | apply Kd.N_drew)); exact HO_3.out) hb); have n1_ := Aside0.mk (Kd.R_below (rr_ HO_6) hb); have n2_ := Aside0.mk (below_step (bb_ HB) hb); clear HO_3; clear HO_6; clear HB; have HO_3 := n0_; have HO_6 := n1_; have HB := n2_; clear n0_ n1_ n2_; (try clear hb); (try clear hb2); (try clear hk); (try clear hi); obtain ⟨Ao38, co38, eo38⟩ := Kd.R_slice HO_6.out; subst eo38; have p1168 : 0 ≤ (0 : Int) := (by omega); have q1168 : 0 < (x6_2.length : Int) := dd_; obtain ⟨ad1168, e1168, hx1168_0⟩ := Kd.at_int (Kd.R_reads' HO_6.out).2.2 0 p1168 q1168; cases e1168; have qi1168 : (0 < x6_2.length) = True := eq_true (by omega); (try rw [show ((0 : Int)).toNat = 0 from rfl] at hx1168_0); (try rw [Addr.add_zero'] at hx1168_0); replace p1168 := eq_true p1168; replace q1168 := eq_true q1168))
               go_ret
               exact ⟨ee_, bb_ HB⟩
              ·rw [if_neg c36] at H
               exact absurd H (by simp)
             ·rw [if_neg c35] at H
              have c35b0 : (t1166 == 10) = false := beq_eq_false_iff_ne.mpr c35
              have c35b1 : (t1166 != 10) = true := bne_iff_ne.mpr c35
              obtain rfl := Option.some.inj H
              go_wp2_with (first | (refine goesL_ (some 79) rfl rfl Try.func47 (by kernel_rfl) rfl #[.slice Ao8 t1150.length co8, .slice Ao8 t1150.length co8] rfl ll_ ?_; (with_reducible refine (impl_SpreadSame.calls k3 _ _ t1150 _ _ t1150 t1166 true _ ?side1 ?side2 ?side3 ?side4 A33.out).mono ?_); (case side1 => repeat (first | exact (Kd.N_reads' HO_3.out).2.2 | (with_reducible refine Kd.C_alloc ?_ _) | (with_reducible refine Kd.C_drewN ?_ _) | (with_reducible refine Kd.C_drew ?_))); (case side2 => exact (Kd.N_reads' HO_3.out).2.1); (case side3 => repeat (first | exact (Kd.N_reads' HO_3.out).2.2 | (with_reducible refine Kd.C_alloc ?_ _) | (with_reducible refine Kd.C_drewN ?_ _) | (with_reducible refine Kd.C_drew ?_))); (case side4 => exact (Kd.N_reads' HO_3.out).2.1); rintro e w39 ⟨rfl, hb⟩; refine ⟨_, rfl, ?_⟩; have n0_ := Aside0.mk (Kd.N_below (by (with_reducible repeat (first | apply Kd.N_alloc | apply Kd.N_drewN | apply Kd.N_drew)); exact HO_3.out) hb); have n1_ := Aside0.mk (Kd.R_below (rr_ HO_6) hb); have n2_ := Aside0.mk (below_step (bb_ HB) hb); clear HO_3; clear HO_6; clear HB; have HO_3 := n0_; have HO_6 := n1_; have HB := n2_; clear n0_ n1_ n2_; (try clear hb); (try clear hb2); (try clear hk); (try clear hi)))
              go_ret
              exact ⟨ee_, bb_ HB⟩
            ·replace c34 := Bool.eq_false_iff.mpr c34
             subst c34
             have H1 : (some false) = some r := by rw [if_neg (show ¬ (false = true) by decide)] at H; exact H
             clear H
             have H := H1
             clear H1
             obtain rfl := Option.some.inj H
             go_wp2_with (first | (refine goesL_ (some 79) rfl rfl Try.func47 (by kernel_rfl) rfl #[.slice Ao8 t1150.length co8, .slice Ao8 t1150.length co8] rfl ll_ ?_; (with_reducible refine (impl_SpreadSame.calls k3 _ _ t1150 _ _ t1150 t1166 false _ ?side1 ?side2 ?side3 ?side4 A33.out).mono ?_); (case side1 => repeat (first | exact (Kd.N_reads' HO_3.out).2.2 | (with_reducible refine Kd.C_alloc ?_ _) | (with_reducible refine Kd.C_drewN ?_ _) | (with_reducible refine Kd.C_drew ?_))); (case side2 => exact (Kd.N_reads' HO_3.out).2.1); (case side3 => repeat (first | exact (Kd.N_reads' HO_3.out).2.2 | (with_reducible refine Kd.C_alloc ?_ _) | (with_reducible refine Kd.C_drewN ?_ _) | (with_reducible refine Kd.C_drew ?_))); (case side4 => exact (Kd.N_reads' HO_3.out).2.1); rintro e w40 ⟨rfl, hb⟩; refine ⟨_, rfl, ?_⟩; have n0_ := Aside0.mk (Kd.N_below (by (with_reducible repeat (first | apply Kd.N_alloc | apply Kd.N_drewN | apply Kd.N_drew)); exact HO_3.out) hb); have n1_ := Aside0.mk (Kd.R_below (rr_ HO_6) hb); have n2_ := Aside0.mk (below_step (bb_ HB) hb); clear HO_3; clear HO_6; clear HB; have HO_3 := n0_; have HO_6 := n1_; have HB := n2_; clear n0_ n1_ n2_; (try clear hb); (try clear hb2); (try clear hk); (try clear hi)))
             go_ret
             exact ⟨ee_, bb_ HB⟩
     ·rw [if_neg c13] at H
      exact absurd H (by simp)
def laws_FnSpread.Pure : Prop := ∀ (l0 : List Int), l0.length ≤ maxLen → l0.length * 1 ≤ 140737488351232 → (∀ x ∈ l0, (Lit.int .u8 x).wf = true) → ∃ k, laws_FnSpread.f k l0 = some true
theorem laws_FnSpread.walk (P : laws_FnSpread.Pure) (a0 : Option Addr) (len0 cap0 : Nat) (z0 : List Int) (w : World) (w0 : (a0 = none ∧ len0 = 0 ∧ cap0 = 0 ∧ z0 = []) ∨ ∃ x, a0 = some x ∧ len0 ≤ cap0 ∧ cap0 ≤ maxLen ∧ z0.length = cap0 ∧ (∀ i, i < z0.length → w.cell? (x.add i) = some (.int .u8 (z0.getD i 0))) ∧ ∀ n ∈ z0, (Lit.int .u8 n).wf = true) (y0 : len0 * 1 ≤ 140737488351232) :
  Calls Try.prog 11 #[.slice a0 len0 cap0] w fun e w' => e = .returned (.bool true) ∧ Below w.heap.size w w' := by
 obtain ⟨l0, rfl, hr0, hm0, hw0, hc0⟩ := ReadsInt.ofRowC w0
 obtain ⟨k, h⟩ := P l0 hm0 y0 hw0
 refine (laws_FnSpread.calls k _ _ l0 true w (Kd.C_of_reads (d := (0 : Int)) (h1 := fun _ => rfl) hr0) hc0 h).mono ?_
 rintro e w' ⟨rfl, hd⟩
 exact ⟨rfl, hd⟩
end Go.Proofs.Ytcbkoecanldlpaa.P

set_option linter.unusedVariables false
set_option linter.unusedSimpArgs false
namespace Go.Proofs.Ytcbkoecanldlpaa.X
open Go.RowKit Go.Proofs.YtcbkoecanldlpaaW.PrintWords Go.Proofs.YtcbkoecanldlpaaW.PrintLast Go.Proofs.Ytcbkoecanldlpaa.P

theorem l6In_eq (a b c : Int) : spec_l6In.f a b c = some (decide (b ≤ a) && decide (a ≤ c)) := by
  unfold spec_l6In.f
  by_cases h : a ≥ b
  · rw [if_pos h, decide_eq_true h]; simp
  · rw [if_neg h, decide_eq_false h]; simp
theorem l1In_eq (a : Int) : spec_l1In.f a = some (isN a) := by
  unfold spec_l1In.f isN
  rw [l6In_eq]
  show some _ = _
  rw [show decide (a ≤ 8) = decide (a < 9) from decide_eq_decide.2 (by omega)]
theorem l2Table_loop (l : List Int) (hl : l.length ≤ 1048576) (d : Nat) : ∀ (i : Int), 0 ≤ i → i + d = l.length → (∀ j : Nat, (j : Int) < i → isN (rd l j) = true) → Ev (fun k => spec_l2Table.l0 k l i) (ninesB l 81) := by
  induction d with
  | zero =>
    intro i h0 h1 h
    refine Ev.step (fun k => by rw [spec_l2Table.l0]) ?_
    refine Ev.neg (by omega) (Ev.done ?_)
    have ha : l.all isN = true := by
      rw [List.all_eq_true]
      intro x hx
      obtain ⟨j, hj, rfl⟩ := List.mem_iff_getElem.1 hx
      rw [← rd_cast l j hj]
      exact h j (by omega)
    unfold ninesB
    rw [ha, Bool.and_true]
    congr 1
    rw [Bool.eq_iff_iff]; simp; omega
  | succ d ih =>
    intro i h0 h1 h
    refine Ev.step (fun k => by rw [spec_l2Table.l0]) ?_
    simp (disch := omega) only [w64, l1In_eq, Option.bind_some]
    refine Ev.pos (by omega) (Ev.pos (by omega) ?_)
    by_cases e : isN (rd l i) = true
    · refine Ev.pos e (ih (i + 1) (by omega) (by omega) fun j hj => ?_)
      by_cases ej : (j : Int) = i
      · rw [ej]; exact e
      · exact h j (by omega)
    · refine Ev.neg e (Ev.done ?_)
      have : l.all isN = false := by
        rw [List.all_eq_false]
        exact ⟨rd l i, rd_mem (by omega) h0, e⟩
      unfold ninesB
      rw [this, Bool.and_false]
theorem l2Table_ev (l : List Int) (hl : l.length ≤ 1048576) : Ev (fun k => spec_l2Table.f k l) (ninesB l 81) :=
  l2Table_loop l hl l.length 0 (by omega) (by omega) (fun j h => by omega)
theorem l2Units_loop (t : List Int) (hl : t.length = 81) (d : Nat) : ∀ (i : Int), 0 ≤ i → i + d = 9 → (∀ x : Int, 0 ≤ x → x < i → unitB t x = true) → Ev (fun k => spec_l2Units.l0 k t i) (unitsB t) := by
  induction d with
  | zero =>
    intro i h0 h1 h
    refine Ev.step (fun k => by rw [spec_l2Units.l0]) ?_
    refine Ev.neg (by omega) (Ev.done ?_)
    rw [unitsB_iff.2 fun x x0 x1 => h x x0 (by omega)]
  | succ d ih =>
    intro i h0 h1 h
    have hu : unitB t i = (decide (rd t i = 0) && decide (rd t (9 * i) = 0) && decide (rd t (9 + i) = i) && decide (rd t (9 * i + 1) = i)) := rfl
    refine Ev.step (fun k => by rw [spec_l2Units.l0]) ?_
    have z1 : wrap64 (9 * i) = 9 * i := w64 (by omega) (by omega)
    have z2 : wrap64 (9 + i) = 9 + i := w64 (by omega) (by omega)
    have z3 : wrap64 (9 * i + 1) = 9 * i + 1 := w64 (by omega) (by omega)
    have z4 : wrap64 (i + 1) = i + 1 := w64 (by omega) (by omega)
    simp only [z1, z2, z3, z4]
    refine Ev.pos (by omega) (Ev.pos (by omega) (Ev.pos (by omega) ?_))
    by_cases e1 : rd t i = 0
    case neg => exact Ev.neg e1 (Ev.done (by rw [unitsB_hit h0 (by omega) (by rw [hu, decide_eq_false e1]; rfl)]))
    refine Ev.pos e1 (Ev.pos (by omega) (Ev.pos (by omega) ?_))
    by_cases e2 : rd t (9 * i) = 0
    case neg => exact Ev.neg e2 (Ev.done (by rw [unitsB_hit h0 (by omega) (by rw [hu, decide_eq_false e2, Bool.and_false]; rfl)]))
    refine Ev.pos e2 (Ev.pos (by omega) (Ev.pos (by omega) ?_))
    by_cases e3 : rd t (9 + i) = i
    case neg => exact Ev.neg e3 (Ev.done (by rw [unitsB_hit h0 (by omega) (by rw [hu, decide_eq_false e3, Bool.and_false]; rfl)]))
    refine Ev.pos e3 (Ev.pos (by omega) (Ev.pos (by omega) ?_))
    by_cases e4 : rd t (9 * i + 1) = i
    case neg => exact Ev.neg e4 (Ev.done (by rw [unitsB_hit h0 (by omega) (by rw [hu, decide_eq_false e4, Bool.and_false])]))
    refine Ev.pos e4 (ih (i + 1) (by omega) (by omega) fun x x0 x1 => ?_)
    by_cases e : x = i
    · rw [e, hu, decide_eq_true e1, decide_eq_true e2, decide_eq_true e3, decide_eq_true e4]; rfl
    · exact h x x0 (by omega)
theorem l2Units_ev (t : List Int) (hl : t.length = 81) : Ev (fun k => spec_l2Units.f k t) (unitsB t) :=
  l2Units_loop t hl 9 0 (by omega) (by omega) (fun x h0 h1 => by omega)
theorem SystemIn_l1 (t : List Int) (hn : ninesB t 81 = true) (c : Int) (hc : In9 c) (hr : (∀ d : Int, 0 ≤ d → d < c → gapsB t c d = true) → Ev (fun k => spec_SystemIn.l0 k t (c + 1)) (solvesB t)) (n : Nat) :
    ∀ (d : Int), 0 ≤ d → d + n = c → (∀ x : Int, 0 ≤ x → x < d → gapsB t c x = true) → Ev (fun k => spec_SystemIn.l1 k t c d) (solvesB t) := by
  obtain ⟨c0, c1⟩ := hc
  induction n with
  | zero =>
    intro d h0 h1 h
    refine Ev.step (fun k => by rw [spec_SystemIn.l1]) ?_
    simp (disch := omega) only [w64]
    exact Ev.neg (by omega) (hr fun x x0 x1 => h x x0 (by omega))
  | succ n ih =>
    intro d h0 h1 h
    refine Ev.step (fun k => by rw [spec_SystemIn.l1]) ?_
    have hs : spec_l2Solves.f t c d = some (gapsB t c d) := by unfold spec_l2Solves.f; exact if_pos ⟨hn, ⟨c0, c1⟩, ⟨h0, by omega⟩⟩
    simp (disch := omega) only [w64, hs, Option.bind_some]
    refine Ev.pos (by omega) ?_
    by_cases e : gapsB t c d = true
    · refine Ev.pos e (ih (d + 1) (by omega) (by omega) fun x x0 x1 => ?_)
      by_cases ex : x = d
      · rw [ex]; exact e
      · exact h x x0 (by omega)
    · refine Ev.neg e (Ev.done ?_)
      rw [solvesB_hit h0 (by omega) c1 (Bool.eq_false_iff.2 e)]
theorem SystemIn_l0 (t : List Int) (hn : ninesB t 81 = true) (n : Nat) : ∀ (c : Int), 0 ≤ c → c + n = 9 → (∀ x y : Int, 0 ≤ y → y < x → x < c → gapsB t x y = true) → Ev (fun k => spec_SystemIn.l0 k t c) (solvesB t) := by
  induction n with
  | zero =>
    intro c h0 h1 h
    refine Ev.step (fun k => by rw [spec_SystemIn.l0]) ?_
    refine Ev.neg (by omega) (Ev.done ?_)
    rw [solvesB_all fun x y y0 yx x9 => h x y y0 yx (by omega)]
  | succ n ih =>
    intro c h0 h1 h
    refine Ev.step (fun k => by rw [spec_SystemIn.l0]) ?_
    refine Ev.pos (by omega) ?_
    refine SystemIn_l1 t hn c ⟨h0, by omega⟩ (fun hg => ih (c + 1) (by omega) (by omega) fun x y y0 yx x1 => ?_) c.toNat 0 (by omega) (by omega) (fun x x0 x1 => by omega)
    by_cases e : x = c
    · subst e; exact hg y y0 yx
    · exact h x y y0 yx (by omega)
theorem SystemIn_ev (t : List Int) (hl : t.length ≤ 1048576) : Ev (fun k => spec_SystemIn.f k t) (sysB t) := by
  unfold spec_SystemIn.f
  refine Ev.bind (l2Table_ev t hl) ?_
  by_cases hn : ninesB t 81 = true
  case neg =>
    refine Ev.neg hn (Ev.step (fun k => by rw [spec_SystemIn.j0]) (Ev.pos rfl (Ev.done ?_)))
    unfold sysB; rw [Bool.eq_false_iff.2 hn]; rfl
  refine Ev.pos hn (Ev.bind (l2Units_ev t (ninesB_iff.1 hn).1) ?_)
  by_cases hu : unitsB t = true
  case neg =>
    refine Ev.neg hu (Ev.step (fun k => by rw [spec_SystemIn.j0]) (Ev.pos rfl (Ev.done ?_)))
    rw [sysB_of hn, Bool.eq_false_iff.2 hu]; rfl
  have hs : spec_l2Shares.f t = some (sharesB t) := by unfold spec_l2Shares.f; exact if_pos hn
  refine Ev.pos hu (Ev.fix hs ?_)
  rw [sysB_of hn, hu]
  by_cases h : sharesB t = true
  · rw [h]
    refine Ev.step (fun k => by rw [spec_SystemIn.j0]) ?_
    refine Ev.neg (by simp) ?_
    exact SystemIn_l0 t hn 9 0 (by omega) (by omega) (fun x y h0 h1 h2 => by omega)
  · rw [Bool.eq_false_iff.2 h]
    refine Ev.step (fun k => by rw [spec_SystemIn.j0]) ?_
    exact Ev.pos rfl (Ev.done rfl)
end Go.Proofs.Ytcbkoecanldlpaa.X

set_option linter.unusedVariables false
set_option linter.unusedSimpArgs false
namespace Go.Proofs.Ytcbkoecanldlpaa.X
open Go.RowKit Go.Proofs.YtcbkoecanldlpaaW.PrintWords Go.Proofs.YtcbkoecanldlpaaW.PrintLast Go.Proofs.Ytcbkoecanldlpaa.P

def bL (n : Nat) (s : Nat → Bool) : List Bool := (List.range n).map s
theorem bL_length (n : Nat) (s : Nat → Bool) : (bL n s).length = n := by simp [bL]
theorem bL_replicate (n : Nat) : List.replicate n false = bL n (fun _ => false) := by
  unfold bL; rw [List.map_const']; simp
theorem bL_rd {n : Nat} {s : Nat → Bool} (v : Int) (h0 : 0 ≤ v) (h1 : v < n) : rdOf false (bL n s) v = s v.toNat := by
  unfold rdOf bL
  rw [List.getD_eq_getElem?_getD, List.getElem?_map, List.getElem?_range (by omega)]
  rfl
theorem bL_set {n : Nat} {s : Nat → Bool} (v : Int) (b : Bool) : (bL n s).set v.toNat b = bL n (fun x => if x = v.toNat then b else s x) := by
  apply List.ext_getElem?
  intro i
  rw [List.getElem?_set]
  by_cases hi : i < n
  · by_cases hj : v.toNat = i
    · subst hj; simp [bL, hi]
    · simp [bL, hi, hj, Ne.symm hj]
  · by_cases hj : v.toNat = i
    · subst hj; simp [bL, hi]
    · simp [bL, hi, hj]
theorem bL_congr {n : Nat} {s s' : Nat → Bool} (h : ∀ j, j < n → s j = s' j) : bL n s = bL n s' := by
  unfold bL
  exact List.map_congr_left fun j hj => h j (List.mem_range.1 hj)
end Go.Proofs.Ytcbkoecanldlpaa.X

set_option linter.unusedVariables false
set_option linter.unusedSimpArgs false
namespace Go.Proofs.Ytcbkoecanldlpaa.X
open Go.RowKit Go.Proofs.YtcbkoecanldlpaaW.PrintWords Go.Proofs.YtcbkoecanldlpaaW.PrintLast Go.Proofs.Ytcbkoecanldlpaa.P

theorem rdL_cast (l : List (List Int)) (i : Nat) (h : i < l.length) : rd_LI l (i : Int) = l[i] := by
  unfold rd_LI
  rw [List.getD_eq_getElem?_getD]
  simp [h]
theorem rdL_int {l : List (List Int)} {i : Int} (h0 : 0 ≤ i) (h1 : i < l.length) : rd_LI l i = l[i.toNat]'(by omega) := by
  rw [← rdL_cast l i.toNat (by omega), Int.toNat_of_nonneg h0]
theorem rdL_mem {l : List (List Int)} {i : Int} (h0 : 0 ≤ i) (h1 : i < l.length) : rd_LI l i ∈ l := by
  rw [rdL_int h0 h1]; exact List.getElem_mem _
end Go.Proofs.Ytcbkoecanldlpaa.X

set_option linter.unusedVariables false
set_option linter.unusedSimpArgs false
namespace Go.Proofs.Ytcbkoecanldlpaa.X
open Go.RowKit Go.Proofs.YtcbkoecanldlpaaW.PrintWords Go.Proofs.YtcbkoecanldlpaaW.PrintLast Go.Proofs.Ytcbkoecanldlpaa.P

theorem l6lLess_loop (a b : List Int) (ha : a.length = 9) (hb : b.length = 9) (d : Nat) : ∀ i : Int, 0 ≤ i → i + d = 9 → (∀ j : Int, 0 ≤ j → j < i → rd a j = rd b j) → Ev (fun k => spec_l6lLess.l0 k a b i) (lessB a b) := by
  induction d with
  | zero =>
    intro i h0 h1 h
    refine Ev.step (fun k => by rw [spec_l6lLess.l0]) ?_
    refine Ev.neg (by omega) (Ev.done ?_)
    have : gapI a b = -1 := firstI_none fun j j0 j1 => by rw [h j j0 (by omega)]; simp
    unfold lessB; rw [this]; rfl
  | succ d ih =>
    intro i h0 h1 h
    refine Ev.step (fun k => by rw [spec_l6lLess.l0]) ?_
    rw [w64 (x := i + 1) (by omega) (by omega)]
    refine Ev.pos (by omega) (Ev.pos h0 (Ev.pos (by omega) (Ev.pos (by omega) ?_)))
    by_cases e : rd a i = rd b i
    · refine Ev.pos e (ih (i + 1) (by omega) (by omega) fun j j0 j1 => ?_)
      by_cases ej : j = i
      · rw [ej]; exact e
      · exact h j j0 (by omega)
    · refine Ev.neg e (Ev.done ?_)
      have : gapI a b = i := firstI_some i h0 (by omega) (by simpa using e) fun j j0 j1 => by rw [h j j0 j1]; simp
      unfold lessB; rw [this, decide_eq_true h0, Bool.true_and]
theorem l6lLess_ev (a b : List Int) (ha : a.length = 9) (hb : b.length = 9) : Ev (fun k => spec_l6lLess.f k a b) (lessB a b) :=
  l6lLess_loop a b ha hb 9 0 (by omega) (by omega) (fun j j0 j1 => by omega)
theorem seenS_iff {l : List (List Int)} {i p : Int} : seenS l i p = true ↔ ∃ j : Nat, (j : Int) < i ∧ p ∈ rd_LI l (j : Int) := by
  unfold seenS
  simp only [List.any_eq_true, List.mem_range, decide_eq_true_eq]
  constructor
  · rintro ⟨j, hj, h⟩; exact ⟨j, by omega, h⟩
  · rintro ⟨j, hj, h⟩; exact ⟨j, by omega, h⟩
theorem fresh_rd {l : List (List Int)} {i : Int} (h : freshB l i = true) {p : Int} (hp : p ∈ rd_LI l i) (h0 : 0 < p) : seenS l i p = false := by
  unfold freshB at h
  have := List.all_eq_true.1 h p hp
  rw [decide_eq_false (by omega), Bool.false_or, Bool.not_eq_true'] at this
  exact this
theorem spread_apart {l : List (List Int)} (h : spreadB l = true) {i j p : Int} (i0 : 0 ≤ i) (ij : i < j) (j1 : j < 10) (h0 : 0 < p) (hi : p ∈ rd_LI l i) (hj : p ∈ rd_LI l j) : False := by
  have := fresh_rd (leafOk_parts ((spreadB_parts h).2 j (by omega) j1)).2.2 hj h0
  have h2 := seenS_iff.2 ⟨i.toNat, (by omega : (i.toNat : Int) < j), (by rw [Int.toNat_of_nonneg i0]; exact hi : p ∈ rd_LI l (i.toNat : Int))⟩
  rw [this] at h2; exact absurd h2 (by decide)
theorem spread_leaf {l : List (List Int)} (h : spreadB l = true) {i : Int} (i0 : 0 ≤ i) (i1 : i < 10) : leafB (rd_LI l i) = true := (leafOk_parts ((spreadB_parts h).2 i i0 i1)).1
theorem spread_cover {l : List (List Int)} (h : spreadB l = true) {g : Int} (g0 : 0 ≤ g) (g1 : g < 81) : ∃ j : Int, 0 ≤ j ∧ j < 10 ∧ g ∈ rd_LI l j := by
  by_cases hg : g = 0
  · have hl := spread_leaf h (i := 0) (by omega) (by omega)
    refine ⟨0, by omega, by omega, ?_⟩
    have hm := rd_mem (t := rd_LI l 0) (i := 0) (by have := (leafB_parts hl).1; omega) (by omega)
    rw [leaf_zero hl] at hm
    rw [hg]; exact hm
  have hv : ∀ n : Nat, n < 80 → rd (rd_LI l ((n / 8 : Nat) : Int)) ((n % 8 : Nat) + 1 : Int) ∈ rd_LI l ((n / 8 : Nat) : Int) ∧ 0 < rd (rd_LI l ((n / 8 : Nat) : Int)) ((n % 8 : Nat) + 1 : Int) ∧ rd (rd_LI l ((n / 8 : Nat) : Int)) ((n % 8 : Nat) + 1 : Int) < 81 := fun n hn => by
    have hl := spread_leaf h (i := ((n / 8 : Nat) : Int)) (by omega) (by omega)
    exact ⟨rd_mem (by have := (leafB_parts hl).1; omega) (by omega), leaf_pos hl (by omega) (by omega), (leaf_near hl (by omega) (by omega)).2⟩
  obtain ⟨n, hn, e⟩ := pigeon 80 (fun n => (rd (rd_LI l ((n / 8 : Nat) : Int)) ((n % 8 : Nat) + 1 : Int) - 1).toNat) (fun n hn => by have := hv n hn; omega)
    (fun n m hnm hm e => by
      obtain ⟨a1, a2, a3⟩ := hv n (by omega)
      obtain ⟨b1, b2, b3⟩ := hv m hm
      have ee : rd (rd_LI l ((n / 8 : Nat) : Int)) ((n % 8 : Nat) + 1 : Int) = rd (rd_LI l ((m / 8 : Nat) : Int)) ((m % 8 : Nat) + 1 : Int) := by omega
      by_cases hq : n / 8 = m / 8
      · rw [hq] at ee
        have := leaf_asc (spread_leaf h (i := ((m / 8 : Nat) : Int)) (by omega) (by omega)) (i := (n % 8 : Nat) + 1) (j := (m % 8 : Nat) + 1) (by omega) (by omega) (by omega)
        omega
      · rw [ee] at a1 a2
        exact spread_apart h (i := ((n / 8 : Nat) : Int)) (j := ((m / 8 : Nat) : Int)) (by omega) (by omega) (by omega) a2 a1 b1) (g - 1).toNat (by omega)
  obtain ⟨a1, a2, a3⟩ := hv n hn
  exact ⟨((n / 8 : Nat) : Int), by omega, by omega, by rw [show g = rd (rd_LI l ((n / 8 : Nat) : Int)) ((n % 8 : Nat) + 1 : Int) by omega]; exact a1⟩
def bitR (l : List (List Int)) (i k : Int) (p : Nat) : Bool := decide (0 < (p : Int)) && (seenS l i (p : Int) || decide ((p : Int) ∈ (rd_LI l i).take k.toNat))
theorem specSpread_l1 (l : List (List Int)) (hl : l.length = 10) (i : Int) (i0 : 0 ≤ i) (i1 : i < 10) (hlf : leafB (rd_LI l i) = true) (hor : ordB l i = true)
    (hr : leafOk l i = true → Ev (fun k => spec_SpreadIn.l0 k l (bL 81 fun p => decide (0 < (p : Int)) && seenS l (i + 1) (p : Int)) (i + 1)) (spreadB l)) (d : Nat) :
    ∀ k : Int, 1 ≤ k → k + d = 9 → (∀ j : Int, 0 ≤ j → j < k → (decide (rd (rd_LI l i) j ≤ 0) || !seenS l i (rd (rd_LI l i) j)) = true) → Ev (fun n => spec_SpreadIn.l1 n l (bL 81 (bitR l i k)) i k) (spreadB l) := by
  have hl9 := (leafB_parts hlf).1
  induction d with
  | zero =>
    intro k k0 k1 h
    have e9 : k = 9 := by omega
    subst e9
    refine Ev.step (fun n => by rw [spec_SpreadIn.l1]) ?_
    rw [w64 (x := i + 1) (by omega) (by omega)]
    have hfr : freshB l i = true := by
      unfold freshB
      rw [List.all_eq_true]
      intro p hp
      obtain ⟨j, j0, j1, rfl⟩ := mem_rd hp
      exact h j j0 (by omega)
    have hb : bL 81 (bitR l i 9) = bL 81 fun p => decide (0 < (p : Int)) && seenS l (i + 1) (p : Int) := bL_congr fun j hj => by
      unfold bitR
      rw [seenS_succ l i0, List.take_of_length_le (by omega)]
    rw [hb]
    exact Ev.neg (by omega) (hr (by unfold leafOk; rw [hlf, hor, hfr]; rfl))
  | succ d ih =>
    intro k k0 k1 h
    obtain ⟨p0, p1⟩ := leaf_near hlf (i := k) (by omega) (by omega)
    have pp := leaf_pos hlf (i := k) (by omega) (by omega)
    have hnt := leaf_take hlf (i := k) (by omega) (by omega)
    have hbit : rdOf false (bL 81 (bitR l i k)) (rd (rd_LI l i) k) = seenS l i (rd (rd_LI l i) k) := by
      rw [bL_rd _ p0 p1]
      unfold bitR
      rw [Int.toNat_of_nonneg p0, decide_eq_true pp, decide_eq_false hnt, Bool.or_false, Bool.true_and]
    have hset : (bL 81 (bitR l i k)).set (rd (rd_LI l i) k).toNat true = bL 81 (bitR l i (k + 1)) := by
      rw [bL_set]
      refine bL_congr fun j hj => ?_
      unfold bitR
      rw [show (k + 1).toNat = k.toNat + 1 by omega, List.take_add_one, List.getElem?_eq_getElem (by omega), Option.toList_some]
      have e2 : (rd_LI l i)[k.toNat]'(by omega) = rd (rd_LI l i) k := (rd_getElem (by omega) (by omega)).symm
      rw [e2]
      by_cases e : j = (rd (rd_LI l i) k).toNat
      · rw [if_pos e, decide_eq_true (by omega : (0 : Int) < j)]
        have : (j : Int) ∈ (rd_LI l i).take k.toNat ++ [rd (rd_LI l i) k] := by rw [List.mem_append]; right; rw [List.mem_singleton]; omega
        rw [decide_eq_true this, Bool.or_true]; rfl
      · rw [if_neg e]
        congr 2
        refine decide_eq_decide.2 ?_
        rw [List.mem_append, List.mem_singleton]
        exact ⟨fun h => .inl h, fun h => h.elim id fun h => absurd h (by omega)⟩
    refine Ev.step (fun n => by rw [spec_SpreadIn.l1]) ?_
    rw [hbit, hset, bL_length, w64 (x := k + 1) (by omega) (by omega)]
    refine Ev.pos (by omega) (Ev.pos i0 (Ev.pos (by omega) (Ev.pos (by omega) (Ev.pos (by omega) (Ev.pos p0 (Ev.pos p1 ?_))))))
    by_cases hs : seenS l i (rd (rd_LI l i) k) = true
    · refine Ev.pos hs (Ev.done ?_)
      have hfr : freshB l i = false := by
        cases e : freshB l i with
        | false => rfl
        | true =>
          have := fresh_rd e (rd_mem (i := k) (by omega) (by omega)) pp
          rw [hs] at this; exact absurd this (by decide)
      rw [spreadB_hit i0 i1 (by unfold leafOk; rw [hfr, Bool.and_false, Bool.and_false])]
    · refine Ev.neg hs (ih (k + 1) (by omega) (by omega) fun j j0 j1 => ?_)
      by_cases e : j = k
      · rw [e, Bool.eq_false_iff.2 hs, Bool.not_false, Bool.or_true]
      · exact h j j0 (by omega)
theorem specSpread_l0 (l : List (List Int)) (hl : l.length = 10) (d : Nat) : ∀ i : Int, 0 ≤ i → i + d = 10 → (∀ j : Int, 0 ≤ j → j < i → leafOk l j = true) → Ev (fun k => spec_SpreadIn.l0 k l (bL 81 fun p => decide (0 < (p : Int)) && seenS l i (p : Int)) i) (spreadB l) := by
  induction d with
  | zero =>
    intro i h0 h1 h
    refine Ev.step (fun k => by rw [spec_SpreadIn.l0]) ?_
    refine Ev.neg (by omega) (Ev.done ?_)
    rw [spreadB_all hl fun j j0 j1 => h j j0 (by omega)]
  | succ d ih =>
    intro i h0 h1 h
    refine Ev.step (fun k => by rw [spec_SpreadIn.l0]) ?_
    refine Ev.pos (by omega) (Ev.pos h0 (Ev.pos (by omega) (Ev.bind (specLeaf_ev _) ?_)))
    by_cases hlf : leafB (rd_LI l i) = true
    case neg =>
      refine Ev.neg hlf (Ev.step (fun k => by rw [spec_SpreadIn.j1]) (Ev.pos rfl (Ev.done ?_)))
      rw [spreadB_hit h0 (by omega) (by unfold leafOk; rw [Bool.eq_false_iff.2 hlf]; rfl)]
    refine Ev.pos hlf ?_
    have hz : (bL 81 fun p => decide (0 < (p : Int)) && seenS l i (p : Int)) = bL 81 (bitR l i 1) := bL_congr fun j hj => by
      unfold bitR
      have hl9 := (leafB_parts hlf).1
      have ht : (rd_LI l i).take (1 : Int).toNat = [0] := by
        rw [show (1 : Int).toNat = 0 + 1 by rfl, List.take_add_one, List.getElem?_eq_getElem (by omega), Option.toList_some]
        have := leaf_zero hlf
        rw [rd_getElem (by omega) (by omega)] at this
        have e3 : (rd_LI l i)[0]'(by omega) = 0 := this
        rw [e3]; rfl
      rw [ht]
      by_cases e : 0 < (j : Int)
      · rw [decide_eq_true e, decide_eq_false (by rw [List.mem_singleton]; omega), Bool.or_false]
      · rw [decide_eq_false e]; rfl
    have tail : ordB l i = true → Ev (fun k => spec_SpreadIn.j1 k l (bL 81 fun p => decide (0 < (p : Int)) && seenS l i (p : Int)) i false) (spreadB l) := fun hor => by
      refine Ev.step (fun k => by rw [spec_SpreadIn.j1]) (Ev.neg (by decide) ?_)
      rw [hz]
      refine specSpread_l1 l hl i h0 (by omega) hlf hor (fun hok => ih (i + 1) (by omega) (by omega) fun j j0 j1 => ?_) 8 1 (by omega) (by omega) fun j j0 j1 => ?_
      · by_cases e : j = i
        · rw [e]; exact hok
        · exact h j j0 (by omega)
      · rw [show j = 0 by omega, leaf_zero hlf]; rfl
    by_cases hi : i > 0
    · have hlp := (leafOk_parts (h (i - 1) (by omega) (by omega))).1
      have hor : ordB l i = lessB (rd_LI l (i - 1)) (rd_LI l i) := by unfold ordB; rw [decide_eq_false (by omega), Bool.false_or]
      rw [w64 (x := i - 1) (by omega) (by omega)]
      refine Ev.pos hi (Ev.pos (by omega) (Ev.pos (by omega) (Ev.bind (l6lLess_ev _ _ (leafB_parts hlp).1 (leafB_parts hlf).1) ?_)))
      rw [← hor]
      by_cases ho : ordB l i = true
      · rw [ho]; exact tail ho
      · have ho := Bool.eq_false_iff.2 ho
        rw [ho]
        refine Ev.step (fun k => by rw [spec_SpreadIn.j1]) ?_
        refine Ev.pos rfl (Ev.done ?_)
        rw [spreadB_hit h0 (by omega) (by unfold leafOk; rw [ho, Bool.false_and, Bool.and_false])]
    · exact Ev.neg hi (tail (by unfold ordB; rw [decide_eq_true (by omega)]; rfl))
theorem specSpread_ev (l : List (List Int)) : Ev (fun k => spec_SpreadIn.f k l) (spreadB l) := by
  unfold spec_SpreadIn.f
  by_cases hl : l.length = 10
  · refine Ev.pos (by omega) (Ev.pos (by omega) ?_)
    rw [bL_replicate]
    have := specSpread_l0 l hl 10 0 (by omega) (by omega) (fun j j0 j1 => by omega)
    have e : (bL 81 fun p => decide (0 < (p : Int)) && seenS l 0 (p : Int)) = bL 81 fun _ => false := bL_congr fun j hj => by rw [seenS_zero, Bool.and_false]
    rwa [e] at this
  · refine Ev.neg (by omega) (Ev.done ?_)
    unfold spreadB; rw [decide_eq_false hl]; rfl
end Go.Proofs.Ytcbkoecanldlpaa.X

set_option linter.unusedVariables false
set_option linter.unusedSimpArgs false
namespace Go.Proofs.Ytcbkoecanldlpaa.X
open Go.RowKit Go.Proofs.YtcbkoecanldlpaaW.PrintWords Go.Proofs.YtcbkoecanldlpaaW.PrintLast Go.Proofs.Ytcbkoecanldlpaa.P

def insL : List (List Int) → List Int → List (List Int)
  | [], x => [x]
  | a :: r, x => if lessB a x = true then a :: insL r x else x :: a :: r
theorem insL_length (l : List (List Int)) (x : List Int) : (insL l x).length = l.length + 1 := by
  induction l with
  | nil => rfl
  | cons a r ih =>
    unfold insL
    by_cases h : lessB a x = true
    · rw [if_pos h, List.length_cons, ih, List.length_cons]
    · rw [if_neg h]; rfl
theorem mem_insL {l : List (List Int)} {x y : List Int} : y ∈ insL l x ↔ y = x ∨ y ∈ l := by
  induction l with
  | nil => unfold insL; simp
  | cons a r ih =>
    unfold insL
    by_cases h : lessB a x = true
    · rw [if_pos h, List.mem_cons, ih, List.mem_cons]
      exact ⟨fun h => h.elim (fun h => .inr (.inl h)) fun h => h.elim .inl fun h => .inr (.inr h), fun h => h.elim (fun h => .inr (.inl h)) fun h => h.elim .inl fun h => .inr (.inr h)⟩
    · rw [if_neg h]; simp
theorem insL_at (x : List Int) : ∀ (n : Nat) (l : List (List Int)), n ≤ l.length → (∀ j : Nat, j < n → lessB (rd_LI l (j : Int)) x = true) → insL l x = l.take n ++ insL (l.drop n) x := by
  intro n
  induction n with
  | zero => intro l _ _; simp
  | succ n ih =>
    intro l hl h
    match l with
    | [] => simp at hl
    | a :: r =>
      have h0 := h 0 (by omega)
      have ea : rd_LI (a :: r) ((0 : Nat) : Int) = a := by rw [rdL_cast _ 0 (by simp)]; rfl
      rw [ea] at h0
      have := ih r (by simp at hl; omega) fun j hj => by
        have := h (j + 1) (by omega)
        rw [rdL_cast _ (j + 1) (by simp at hl ⊢; omega)] at this
        rw [rdL_cast _ j (by simp at hl; omega)]
        exact this
      show (if lessB a x = true then a :: insL r x else x :: a :: r) = _
      rw [if_pos h0, this]
      rfl
theorem insL_stop {l : List (List Int)} {x : List Int} {n : Nat} (hn : n < l.length) (h : ¬ lessB (rd_LI l (n : Int)) x = true) : insL (l.drop n) x = x :: l.drop n := by
  rw [List.drop_eq_getElem_cons hn]
  show (if lessB l[n] x = true then _ else _) = _
  rw [rdL_cast l n hn] at h
  rw [if_neg h]
theorem put_l0 {l : List (List Int)} {x : List Int} (h9 : ∀ a ∈ l, a.length = 9) (hx : x.length = 9) (hl : l.length ≤ 1000) (d : Nat) : ∀ i : Int, 0 ≤ i → i + d = l.length → (∀ j : Nat, (j : Int) < i → lessB (rd_LI l (j : Int)) x = true) → Ev (fun k => spec_l6lPut.l0 k l x i) (insL l x) := by
  induction d with
  | zero =>
    intro i i0 i1 h
    have e := insL_at x i.toNat l (by omega) fun j hj => h j (by omega)
    rw [e, show l.drop i.toNat = [] from List.drop_eq_nil_of_le (by omega)]
    have hlt : (l.take i.toNat).length ≤ 1000 := by rw [List.length_take]; omega
    refine Ev.step (fun k => by rw [spec_l6lPut.l0]) ?_
    refine Ev.neg (by omega) (Ev.fix rfl (Ev.pos i0 (Ev.pos (by omega) (Ev.fix rfl (Ev.pos (by rw [List.length_nil]; omega) ?_)))))
    refine Ev.fix rfl (Ev.fix rfl (Ev.pos (by rw [List.nil_append, List.length_singleton]; omega) (Ev.fix rfl (Ev.fix rfl (Ev.pos ?_ (Ev.done ?_))))))
    · rw [List.nil_append, List.length_append, List.length_singleton, List.length_drop]; omega
    · rw [show l.drop i.toNat = [] from List.drop_eq_nil_of_le (by omega)]; simp [insL]
  | succ d ih =>
    intro i i0 i1 h
    have hm : rd_LI l i ∈ l := rdL_mem i0 (by omega)
    have hlt : (l.take i.toNat).length ≤ 1000 := by rw [List.length_take]; omega
    refine Ev.step (fun k => by rw [spec_l6lPut.l0]) ?_
    rw [w64 (x := i + 1) (by omega) (by omega)]
    refine Ev.pos (by omega) (Ev.pos i0 (Ev.bind (l6lLess_ev _ _ (h9 _ hm) hx) ?_))
    by_cases hc : lessB (rd_LI l i) x = true
    · refine Ev.pos hc (ih (i + 1) (by omega) (by omega) fun j hj => ?_)
      by_cases ej : (j : Int) = i
      · rw [ej]; exact hc
      · exact h j (by omega)
    · have e := insL_at x i.toNat l (by omega) fun j hj => h j (by omega)
      rw [e, insL_stop (by omega) (by rw [Int.toNat_of_nonneg i0]; exact hc)]
      refine Ev.neg hc (Ev.fix rfl (Ev.pos (by omega) (Ev.fix rfl (Ev.pos (by rw [List.length_nil]; omega) ?_))))
      refine Ev.fix rfl (Ev.fix rfl (Ev.pos (by rw [List.nil_append, List.length_singleton]; omega) (Ev.fix rfl (Ev.fix rfl (Ev.pos ?_ (Ev.done ?_))))))
      · rw [List.nil_append, List.length_append, List.length_singleton, List.length_drop]; omega
      · simp
theorem put_ev {l : List (List Int)} {x : List Int} (h9 : ∀ a ∈ l, a.length = 9) (hx : x.length = 9) (hl : l.length ≤ 1000) : Ev (fun k => spec_l6lPut.f k l x) (insL l x) := put_l0 h9 hx hl l.length 0 (by omega) (by omega) fun j hj => by omega
theorem insL_nines {l : List (List Int)} {x : List Int} (h9 : ∀ a ∈ l, a.length = 9) (hx : x.length = 9) : ∀ a ∈ insL l x, a.length = 9 := fun a ha => (mem_insL.1 ha).elim (fun e => by rw [e]; exact hx) (h9 a)
end Go.Proofs.Ytcbkoecanldlpaa.X

set_option linter.unusedVariables false
set_option linter.unusedSimpArgs false
namespace Go.Proofs.Ytcbkoecanldlpaa.X
open Go.RowKit Go.Proofs.YtcbkoecanldlpaaW.PrintWords Go.Proofs.YtcbkoecanldlpaaW.PrintLast Go.Proofs.Ytcbkoecanldlpaa.P

def leaf0 : List Int := [0, 1, 2, 3, 4, 5, 6, 7, 8]
def leafF (t : List Int) (m x : Int) : Int := 9 * x + rd t (9 * x + m)
def leafM (t : List Int) (m : Int) : List Int := mapI 9 (leafF t m)
def spreadN (t : List Int) : Nat → List (List Int)
  | 0 => [leaf0]
  | n + 1 => insL (spreadN t n) (leafM t (n : Int))
def spreadR (t : List Int) : List (List Int) × Bool := if sysB t = true then (spreadN t 9, true) else ([], false)
theorem leafM_length (t : List Int) (m : Int) : (leafM t m).length = 9 := mapI_length _ _
theorem spreadN_length (t : List Int) (n : Nat) : (spreadN t n).length = n + 1 := by
  induction n with
  | zero => rfl
  | succ n ih => show (insL _ _).length = _; rw [insL_length, ih]
theorem spreadN_nines (t : List Int) (n : Nat) : ∀ a ∈ spreadN t n, a.length = 9 := by
  induction n with
  | zero => intro a ha; rw [List.mem_singleton.1 ha]; rfl
  | succ n ih => exact insL_nines ih (leafM_length t n)
theorem spreadOf_l1 {t : List Int} (hn : ninesB t 81 = true) (L : List (List Int)) (h9 : ∀ a ∈ L, a.length = 9) (hL : L.length ≤ 100) {m : Nat} (hm : m < 9) {r : List (List Int) × Bool} (hr : Ev (fun k => spec_SpreadOf.l0 k t (insL L (leafM t (m : Int))) ((m : Int) + 1)) r) (d : Nat) :
    ∀ x : Nat, x + d = 9 → Ev (fun k => spec_SpreadOf.l1 k t L (m : Int) (mapI x (leafF t (m : Int))) (x : Int)) r := by
  have ht := (ninesB_iff.1 hn).1
  induction d with
  | zero =>
    intro x hx
    obtain rfl : x = 9 := by omega
    refine Ev.step (fun k => by rw [spec_SpreadOf.l1]) ?_
    refine Ev.neg (by omega) (Ev.bind (put_ev h9 (leafM_length t m) (by omega)) ?_)
    rw [w64 (x := (m : Int) + 1) (by omega) (by omega)]
    exact hr
  | succ d ih =>
    intro x hx
    have nx := ih (x + 1) (by omega)
    rw [mapI_succ] at nx
    have hv := nines_rd hn (i := 9 * (x : Int) + m) (by omega) (by omega)
    have hml : (mapI x (leafF t (m : Int))).length = x := mapI_length _ _
    refine Ev.step (fun k => by rw [spec_SpreadOf.l1]) ?_
    rw [w64 (x := 9 * (x : Int)) (by omega) (by omega), w64 (x := 9 * (x : Int) + m) (by omega) (by omega), w64 (x := 9 * (x : Int) + rd t (9 * (x : Int) + m)) (by omega) (by omega), w64 (x := (x : Int) + 1) (by omega) (by omega)]
    exact Ev.pos (by omega) (Ev.pos (by omega) (Ev.pos (by omega) (Ev.pos (by omega) nx)))
theorem spreadOf_l0 {t : List Int} (hn : ninesB t 81 = true) (d : Nat) : ∀ m : Nat, m + d = 9 → Ev (fun k => spec_SpreadOf.l0 k t (spreadN t m) (m : Int)) (spreadN t 9, true) := by
  induction d with
  | zero =>
    intro m hm
    obtain rfl : m = 9 := by omega
    refine Ev.step (fun k => by rw [spec_SpreadOf.l0]) ?_
    exact Ev.neg (by omega) (Ev.done rfl)
  | succ d ih =>
    intro m hm
    refine Ev.step (fun k => by rw [spec_SpreadOf.l0]) ?_
    exact Ev.pos (by omega) (spreadOf_l1 hn _ (spreadN_nines t m) (by rw [spreadN_length]; omega) (by omega) (ih (m + 1) (by omega)) 9 0 (by omega))
theorem specSpreadOf_ev {t : List Int} (ht : t.length ≤ 1048576) : Ev (fun k => spec_SpreadOf.f k t) (spreadR t) := by
  unfold spec_SpreadOf.f spreadR
  refine Ev.bind (SystemIn_ev t ht) ?_
  by_cases hs : sysB t = true
  · rw [if_pos hs]
    exact Ev.pos hs (spreadOf_l0 (sysB_parts hs).1 9 0 (by omega))
  · rw [if_neg hs]
    exact Ev.neg hs (Ev.done rfl)
end Go.Proofs.Ytcbkoecanldlpaa.X

set_option linter.unusedVariables false
set_option linter.unusedSimpArgs false
namespace Go.Proofs.Ytcbkoecanldlpaa.X
open Go.RowKit Go.Proofs.YtcbkoecanldlpaaW.PrintWords Go.Proofs.YtcbkoecanldlpaaW.PrintLast Go.Proofs.Ytcbkoecanldlpaa.P

def RdS (s : List Int) : Prop := s.length ≤ 2000 ∧ ∀ x ∈ s, 0 ≤ x ∧ x ≤ 255
theorem u8_range {x : Int} (h : (Lit.int .u8 x).wf = true) : 0 ≤ x ∧ x ≤ 255 := by
  simp [Lit.wf, IntKind.min, IntKind.max, IntKind.signed, IntKind.bits] at h
  omega
theorem open_ev (l : List Int) (h : ∀ x ∈ l, (Lit.int .u8 x).wf = true) : ∃ s, RdS s ∧ spec_l6Open.f l = some (s, 0) := by
  unfold spec_l6Open.f
  by_cases hl : (l.length : Int) > 2000
  · rw [if_pos hl, if_pos (by omega)]
    exact ⟨_, ⟨by rw [List.length_take]; omega, fun x hx => u8_range (h x (List.mem_of_mem_take hx))⟩, rfl⟩
  · rw [if_neg hl]
    exact ⟨_, ⟨by omega, fun x hx => u8_range (h x hx)⟩, rfl⟩
theorem xor_nn {a b : Int} (h0 : 0 ≤ a) (h1 : a < 9223372036854775808) (h2 : 0 ≤ b) (h3 : b < 9223372036854775808) : 0 ≤ Go.bits .xor .i64 a b := by
  obtain ⟨x, rfl⟩ := Int.eq_ofNat_of_zero_le h0
  obtain ⟨y, rfl⟩ := Int.eq_ofNat_of_zero_le h2
  have hx : x ^^^ y < 2 ^ 63 := Nat.xor_lt_two_pow (by omega) (by omega)
  have e1 : (BitVec.ofInt 64 (x : Int)).toNat = x := by
    rw [BitVec.ofInt_natCast, BitVec.toNat_ofNat]; exact Nat.mod_eq_of_lt (by omega)
  have e2 : (BitVec.ofInt 64 (y : Int)).toNat = y := by
    rw [BitVec.ofInt_natCast, BitVec.toNat_ofNat]; exact Nat.mod_eq_of_lt (by omega)
  have e : Go.bits .xor .i64 (x : Int) (y : Int) = IntKind.i64.wrap ((BitVec.ofInt 64 (x : Int) ^^^ BitVec.ofInt 64 (y : Int)).toNat : Int) := rfl
  rw [e, BitVec.toNat_xor, e1, e2]
  generalize x ^^^ y = z at hx
  simp [IntKind.wrap, IntKind.bits, IntKind.signed]
  omega
theorem tmod_range {a n : Int} (h : 0 ≤ a) (hn : 1 ≤ n) : 0 ≤ Int.tmod a n ∧ Int.tmod a n < n := by
  rw [tmod_nn h]
  exact ⟨Int.emod_nonneg _ (by omega), Int.emod_lt_of_pos _ (by omega)⟩
theorem rd_byte {s : List Int} (hs : RdS s) {i : Int} (h0 : 0 ≤ i) (h1 : i < s.length) : 0 ≤ rd s i ∧ rd s i ≤ 255 := hs.2 _ (rd_mem h1 h0)
theorem pick_j0 (s : List Int) (hs : RdS s) (p : Int) (h0 : 0 ≤ p) (h1 : p ≤ 1099511627776) (n : Int) (n0 : 1 ≤ n) (n1 : n ≤ 1000000) :
    ∃ v, (0 ≤ v ∧ v < n) ∧ Ev (fun k => spec_l6Rd_pick.j0 k n ((s.length : Int) == 0) s (p + 1)) (v, p + 1) := by
  have hl := hs.1
  by_cases e : s.length = 0
  · refine ⟨0, by omega, ?_⟩
    refine Ev.step (fun k => by rw [spec_l6Rd_pick.j0]) ?_
    refine Ev.pos (by rw [e]; rfl) (Ev.done rfl)
  have ez : wrap64 (p + 1 - 1) = p := by rw [w64 (by omega) (by omega)]; omega
  have er : ∀ i : Int, 0 ≤ i → i < s.length → wrap64 (rd s i) = rd s i := fun i i0 i1 => by
    have := rd_byte hs i0 i1; exact w64 (by omega) (by omega)
  by_cases hp : p < s.length
  · obtain ⟨b0, b1⟩ := rd_byte hs h0 hp
    refine ⟨Int.tmod (rd s p) n, tmod_range b0 n0, ?_⟩
    refine Ev.step (fun k => by rw [spec_l6Rd_pick.j0]) ?_
    rw [ez]
    refine Ev.neg (by simp; intro hh; apply e; simp [hh]) (Ev.pos hp (Ev.pos h0 (Ev.neg (by omega) ?_)))
    rw [er p h0 hp]
    exact Ev.done rfl
  · have hL : (1 : Int) ≤ s.length := by omega
    have ha : 0 ≤ p % (s.length : Int) ∧ p % (s.length : Int) < s.length := ⟨Int.emod_nonneg _ (by omega), Int.emod_lt_of_pos _ (by omega)⟩
    have hb : 0 ≤ (p * 7 + 3) % (s.length : Int) ∧ (p * 7 + 3) % (s.length : Int) < s.length := ⟨Int.emod_nonneg _ (by omega), Int.emod_lt_of_pos _ (by omega)⟩
    have hd : 0 ≤ p / (s.length : Int) ∧ p / (s.length : Int) ≤ p := ⟨Int.ediv_nonneg h0 (by omega), Int.ediv_le_self _ h0⟩
    obtain ⟨a0, a1⟩ := rd_byte hs ha.1 ha.2
    obtain ⟨b0, b1⟩ := rd_byte hs hb.1 hb.2
    have ea := er _ ha.1 ha.2
    have eb := er _ hb.1 hb.2
    have e7 : wrap64 (wrap64 (p * 7) + 3) = p * 7 + 3 := by rw [w64 (x := p * 7) (by omega) (by omega), w64 (by omega) (by omega)]
    have em : Int.tmod p (s.length : Int) = p % (s.length : Int) := tmod_nn h0
    have en : Int.tmod (p * 7 + 3) (s.length : Int) = (p * 7 + 3) % (s.length : Int) := tmod_nn (by omega)
    have ed : Int.tdiv p (s.length : Int) = p / (s.length : Int) := tdiv_nn h0
    generalize hA : rd s (p % (s.length : Int)) = A at *
    generalize hB : rd s ((p * 7 + 3) % (s.length : Int)) = B at *
    generalize hD : p / (s.length : Int) = D at *
    have eX : wrap64 (wrap64 (wrap64 (wrap64 (A * 131) + wrap64 (B * 1117)) + wrap64 (p * 29)) + wrap64 (wrap64 D * 53)) = A * 131 + B * 1117 + p * 29 + D * 53 := by
      rw [w64 (x := A * 131) (by omega) (by omega), w64 (x := B * 1117) (by omega) (by omega), w64 (x := A * 131 + B * 1117) (by omega) (by omega), w64 (x := p * 29) (by omega) (by omega), w64 (x := D) (by omega) (by omega), w64 (x := D * 53) (by omega) (by omega), w64 (x := A * 131 + B * 1117 + p * 29) (by omega) (by omega), w64 (by omega) (by omega)]
    have hX0 : 0 ≤ A * 131 + B * 1117 + p * 29 + D * 53 := by omega
    have hX1 : A * 131 + B * 1117 + p * 29 + D * 53 ≤ 9223372036854775807 := by omega
    generalize A * 131 + B * 1117 + p * 29 + D * 53 = X at *
    have eY : wrap64 (Int.tdiv X 64) = X / 64 := by rw [tdiv_nn hX0]; exact w64 (by omega) (by omega)
    refine ⟨Int.tmod (Go.bits .xor .i64 X (X / 64)) n, tmod_range (xor_nn hX0 (by omega) (by omega) (by omega)) n0, ?_⟩
    refine Ev.step (fun k => by rw [spec_l6Rd_pick.j0]) ?_
    rw [ez]
    refine Ev.neg (by simp; intro hh; apply e; simp [hh]) (Ev.neg hp (Ev.neg (by omega) ?_))
    rw [e7, em, en, ed, hA, hB, ea, eb, eX, eY]
    exact Ev.pos ha.1 (Ev.pos ha.2 (Ev.pos hb.1 (Ev.pos hb.2 (Ev.neg (by omega) (Ev.done rfl)))))
theorem pick_ev {s : List Int} (hs : RdS s) {p : Int} (h0 : 0 ≤ p) (h1 : p ≤ 1099511627776) {n : Int} (n0 : 1 ≤ n) (n1 : n ≤ 1000000) :
    ∃ v, (0 ≤ v ∧ v < n) ∧ Ev (fun k => spec_l6Rd_pick.f k s p n) (v, p + 1) := by
  obtain ⟨v, hv, he⟩ := pick_j0 s hs p h0 h1 n n0 n1
  refine ⟨v, hv, ?_⟩
  unfold spec_l6Rd_pick.f
  rw [w64 (by omega) (by omega)]
  exact Ev.neg (by omega) he
def kindL (c : Int) : List Int := (spec_l2Of.f 300 c).getD []
theorem five {P : Int → Prop} (h : ∀ i : Fin 5, P (i.val : Int)) (a : Int) (h0 : 0 ≤ a) (h1 : a < 5) : P a := by
  have := h ⟨a.toNat, by omega⟩
  simpa [Int.toNat_of_nonneg h0] using this
theorem kindL_some : ∀ i : Fin 5, spec_l2Of.f 300 (i.val : Int) = some (kindL (i.val : Int)) := by decide +kernel
theorem kindL_nines : ∀ i : Fin 5, ninesB (kindL (i.val : Int)) 81 = true := by decide +kernel
theorem kind_ev (c : Int) (h0 : 0 ≤ c) (h1 : c < 5) : Ev (fun k => spec_l2Of.f k c) (kindL c) :=
  Ev.of (fun k => spec_l2Of.mono c k) (five (P := fun c => spec_l2Of.f 300 c = some (kindL c)) kindL_some c h0 h1)
theorem kind_nines (c : Int) (h0 : 0 ≤ c) (h1 : c < 5) : ninesB (kindL c) 81 = true := five (P := fun c => ninesB (kindL c) 81 = true) kindL_nines c h0 h1
def DrawnT (t : List Int) : Prop := ∃ c : Int, 0 ≤ c ∧ c < 5 ∧ (t = kindL c ∨ (∃ i v : Int, 0 ≤ i ∧ i < 81 ∧ 0 ≤ v ∧ v < 9 ∧ t = (kindL c).set i.toNat v) ∨ t = (kindL c).take 80)
theorem DrawnT.len {t : List Int} (h : DrawnT t) : t.length ≤ 81 := by
  obtain ⟨c, c0, c1, h⟩ := h
  have hl := (ninesB_iff.1 (kind_nines c c0 c1)).1
  rcases h with rfl | ⟨i, v, _, _, _, _, rfl⟩ | rfl
  · omega
  · rw [List.length_set]; omega
  · rw [List.length_take]; omega
theorem system_ev {s : List Int} (hs : RdS s) {p : Int} (h0 : 0 ≤ p) (h1 : p ≤ 1099511000000) : ∃ t q, DrawnT t ∧ (p ≤ q ∧ q ≤ p + 5) ∧ Ev (fun k => spec_l91System.f k s p) (t, q) := by
  obtain ⟨c, hc, ec⟩ := pick_ev hs h0 (by omega) (n := 5) (by omega) (by omega)
  obtain ⟨a, ha, ea⟩ := pick_ev hs (p := p + 1) (by omega) (by omega) (n := 30) (by omega) (by omega)
  obtain ⟨i, hi, ei⟩ := pick_ev hs (p := p + 1 + 1) (by omega) (by omega) (n := 9) (by omega) (by omega)
  obtain ⟨j, hj, ej⟩ := pick_ev hs (p := p + 1 + 1 + 1) (by omega) (by omega) (n := 9) (by omega) (by omega)
  obtain ⟨v, hv, ev⟩ := pick_ev hs (p := p + 1 + 1 + 1 + 1) (by omega) (by omega) (n := 9) (by omega) (by omega)
  have hl := (ninesB_iff.1 (kind_nines c hc.1 hc.2)).1
  have ew : wrap64 (wrap64 (9 * i) + j) = 9 * i + j := by rw [w64 (x := 9 * i) (by omega) (by omega), w64 (by omega) (by omega)]
  by_cases e : a = 0
  · refine ⟨(kindL c).set (9 * i + j).toNat v, p + 1 + 1 + 1 + 1 + 1, ⟨c, hc.1, hc.2, .inr (.inl ⟨9 * i + j, v, by omega, by omega, hv.1, hv.2, rfl⟩)⟩, by omega, ?_⟩
    unfold spec_l91System.f
    refine Ev.bind ec (Ev.bind (kind_ev c hc.1 hc.2) (Ev.bind ea (Ev.pos e (Ev.bind ei (Ev.bind ej (Ev.bind ev ?_))))))
    dsimp only
    rw [ew]
    exact Ev.pos (by omega) (Ev.pos (by omega) (Ev.done rfl))
  by_cases e1 : a = 1
  · refine ⟨(kindL c).take 80, p + 1 + 1, ⟨c, hc.1, hc.2, .inr (.inr rfl)⟩, by omega, ?_⟩
    unfold spec_l91System.f
    refine Ev.bind ec (Ev.bind (kind_ev c hc.1 hc.2) (Ev.bind ea (Ev.neg e (Ev.pos e1 (Ev.pos ?_ (Ev.done rfl))))))
    omega
  · refine ⟨kindL c, p + 1 + 1, ⟨c, hc.1, hc.2, .inl rfl⟩, by omega, ?_⟩
    unfold spec_l91System.f
    exact Ev.bind ec (Ev.bind (kind_ev c hc.1 hc.2) (Ev.bind ea (Ev.neg e (Ev.neg e1 (Ev.done rfl)))))
end Go.Proofs.Ytcbkoecanldlpaa.X

set_option linter.unusedVariables false
set_option linter.unusedSimpArgs false
namespace Go.Proofs.Ytcbkoecanldlpaa.X
open Go.RowKit Go.Proofs.YtcbkoecanldlpaaW.PrintWords Go.Proofs.YtcbkoecanldlpaaW.PrintLast Go.Proofs.Ytcbkoecanldlpaa.P

def regL : List (List Int) := (spec_l6lRegulus.f 300).getD []
def otherL (x : Int) : List Int := (spec_l6lOther.f 300 x).getD []
theorem regL_some : spec_l6lRegulus.f 300 = some regL := by decide +kernel
theorem regL_ok : regL.length = 4 ∧ ∀ i : Fin 4, (rd_LI regL (i.val : Int)).length = 9 := by decide +kernel
theorem otherL_some : ∀ i : Fin 9, spec_l6lOther.f 300 (i.val : Int) = some (otherL (i.val : Int)) := by decide +kernel
theorem otherL_len : ∀ i : Fin 9, i ≠ 0 → (otherL (i.val : Int)).length = 9 := by decide +kernel
theorem regulus_ev : Ev (fun k => spec_l6lRegulus.f k) regL := Ev.of (fun k => spec_l6lRegulus.mono k) regL_some
theorem other_ev (x : Int) (h0 : 0 ≤ x) (h1 : x < 9) : Ev (fun k => spec_l6lOther.f k x) (otherL x) :=
  Ev.of (fun k => spec_l6lOther.mono x k) (nine1 (P := fun x => spec_l6lOther.f 300 x = some (otherL x)) otherL_some x h0 h1)
theorem other_len (x : Int) (h0 : 0 < x) (h1 : x < 9) : (otherL x).length = 9 := by
  have := otherL_len ⟨x.toNat, by omega⟩ (fun h => by have := Fin.ext_iff.1 h; have h2 : x.toNat = 0 := this; omega)
  have e : ((⟨x.toNat, by omega⟩ : Fin 9).val : Int) = x := by show ((x.toNat : Nat) : Int) = x; omega
  rwa [e] at this
end Go.Proofs.Ytcbkoecanldlpaa.X

set_option linter.unusedVariables false
set_option linter.unusedSimpArgs false
namespace Go.Proofs.Ytcbkoecanldlpaa.X
open Go.RowKit Go.Proofs.YtcbkoecanldlpaaW.PrintWords Go.Proofs.YtcbkoecanldlpaaW.PrintLast Go.Proofs.Ytcbkoecanldlpaa.P

theorem leaf_ext {a b : List Int} (ha : a.length = 9) (hb : b.length = 9) (h : ∀ i : Int, 0 ≤ i → i < 9 → rd a i = rd b i) : a = b := ext_rd (by omega) fun i hi => h i (by omega) (by omega)
theorem gapI_cases {a b : List Int} (ha : a.length = 9) (hb : b.length = 9) : (a = b ∧ gapI a b = -1) ∨ (a ≠ b ∧ 0 ≤ gapI a b ∧ rd a (gapI a b) ≠ rd b (gapI a b)) := by
  by_cases h : ∃ i : Int, 0 ≤ i ∧ i < 9 ∧ (rd a i != rd b i) = true
  · obtain ⟨i, h0, h1, h2⟩ := h
    obtain ⟨g0, g1, g2, _⟩ := firstI_spec (n := 9) (p := fun i => rd a i != rd b i) i h0 h1 h2
    have g2 : rd a (gapI a b) ≠ rd b (gapI a b) := bne_iff_ne.1 g2
    exact .inr ⟨fun e => by rw [e] at g2; exact g2 rfl, g0, g2⟩
  · have hall : ∀ i : Int, 0 ≤ i → i < 9 → (rd a i != rd b i) = false := fun i h0 h1 => Bool.eq_false_iff.2 fun h2 => h ⟨i, h0, h1, h2⟩
    exact .inl ⟨leaf_ext ha hb fun i h0 h1 => by simpa using hall i h0 h1, firstI_none hall⟩
theorem gapI_comm (a b : List Int) : gapI b a = gapI a b := by
  unfold gapI
  congr 1
  funext i
  rw [bne_comm]
theorem l6lSame_ev (a b : List Int) (ha : a.length = 9) (hb : b.length = 9) : Ev (fun k => spec_l6lSame.f k a b) (decide (a = b)) := by
  unfold spec_l6lSame.f
  refine Ev.bind (l6lLess_ev a b ha hb) ?_
  have hc := gapI_comm a b
  rcases gapI_cases ha hb with ⟨e, hg⟩ | ⟨e, g0, g1⟩
  · have h1 : lessB a b = false := by unfold lessB; rw [hg]; rfl
    have h2 : lessB b a = false := by unfold lessB; rw [hc, hg]; rfl
    rw [h1, decide_eq_true e]
    refine Ev.neg (by decide) (Ev.bind (l6lLess_ev b a hb ha) ?_)
    rw [h2]; exact Ev.done rfl
  · rw [decide_eq_false e]
    by_cases h : rd a (gapI a b) < rd b (gapI a b)
    · have h1 : lessB a b = true := by unfold lessB; rw [decide_eq_true g0, decide_eq_true h]; rfl
      rw [h1]
      exact Ev.pos rfl (Ev.done rfl)
    · have h1 : lessB a b = false := by unfold lessB; rw [decide_eq_false h, Bool.and_false]
      have h2 : lessB b a = true := by unfold lessB; rw [hc, decide_eq_true g0, decide_eq_true (by omega : rd b (gapI a b) < rd a (gapI a b))]; rfl
      rw [h1]
      refine Ev.neg (by decide) (Ev.bind (l6lLess_ev b a hb ha) ?_)
      rw [h2]; exact Ev.done rfl
def sameN (a b : List (List Int)) : Nat → Int
  | 0 => 0
  | n + 1 => sameN a b n + (if rd_LI a (n : Int) ∈ b then 1 else 0)
theorem sameN_range (a b : List (List Int)) (n : Nat) : 0 ≤ sameN a b n ∧ sameN a b n ≤ n := by
  induction n with
  | zero => exact ⟨Int.le_refl _, Int.le_refl _⟩
  | succ n ih => unfold sameN; split <;> omega
def sameR (a b : List (List Int)) : Int × Bool := if (spreadB a && spreadB b) = true then (sameN a b 10, true) else (0, false)
theorem spread_short {l : List (List Int)} (h : spreadB l = true) : (l.all fun x => decide (x.length ≤ 1099511627776)) = true := by
  rw [List.all_eq_true]
  intro x hx
  obtain ⟨j, hj, rfl⟩ := List.mem_iff_getElem.1 hx
  have hl := (spreadB_parts h).1
  have := (leafB_parts (spread_leaf h (i := (j : Int)) (by omega) (by omega))).1
  rw [rdL_cast l j hj] at this
  exact decide_eq_true (by omega)
theorem sameLeaves_loop {a b : List (List Int)} (hb : spreadB b = true) (ha : a.length = 10) (d : Nat) : ∀ i : Nat, i + d = 10 → Ev (fun k => impl_sameLeaves.l0 k b (sameN a b i) a (10 : Int) (i : Int)) (sameN a b 10) := by
  induction d with
  | zero =>
    intro i h1
    have e : i = 10 := by omega
    subst e
    refine Ev.step (fun k => by rw [impl_sameLeaves.l0]) ?_
    exact Ev.neg (by omega) (Ev.done rfl)
  | succ d ih =>
    intro i h1
    have hs := sameN_range a b i
    have nx := ih (i + 1) (by omega)
    refine Ev.step (fun k => by rw [impl_sameLeaves.l0]) ?_
    rw [w64 (x := (i : Int) + 1) (by omega) (by omega), w64 (x := sameN a b i + 1) (by omega) (by omega)]
    refine Ev.pos (by omega) (Ev.pos (by omega) (Ev.pos (by omega) (Ev.fix (show impl_hasLeaf.f b (rd_LI a (i : Int)) = some (decide (rd_LI a (i : Int) ∈ b)) from if_pos (spread_short hb)) ?_)))
    have hu : sameN a b (i + 1) = sameN a b i + (if rd_LI a (i : Int) ∈ b then 1 else 0) := rfl
    by_cases e : rd_LI a (i : Int) ∈ b
    · rw [hu, if_pos e] at nx
      exact Ev.pos (decide_eq_true e) nx
    · rw [hu, if_neg e, Int.add_zero] at nx
      exact Ev.neg (by rw [decide_eq_false e]; decide) nx
theorem sameLeaves_ev {a b : List (List Int)} (hb : spreadB b = true) (ha : a.length = 10) : Ev (fun k => impl_sameLeaves.f k a b) (sameN a b 10) := by
  unfold impl_sameLeaves.f
  rw [show (a.length : Int) = 10 by omega]
  exact sameLeaves_loop hb ha 10 0 (by omega)
theorem implSame_ev (a b : List (List Int)) : Ev (fun k => impl_SpreadSame.f k a b) (sameR a b) := by
  unfold impl_SpreadSame.f sameR
  refine Ev.fix (show impl_isSpread.f a = some (spreadB a) from rfl) ?_
  by_cases ha : spreadB a = true
  case neg => rw [Bool.eq_false_iff.2 ha]; exact Ev.neg (by decide) (Ev.done rfl)
  rw [ha]
  refine Ev.pos rfl (Ev.fix (show impl_isSpread.f b = some (spreadB b) from rfl) ?_)
  by_cases hb : spreadB b = true
  case neg => rw [Bool.eq_false_iff.2 hb]; exact Ev.neg (by decide) (Ev.done rfl)
  rw [hb]
  exact Ev.pos rfl (Ev.bind (sameLeaves_ev hb (spreadB_parts ha).1) (Ev.done rfl))
end Go.Proofs.Ytcbkoecanldlpaa.X

set_option linter.unusedVariables false
set_option linter.unusedSimpArgs false
namespace Go.Proofs.Ytcbkoecanldlpaa.X
open Go.RowKit Go.Proofs.YtcbkoecanldlpaaW.PrintWords Go.Proofs.YtcbkoecanldlpaaW.PrintLast Go.Proofs.Ytcbkoecanldlpaa.P

def restN (l : List (List Int)) : Nat → List (List Int)
  | 0 => []
  | n + 1 => if rd_LI l (n : Int) ∈ regL then restN l n else insL (restN l n) (rd_LI l (n : Int))
def insAll (l : List (List Int)) : List Int → List (List Int)
  | [] => l
  | x :: r => insAll (insL l (otherL x)) r
def deriveL (l : List (List Int)) : List (List Int) := insAll (restN l 10) [1, 3, 4, 5]
def deriveR (l : List (List Int)) : List (List Int) × Bool := if spreadB l = true ∧ (restN l 10).length = 6 then (deriveL l, true) else ([], false)
theorem restN_nines {l : List (List Int)} (h : spreadB l = true) (n : Nat) (hn : n ≤ 10) : (restN l n).length ≤ n ∧ ∀ a ∈ restN l n, a.length = 9 := by
  induction n with
  | zero => exact ⟨Nat.le_refl _, fun a ha => by cases ha⟩
  | succ n ih =>
    obtain ⟨h1, h2⟩ := ih (by omega)
    unfold restN
    by_cases e : rd_LI l (n : Int) ∈ regL
    · rw [if_pos e]; exact ⟨by omega, h2⟩
    · rw [if_neg e]
      refine ⟨by rw [insL_length]; omega, insL_nines h2 ?_⟩
      exact (leafB_parts (spread_leaf h (i := (n : Int)) (by omega) (by omega))).1
theorem derive_l1 {l : List (List Int)} (h : spreadB l = true) (o : List (List Int)) {i : Nat} (hi : i < 10) (ho : o.length ≤ 20) (h9 : ∀ a ∈ o, a.length = 9) {r : List (List Int) × Bool}
    (hr : Ev (fun k => spec_SpreadDerive.l0 k l regL (if rd_LI l (i : Int) ∈ regL then o else insL o (rd_LI l (i : Int))) ((i : Int) + 1)) r) (d : Nat) :
    ∀ (c : Int) (b : Bool), 0 ≤ c → c + d = 4 → (b = true ↔ ∃ j : Int, 0 ≤ j ∧ j < c ∧ rd_LI l (i : Int) = rd_LI regL j) → Ev (fun k => spec_SpreadDerive.l1 k l regL o (i : Int) b c) r := by
  have hl := (spreadB_parts h).1
  have h9i := (leafB_parts (spread_leaf h (i := (i : Int)) (by omega) (by omega))).1
  obtain ⟨r4, r9⟩ := regL_ok
  induction d with
  | zero =>
    intro c b c0 c1 hb
    have hin : b = true ↔ rd_LI l (i : Int) ∈ regL := by
      rw [hb]
      constructor
      · rintro ⟨j, j0, j1, e⟩
        rw [e]; exact rdL_mem j0 (by omega)
      · intro hm
        obtain ⟨j, hj, e⟩ := List.mem_iff_getElem.1 hm
        exact ⟨(j : Int), by omega, by omega, by rw [rdL_cast _ j hj, e]⟩
    refine Ev.step (fun k => by rw [spec_SpreadDerive.l1]) ?_
    rw [w64 (x := (i : Int) + 1) (by omega) (by omega)]
    refine Ev.neg (by omega) ?_
    by_cases e : b = true
    · rw [if_pos (hin.1 e)] at hr
      exact Ev.pos e hr
    · rw [if_neg (fun h => e (hin.2 h))] at hr
      refine Ev.neg e (Ev.fix rfl (Ev.pos (by omega) (Ev.pos (by omega) (Ev.pos (by rw [List.length_nil]; omega) (Ev.bind (put_ev h9 ?_ (by omega)) ?_)))))
      · rw [List.nil_append]; exact h9i
      · rw [List.nil_append]; exact hr
  | succ d ih =>
    intro c b c0 c1 hb
    refine Ev.step (fun k => by rw [spec_SpreadDerive.l1]) ?_
    rw [w64 (x := c + 1) (by omega) (by omega)]
    refine Ev.pos (by omega) ?_
    by_cases e : b = true
    · refine Ev.pos e (ih (c + 1) true (by omega) (by omega) ⟨fun _ => ?_, fun _ => rfl⟩)
      obtain ⟨j, j0, j1, h⟩ := hb.1 e
      exact ⟨j, j0, by omega, h⟩
    · have hc9 := r9 ⟨c.toNat, by omega⟩
      have ec : (((⟨c.toNat, by omega⟩ : Fin 4).val : Nat) : Int) = c := by show ((c.toNat : Nat) : Int) = c; omega
      rw [ec] at hc9
      refine Ev.neg e (Ev.pos (by omega) (Ev.pos (by omega) (Ev.pos c0 (Ev.pos (by omega) (Ev.bind (l6lSame_ev _ _ h9i hc9) (ih (c + 1) _ (by omega) (by omega) ?_))))))
      rw [decide_eq_true_iff]
      constructor
      · intro h; exact ⟨c, c0, by omega, h⟩
      · rintro ⟨j, j0, j1, h⟩
        by_cases ej : j = c
        · rw [← ej]; exact h
        · exact absurd (hb.2 ⟨j, j0, by omega, h⟩) e
theorem derive_l2 (L : List Int) (hL : L.length ≤ 10) (hx : ∀ x ∈ L, 0 < x ∧ x < 9) (d : Nat) : ∀ (i : Int) (o : List (List Int)), 0 ≤ i → i + d = L.length → o.length ≤ 20 + i → (∀ a ∈ o, a.length = 9) → Ev (fun k => spec_SpreadDerive.l2 k o L (L.length : Int) i) (insAll o (L.drop i.toNat), true) := by
  induction d with
  | zero =>
    intro i o i0 i1 ho h9
    refine Ev.step (fun k => by rw [spec_SpreadDerive.l2]) ?_
    rw [show L.drop i.toNat = [] from List.drop_eq_nil_of_le (by omega)]
    exact Ev.neg (by omega) (Ev.done rfl)
  | succ d ih =>
    intro i o i0 i1 ho h9
    have hm := hx _ (rd_mem (t := L) (i := i) (by omega) i0)
    have nx := ih (i + 1) (insL o (otherL (rd L i))) (by omega) (by omega) (by rw [insL_length]; omega) (insL_nines h9 (other_len _ hm.1 hm.2))
    have ed : L.drop i.toNat = rd L i :: L.drop (i + 1).toNat := by
      rw [List.drop_eq_getElem_cons (show i.toNat < L.length by omega), rd_getElem i0 (by omega), show i.toNat + 1 = (i + 1).toNat by omega]
    rw [ed]
    refine Ev.step (fun k => by rw [spec_SpreadDerive.l2]) ?_
    rw [w64 (x := i + 1) (by omega) (by omega)]
    exact Ev.pos (by omega) (Ev.pos i0 (Ev.pos (by omega) (Ev.bind (other_ev _ (by omega) hm.2) (Ev.bind (put_ev h9 (other_len _ hm.1 hm.2) (by omega)) nx))))
theorem derive_l0 {l : List (List Int)} (h : spreadB l = true) (d : Nat) : ∀ i : Nat, i + d = 10 → Ev (fun k => spec_SpreadDerive.l0 k l regL (restN l i) (i : Int)) (deriveR l) := by
  induction d with
  | zero =>
    intro i hi
    obtain rfl : i = 10 := by omega
    obtain ⟨h1, h2⟩ := restN_nines h 10 (by omega)
    refine Ev.step (fun k => by rw [spec_SpreadDerive.l0]) ?_
    refine Ev.neg (by omega) ?_
    unfold deriveR
    by_cases e : (restN l 10).length = 6
    · rw [if_pos ⟨h, e⟩]
      refine Ev.pos (by omega) (Ev.fix rfl ?_)
      exact derive_l2 [1, 3, 4, 5] (by decide) (by decide) 4 0 _ (by omega) (by decide) (by omega) h2
    · rw [if_neg (fun h => e h.2)]
      exact Ev.neg (by omega) (Ev.done rfl)
  | succ d ih =>
    intro i hi
    obtain ⟨h1, h2⟩ := restN_nines h i (by omega)
    refine Ev.step (fun k => by rw [spec_SpreadDerive.l0]) ?_
    refine Ev.pos (by omega) (derive_l1 h (restN l i) (by omega) (by omega) h2 (ih (i + 1) (by omega)) 4 0 false (by omega) (by omega) ⟨fun h => absurd h (by decide), fun ⟨j, j0, j1, _⟩ => absurd j1 (by omega)⟩)
theorem specDerive_ev (l : List (List Int)) : Ev (fun k => spec_SpreadDerive.f k l) (deriveR l) := by
  unfold spec_SpreadDerive.f
  refine Ev.bind (specSpread_ev l) ?_
  by_cases h : spreadB l = true
  · exact Ev.pos h (Ev.bind regulus_ev (derive_l0 h 10 0 (by omega)))
  · unfold deriveR
    rw [if_neg (fun h2 => h h2.1)]
    exact Ev.neg h (Ev.done rfl)
theorem insAll_nines (L : List Int) : ∀ o : List (List Int), (∀ x ∈ L, 0 < x ∧ x < 9) → (∀ a ∈ o, a.length = 9) → ∀ a ∈ insAll o L, a.length = 9 := by
  induction L with
  | nil => intro o _ h; exact h
  | cons x L ih => intro o hx h; exact ih _ (fun y hy => hx y (List.mem_cons_of_mem _ hy)) (insL_nines h (other_len _ (hx x List.mem_cons_self).1 (hx x List.mem_cons_self).2))
theorem insAll_length (L : List Int) : ∀ o : List (List Int), (insAll o L).length = o.length + L.length := by
  induction L with
  | nil => intro o; rfl
  | cons x L ih => intro o; show (insAll _ L).length = _; rw [ih, insL_length, List.length_cons]; omega
theorem deriveL_nines {l : List (List Int)} (h : spreadB l = true) : ∀ a ∈ deriveL l, a.length = 9 := insAll_nines _ _ (by decide) (restN_nines h 10 (by omega)).2
theorem deriveL_length (l : List (List Int)) : (deriveL l).length = (restN l 10).length + 4 := insAll_length _ _
end Go.Proofs.Ytcbkoecanldlpaa.X

set_option linter.unusedVariables false
set_option linter.unusedSimpArgs false
namespace Go.Proofs.Ytcbkoecanldlpaa.X
open Go.RowKit Go.Proofs.YtcbkoecanldlpaaW.PrintWords Go.Proofs.YtcbkoecanldlpaaW.PrintLast Go.Proofs.Ytcbkoecanldlpaa.P

def putS (s : Nat → Bool) (v : Int) (x : Nat) : Bool := if x = v.toNat then true else s x
def oneS (s : Nat → Bool) (p q : Int) : Nat → Bool := if s p.toNat = true ∧ s q.toNat = true then putS s (addF p q) else s
def rowS (s : Nat → Bool) (p : Int) : Nat → (Nat → Bool)
  | 0 => s
  | n + 1 => oneS (rowS s p n) p (n : Int)
def passS (s : Nat → Bool) : Nat → (Nat → Bool)
  | 0 => s
  | n + 1 => rowS (passS s n) (n : Int) 81
def timesS (s : Nat → Bool) : Nat → (Nat → Bool)
  | 0 => s
  | n + 1 => passS (timesS s n) 81
def startS (l : List Int) (x : Nat) : Bool := decide (x = 0) || decide ((x : Int) ∈ l)
def sumS (l : List Int) : Nat → Bool := timesS (startS l) 5
def setL (s : Nat → Bool) : List Int := filI 81 fun p => s p.toNat
def nineR (s : Nat → Bool) : List Int × Bool := if (setL s).length = 9 then (setL s, true) else ([], false)
def sumR (l : List Int) : List Int × Bool := if l.all nearB = true then nineR (sumS l) else ([], false)
theorem sum_l4 (s : Nat → Bool) (d : Nat) : ∀ i : Nat, i + d = 81 → Ev (fun k => spec_SpreadSum.l4 k (bL 81 s) (filI i fun p => s p.toNat) (i : Int)) (nineR s) := by
  induction d with
  | zero =>
    intro i hi
    obtain rfl : i = 81 := by omega
    refine Ev.step (fun k => by rw [spec_SpreadSum.l4]) ?_
    refine Ev.neg (by omega) ?_
    unfold nineR
    by_cases h : (setL s).length = 9
    · rw [if_pos h]
      exact Ev.pos (by unfold setL at h; omega) (Ev.done rfl)
    · rw [if_neg h]
      exact Ev.neg (by unfold setL at h; omega) (Ev.done rfl)
  | succ d ih =>
    intro i hi
    have nx := ih (i + 1) (by omega)
    rw [filI_succ, Int.toNat_natCast] at nx
    have hlen : (filI i fun p => s p.toNat).length ≤ i := filI_length_le _ _
    refine Ev.step (fun k => by rw [spec_SpreadSum.l4]) ?_
    rw [w64 (x := (i : Int) + 1) (by omega) (by omega), bL_rd (i : Int) (by omega) (by omega), Int.toNat_natCast]
    refine Ev.pos (by omega) (Ev.pos (by omega) (Ev.pos (by rw [bL_length]; omega) ?_))
    by_cases h : s i = true
    · rw [if_pos h] at nx
      exact Ev.pos h (Ev.pos (by omega) nx)
    · rw [if_neg h, List.append_nil] at nx
      exact Ev.neg h nx
theorem sum_l3 {s : Nat → Bool} (c : Int) {p : Nat} (hp : p < 81) {r : List Int × Bool} (hr : Ev (fun k => spec_SpreadSum.l2 k (bL 81 (rowS s (p : Int) 81)) c ((p : Int) + 1)) r) (d : Nat) :
    ∀ q : Nat, q + d = 81 → Ev (fun k => spec_SpreadSum.l3 k (bL 81 (rowS s (p : Int) q)) c (p : Int) (q : Int)) r := by
  induction d with
  | zero =>
    intro q hq
    obtain rfl : q = 81 := by omega
    refine Ev.step (fun k => by rw [spec_SpreadSum.l3]) ?_
    rw [w64 (x := (p : Int) + 1) (by omega) (by omega)]
    exact Ev.neg (by omega) hr
  | succ d ih =>
    intro q hq
    have nx := ih (q + 1) (by omega)
    have eR : rowS s (p : Int) (q + 1) = oneS (rowS s (p : Int) q) (p : Int) (q : Int) := rfl
    rw [eR] at nx
    generalize rowS s (p : Int) q = s1 at nx ⊢
    refine Ev.step (fun k => by rw [spec_SpreadSum.l3]) ?_
    rw [w64 (x := (q : Int) + 1) (by omega) (by omega), bL_rd (p : Int) (by omega) (by omega), bL_rd (q : Int) (by omega) (by omega), Int.toNat_natCast, Int.toNat_natCast]
    refine Ev.pos (by omega) (Ev.pos (by omega) (Ev.pos (by rw [bL_length]; omega) ?_))
    unfold oneS at nx
    rw [Int.toNat_natCast, Int.toNat_natCast] at nx
    by_cases h1 : s1 p = true
    · refine Ev.pos h1 (Ev.pos (by omega) (Ev.pos (by rw [bL_length]; omega) ?_))
      by_cases h2 : s1 q = true
      · rw [if_pos ⟨h1, h2⟩] at nx
        have hr := addF_range (p : Int) (q : Int)
        refine Ev.pos h2 (Ev.fix (l6lAdd_eq (nearB_iff.2 ⟨by omega, by omega⟩) (nearB_iff.2 ⟨by omega, by omega⟩)) (Ev.pos hr.1 (Ev.pos (by rw [bL_length]; exact hr.2) ?_)))
        rw [bL_set]
        exact nx
      · rw [if_neg (fun h => h2 h.2)] at nx
        exact Ev.neg h2 nx
    · rw [if_neg (fun h => h1 h.1)] at nx
      exact Ev.neg h1 nx
theorem sum_l2 {s : Nat → Bool} (c : Int) (c0 : 0 ≤ c) (c1 : c < 5) {r : List Int × Bool} (hr : Ev (fun k => spec_SpreadSum.l1 k (bL 81 (passS s 81)) (c + 1)) r) (d : Nat) :
    ∀ p : Nat, p + d = 81 → Ev (fun k => spec_SpreadSum.l2 k (bL 81 (passS s p)) c (p : Int)) r := by
  induction d with
  | zero =>
    intro p hp
    obtain rfl : p = 81 := by omega
    refine Ev.step (fun k => by rw [spec_SpreadSum.l2]) ?_
    rw [w64 (x := c + 1) (by omega) (by omega)]
    exact Ev.neg (by omega) hr
  | succ d ih =>
    intro p hp
    refine Ev.step (fun k => by rw [spec_SpreadSum.l2]) ?_
    exact Ev.pos (by omega) (sum_l3 c (by omega) (ih (p + 1) (by omega)) 81 0 (by omega))
theorem sum_l1 (s : Nat → Bool) (d : Nat) : ∀ c : Nat, c + d = 5 → Ev (fun k => spec_SpreadSum.l1 k (bL 81 (timesS s c)) (c : Int)) (nineR (timesS s 5)) := by
  induction d with
  | zero =>
    intro c hc
    obtain rfl : c = 5 := by omega
    refine Ev.step (fun k => by rw [spec_SpreadSum.l1]) ?_
    exact Ev.neg (by omega) (sum_l4 _ 81 0 (by omega))
  | succ d ih =>
    intro c hc
    refine Ev.step (fun k => by rw [spec_SpreadSum.l1]) ?_
    exact Ev.pos (by omega) (sum_l2 (c : Int) (by omega) (by omega) (ih (c + 1) (by omega)) 81 0 (by omega))
theorem sum_l0 {l : List Int} (hl : l.length ≤ 1048576) (d : Nat) : ∀ i : Int, 0 ≤ i → i + d = l.length → (∀ x ∈ l.take i.toNat, nearB x = true) → Ev (fun k => spec_SpreadSum.l0 k l (bL 81 (startS (l.take i.toNat))) i) (sumR l) := by
  induction d with
  | zero =>
    intro i i0 i1 h
    rw [List.take_of_length_le (by omega)] at h ⊢
    refine Ev.step (fun k => by rw [spec_SpreadSum.l0]) ?_
    refine Ev.neg (by omega) ?_
    unfold sumR
    rw [if_pos (List.all_eq_true.2 h)]
    exact sum_l1 (startS l) 5 0 (by omega)
  | succ d ih =>
    intro i i0 i1 h
    refine Ev.step (fun k => by rw [spec_SpreadSum.l0]) ?_
    rw [w64 (x := i + 1) (by omega) (by omega)]
    refine Ev.pos (by omega) (Ev.pos i0 (Ev.fix (l6In80 _) ?_))
    have et : l.take (i + 1).toNat = l.take i.toNat ++ [rd l i] := by
      rw [show (i + 1).toNat = i.toNat + 1 by omega, List.take_add_one, List.getElem?_eq_getElem (by omega), Option.toList_some]
      rw [show l[i.toNat]'(by omega) = rd l i from (rd_getElem i0 (by omega)).symm]
    by_cases hn : nearB (rd l i) = true
    · obtain ⟨r0, r1⟩ := nearB_iff.1 hn
      refine Ev.pos hn (Ev.pos r0 (Ev.pos (by rw [bL_length]; exact r1) ?_))
      have nx := ih (i + 1) (by omega) (by omega) fun x hx => by
        rw [et] at hx
        rcases List.mem_append.1 hx with hx | hx
        · exact h x hx
        · rw [List.mem_singleton.1 hx]; exact hn
      rw [bL_set]
      have eB : bL 81 (fun x => if x = (rd l i).toNat then true else startS (l.take i.toNat) x) = bL 81 (startS (l.take (i + 1).toNat)) := bL_congr fun x _ => by
        unfold startS
        rw [et]
        by_cases e : x = (rd l i).toNat
        · rw [if_pos e, decide_eq_true (show (x : Int) ∈ l.take i.toNat ++ [rd l i] from List.mem_append.2 (.inr (List.mem_singleton.2 (by omega)))), Bool.or_true]
        · rw [if_neg e]
          refine congrArg _ (decide_eq_decide.2 ?_)
          rw [List.mem_append, List.mem_singleton]
          exact ⟨.inl, fun h => h.elim id fun h => absurd h (by omega)⟩
      rw [eB]
      exact nx
    · refine Ev.neg hn (Ev.done ?_)
      unfold sumR
      rw [if_neg]
      intro ha
      exact hn (List.all_eq_true.1 ha _ (rd_mem (by omega) i0))
theorem specSum_ev {l : List Int} (hl : l.length ≤ 1048576) : Ev (fun k => spec_SpreadSum.f k l) (sumR l) := by
  unfold spec_SpreadSum.f
  refine Ev.pos (by decide) ?_
  rw [bL_replicate]
  refine Ev.fix rfl (Ev.pos (by rw [bL_length]; omega) ?_)
  have e0 : (bL 81 fun _ => false).set (0 : Int).toNat true = bL 81 (startS (l.take (0 : Int).toNat)) := by
    rw [bL_set]
    exact bL_congr fun x _ => by unfold startS; simp
  rw [e0]
  exact sum_l0 hl l.length 0 (by omega) (by omega) (fun x hx => by simp at hx)
theorem nineR_length (s : Nat → Bool) : (nineR s).1.length ≤ 9 := by
  unfold nineR
  by_cases h2 : (setL s).length = 9
  · rw [if_pos h2]; exact Nat.le_of_eq h2
  · rw [if_neg h2]; exact Nat.zero_le _
theorem nineR_nine {s : Nat → Bool} (h : (nineR s).2 = true) : (nineR s).1.length = 9 := by
  unfold nineR at h ⊢
  by_cases h2 : (setL s).length = 9
  · rw [if_pos h2]; exact h2
  · rw [if_neg h2] at h; exact absurd h (by decide)
theorem sumR_length (l : List Int) : (sumR l).1.length ≤ 9 := by
  unfold sumR
  by_cases h : l.all nearB = true
  · rw [if_pos h]; exact nineR_length _
  · rw [if_neg h]; exact Nat.zero_le _
theorem sumR_nine {l : List Int} (h : (sumR l).2 = true) : (sumR l).1.length = 9 := by
  unfold sumR at h ⊢
  by_cases h1 : l.all nearB = true
  · rw [if_pos h1] at h ⊢; exact nineR_nine h
  · rw [if_neg h1] at h; exact absurd h (by decide)
end Go.Proofs.Ytcbkoecanldlpaa.X

set_option linter.unusedVariables false
set_option linter.unusedSimpArgs false
namespace Go.Proofs.Ytcbkoecanldlpaa.X
open Go.RowKit Go.Proofs.YtcbkoecanldlpaaW.PrintWords Go.Proofs.YtcbkoecanldlpaaW.PrintLast Go.Proofs.Ytcbkoecanldlpaa.P

theorem leaf_ev {s : List Int} (hs : RdS s) {p : Int} (h0 : 0 ≤ p) (h1 : p ≤ 1099511000000) : ∃ l q, l.length ≤ 9 ∧ (p ≤ q ∧ q ≤ p + 3) ∧ Ev (fun k => spec_l91Leaf.f k s p) (l, q) := by
  obtain ⟨a, ha, ea⟩ := pick_ev hs h0 (by omega) (n := 81) (by omega) (by omega)
  obtain ⟨b, hb, eb⟩ := pick_ev hs (p := p + 1) (by omega) (by omega) (n := 81) (by omega) (by omega)
  obtain ⟨c, hc, ec⟩ := pick_ev hs (p := p + 1 + 1) (by omega) (by omega) (n := 16) (by omega) (by omega)
  obtain ⟨d, hd, ed⟩ := pick_ev hs (p := p + 1 + 1) (by omega) (by omega) (n := 8) (by omega) (by omega)
  have es := specSum_ev (l := [a, b]) (show 2 ≤ 1048576 by omega)
  have hlen := sumR_length [a, b]
  have h9 : (sumR [a, b]).2 = true → (sumR [a, b]).1.length = 9 := sumR_nine
  generalize sumR [a, b] = R at es hlen h9
  by_cases hk : R.2 = true
  · have h9 := h9 hk
    by_cases c0 : c = 0
    · refine ⟨[] ++ R.1.drop 1, p + 1 + 1 + 1, by rw [List.nil_append, List.length_drop]; omega, by omega, ?_⟩
      unfold spec_l91Leaf.f
      exact Ev.bind ea (Ev.bind eb (Ev.bind es (Ev.pos hk (Ev.bind ec (Ev.pos c0 (Ev.fix rfl (Ev.pos (by omega) (Ev.fix rfl (Ev.pos (by rw [List.length_nil, List.length_drop]; omega) (Ev.done rfl))))))))))
    · refine ⟨R.1, p + 1 + 1 + 1, hlen, by omega, ?_⟩
      unfold spec_l91Leaf.f
      exact Ev.bind ea (Ev.bind eb (Ev.bind es (Ev.pos hk (Ev.bind ec (Ev.neg c0 (Ev.done rfl))))))
  · refine ⟨otherL (1 + d), p + 1 + 1 + 1, Nat.le_of_eq (other_len _ (by omega) (by omega)), by omega, ?_⟩
    unfold spec_l91Leaf.f
    refine Ev.bind ea (Ev.bind eb (Ev.bind es (Ev.neg hk (Ev.bind ed ?_))))
    dsimp only
    rw [w64 (x := 1 + d) (by omega) (by omega)]
    exact Ev.bind (other_ev _ (by omega) (by omega)) (Ev.done rfl)
end Go.Proofs.Ytcbkoecanldlpaa.X

set_option linter.unusedVariables false
set_option linter.unusedSimpArgs false
namespace Go.Proofs.Ytcbkoecanldlpaa.X
open Go.RowKit Go.Proofs.YtcbkoecanldlpaaW.PrintWords Go.Proofs.YtcbkoecanldlpaaW.PrintLast Go.Proofs.Ytcbkoecanldlpaa.P

def Few (l : List (List Int)) : Prop := l.length ≤ 10 ∧ ∀ a ∈ l, a.length ≤ 9
theorem spread_j0 {s : List Int} (hs : RdS s) {p : Int} (h0 : 0 ≤ p) (h1 : p ≤ 1099510900000) {l : List (List Int)} (hl : l.length = 10) (h9 : ∀ a ∈ l, a.length = 9) : ∃ l' q, Few l' ∧ (p ≤ q ∧ q ≤ p + 4) ∧ Ev (fun k => spec_l91Spread.j0 k l s p) (l', q) := by
  obtain ⟨a, ha, ea⟩ := pick_ev hs h0 (by omega) (n := 24) (by omega) (by omega)
  obtain ⟨f, q, hf, hq, ef⟩ := leaf_ev hs (p := p + 1) (by omega) (by omega)
  by_cases e : a = 0
  · refine ⟨l.set (3 : Int).toNat f, q, ⟨by rw [List.length_set]; omega, fun x hx => ?_⟩, by omega, ?_⟩
    · rcases List.mem_or_eq_of_mem_set hx with h | h
      · rw [h9 x h]; omega
      · rw [h]; exact hf
    · refine Ev.step (fun k => by rw [spec_l91Spread.j0]) ?_
      exact Ev.bind ea (Ev.pos e (Ev.bind ef (Ev.pos (by omega) (Ev.done rfl))))
  · refine ⟨l, p + 1, ⟨by omega, fun x hx => by rw [h9 x hx]; omega⟩, by omega, ?_⟩
    refine Ev.step (fun k => by rw [spec_l91Spread.j0]) ?_
    exact Ev.bind ea (Ev.neg e (Ev.done rfl))
theorem dspread_ev {s : List Int} (hs : RdS s) {p : Int} (h0 : 0 ≤ p) (h1 : p ≤ 1099510000000) : ∃ l q, Few l ∧ (p ≤ q ∧ q ≤ p + 20) ∧ Ev (fun k => spec_l91Spread.f k s p) (l, q) := by
  obtain ⟨t, q, ht, hq, et⟩ := system_ev hs h0 (by omega)
  have htl := ht.len
  have eo := specSpreadOf_ev (t := t) (by omega)
  by_cases hsy : sysB t = true
  case neg =>
    rw [show spreadR t = ([], false) from if_neg hsy] at eo
    refine ⟨[], q, ⟨by decide, fun a ha => by cases ha⟩, by omega, ?_⟩
    unfold spec_l91Spread.f
    exact Ev.bind et (Ev.bind eo (Ev.neg (by decide) (Ev.done rfl)))
  rw [show spreadR t = (spreadN t 9, true) from if_pos hsy] at eo
  obtain ⟨a, ha, ea⟩ := pick_ev hs (p := q) (by omega) (by omega) (n := 3) (by omega) (by omega)
  obtain ⟨l1, q1, hl1, hq1, e1⟩ := spread_j0 hs (p := q + 1) (by omega) (by omega) (spreadN_length t 9) (spreadN_nines t 9)
  by_cases e : a = 0
  · have ed := specDerive_ev (spreadN t 9)
    by_cases hd : spreadB (spreadN t 9) = true ∧ (restN (spreadN t 9) 10).length = 6
    · rw [show deriveR (spreadN t 9) = (deriveL (spreadN t 9), true) from if_pos hd] at ed
      obtain ⟨l2, q2, hl2, hq2, e2⟩ := spread_j0 hs (p := q + 1) (by omega) (by omega) (l := deriveL (spreadN t 9)) (by rw [deriveL_length]; omega) (deriveL_nines hd.1)
      refine ⟨l2, q2, hl2, by omega, ?_⟩
      unfold spec_l91Spread.f
      exact Ev.bind et (Ev.bind eo (Ev.pos rfl (Ev.bind ea (Ev.pos e (Ev.bind ed (Ev.pos rfl e2))))))
    · rw [show deriveR (spreadN t 9) = ([], false) from if_neg hd] at ed
      refine ⟨l1, q1, hl1, by omega, ?_⟩
      unfold spec_l91Spread.f
      exact Ev.bind et (Ev.bind eo (Ev.pos rfl (Ev.bind ea (Ev.pos e (Ev.bind ed (Ev.neg (by decide) e1))))))
  · refine ⟨l1, q1, hl1, by omega, ?_⟩
    unfold spec_l91Spread.f
    exact Ev.bind et (Ev.bind eo (Ev.pos rfl (Ev.bind ea (Ev.neg e e1))))
end Go.Proofs.Ytcbkoecanldlpaa.X

set_option linter.unusedVariables false
set_option linter.unusedSimpArgs false
namespace Go.Proofs.Ytcbkoecanldlpaa.Pure
open Go.RowKit Go.Proofs.Ytcbkoecanldlpaa.P Go.Proofs.YtcbkoecanldlpaaW.PrintWords Go.Proofs.YtcbkoecanldlpaaW.PrintLast Go.Proofs.Ytcbkoecanldlpaa.X

theorem drawSpreadIn_ev (l0 : List Int) (hu : ∀ x ∈ l0, (Lit.int .u8 x).wf = true) : ∃ l, Ev (fun k => spec_DrawSpreadIn.f k l0) l := by
  obtain ⟨s, hs, eo⟩ := open_ev l0 hu
  obtain ⟨l, q, hl, hq, el⟩ := dspread_ev hs (p := 0) (by omega) (by omega)
  refine ⟨l, ?_⟩
  unfold spec_DrawSpreadIn.f
  exact Ev.fix eo (Ev.bind el (Ev.done rfl))
def inN (l : List (List Int)) (x : Int) : Nat → Int
  | 0 => 0
  | n + 1 => inN l x n + (if x ∈ rd_LI l (n : Int) then 1 else 0)
def inK (l : List (List Int)) (i : Nat) (k : Int) (x : Int) : Int := inN l x i + (if x ∈ (rd_LI l (i : Int)).take k.toNat then 1 else 0)
theorem inN_range (l : List (List Int)) (x : Int) (n : Nat) : 0 ≤ inN l x n ∧ inN l x n ≤ n := by
  induction n with
  | zero => exact ⟨Int.le_refl _, Int.le_refl _⟩
  | succ n ih => unfold inN; split <;> omega
theorem inN_zero {l : List (List Int)} (h : spreadB l = true) (n : Nat) (hn : n ≤ 10) : inN l 0 n = n := by
  induction n with
  | zero => rfl
  | succ n ih =>
    have hf := spread_leaf h (i := (n : Int)) (by omega) (by omega)
    have h0 : (0 : Int) ∈ rd_LI l (n : Int) := by
      have := rd_mem (t := rd_LI l (n : Int)) (i := 0) (by have := (leafB_parts hf).1; omega) (by omega)
      rwa [leaf_zero hf] at this
    unfold inN
    rw [if_pos h0, ih (by omega)]; omega
theorem inN_one {l : List (List Int)} (h : spreadB l = true) {x : Int} (x0 : 0 < x) {j : Nat} (hj : j < 10) (hm : x ∈ rd_LI l (j : Int)) (n : Nat) (hn : n ≤ 10) : inN l x n = if j < n then 1 else 0 := by
  induction n with
  | zero => rw [if_neg (by omega)]; rfl
  | succ n ih =>
    unfold inN
    rw [ih (by omega)]
    by_cases e : j = n
    · subst e
      rw [if_neg (by omega), if_pos hm, if_pos (by omega)]; rfl
    · have hno : x ∉ rd_LI l (n : Int) := by
        intro h2
        rcases Nat.lt_or_gt_of_ne e with hlt | hgt
        · exact spread_apart h (i := (j : Int)) (j := (n : Int)) (by omega) (by omega) (by omega) x0 hm h2
        · exact spread_apart h (i := (n : Int)) (j := (j : Int)) (by omega) (by omega) (by omega) x0 h2 hm
      rw [if_neg hno]
      by_cases hlt : j < n
      · rw [if_pos hlt, if_pos (by omega)]; rfl
      · rw [if_neg hlt, if_neg (by omega)]; rfl
theorem same_all {l : List (List Int)} (h : spreadB l = true) (n : Nat) (hn : n ≤ 10) : sameN l l n = n := by
  have hl := (spreadB_parts h).1
  induction n with
  | zero => rfl
  | succ n ih =>
    unfold sameN
    rw [ih (by omega), if_pos (rdL_mem (by omega) (by omega))]; omega
theorem inK_full {l : List (List Int)} (h : spreadB l = true) {i : Nat} (hi : i < 10) (x : Int) : inK l i 9 x = inK l (i + 1) 0 x := by
  have h9 := (leafB_parts (spread_leaf h (i := (i : Int)) (by omega) (by omega))).1
  unfold inK
  rw [List.take_of_length_le (show (rd_LI l (i : Int)).length ≤ (9 : Int).toNat by rw [h9]; decide)]
  show _ = (inN l x i + (if x ∈ rd_LI l (i : Int) then 1 else 0)) + _
  simp
theorem set_mapI {n : Nat} {f g : Int → Int} {v w : Int} (v0 : 0 ≤ v) (v1 : v < n) (hv : g v = w) (h : ∀ x : Int, 0 ≤ x → x < n → x ≠ v → g x = f x) : (mapI n f).set v.toNat w = mapI n g := by
  apply ext_rd
  · rw [List.length_set, mapI_length, mapI_length]
  · intro j hj
    rw [List.length_set, mapI_length] at hj
    rw [rd_mapI (by omega) (by omega)]
    unfold rd
    rw [List.getD_eq_getElem?_getD, Int.toNat_natCast, List.getElem?_set]
    by_cases e : v.toNat = j
    · rw [if_pos e, if_pos (by rw [mapI_length]; omega)]
      rw [show (j : Int) = v by omega, hv]; rfl
    · rw [if_neg e, h j (by omega) (by omega) (by omega)]
      have := rd_mapI (n := n) (f := f) (i := (j : Int)) (by omega) (by omega)
      unfold rd at this
      rwa [List.getD_eq_getElem?_getD, Int.toNat_natCast] at this
theorem spread_l2 {l : List (List Int)} (h : spreadB l = true) {C : List Int} (hC : C = mapI 81 fun x => inN l x 10) (d : Nat) : ∀ x : Int, 1 ≤ x → x + d = 81 → Ev (fun k => laws_FnSpread.l2 k l C x) true := by
  have hCl : C.length = 81 := by rw [hC]; exact mapI_length _ _
  induction d with
  | zero =>
    intro x x0 x1
    have e := implSame_ev l l
    rw [show sameR l l = (10, true) by unfold sameR; rw [h, same_all h 10 (by omega)]; rfl] at e
    refine Ev.step (fun k => by rw [laws_FnSpread.l2]) ?_
    refine Ev.neg (by omega) (Ev.bind e (Ev.pos rfl (Ev.pos rfl (Ev.pos (by omega) (Ev.done ?_)))))
    rw [hC, rd_mapI (by omega) (by omega), inN_zero h 10 (by omega)]; rfl
  | succ d ih =>
    intro x x0 x1
    obtain ⟨j, j0, j1, hj⟩ := spread_cover h (g := x) (by omega) (by omega)
    have hone := inN_one h (x := x) (by omega) (j := j.toNat) (by omega) (by rw [Int.toNat_of_nonneg j0]; exact hj) 10 (by omega)
    rw [if_pos (by omega)] at hone
    refine Ev.step (fun k => by rw [laws_FnSpread.l2]) ?_
    rw [w64 (x := x + 1) (by omega) (by omega)]
    exact Ev.pos (by omega) (Ev.pos (by omega) (Ev.pos (by omega) (Ev.pos (by rw [hC, rd_mapI (by omega) (by omega)]; exact hone) (ih (x + 1) (by omega) (by omega)))))
theorem spread_l1 {l : List (List Int)} (h : spreadB l = true) {i : Nat} (hi : i < 10) (hr : Ev (fun k => laws_FnSpread.l0 k l (mapI 81 (inK l (i + 1) 0)) ((i : Int) + 1)) true) (d : Nat) : ∀ c : Int, 0 ≤ c → c + d = 9 → Ev (fun k => laws_FnSpread.l1 k l (mapI 81 (inK l i c)) (i : Int) c) true := by
  have hl := (spreadB_parts h).1
  have hf := spread_leaf h (i := (i : Int)) (by omega) (by omega)
  have h9 := (leafB_parts hf).1
  induction d with
  | zero =>
    intro c c0 c1
    obtain rfl : c = 9 := by omega
    refine Ev.step (fun k => by rw [laws_FnSpread.l1]) ?_
    rw [w64 (x := (i : Int) + 1) (by omega) (by omega), mapI_congr fun x _ => inK_full h hi (x : Int)]
    exact Ev.pos (by omega) (Ev.pos (by omega) (Ev.neg (by omega) hr))
  | succ d ih =>
    intro c c0 c1
    have nx := ih (c + 1) (by omega) (by omega)
    have hn := leaf_near hf (i := c) c0 (by omega)
    have et : (rd_LI l (i : Int)).take (c + 1).toNat = (rd_LI l (i : Int)).take c.toNat ++ [rd (rd_LI l (i : Int)) c] := by
      rw [show (c + 1).toNat = c.toNat + 1 by omega, List.take_add_one, List.getElem?_eq_getElem (by omega), Option.toList_some]
      rw [show (rd_LI l (i : Int))[c.toNat]'(by omega) = rd (rd_LI l (i : Int)) c from (rd_getElem c0 (by omega)).symm]
    have hnot := leaf_take hf c0 (show c < 9 by omega)
    have hrng := inN_range l (rd (rd_LI l (i : Int)) c) i
    have ev : rd (mapI 81 (inK l i c)) (rd (rd_LI l (i : Int)) c) = inN l (rd (rd_LI l (i : Int)) c) i := by
      rw [rd_mapI hn.1 hn.2]
      unfold inK
      rw [if_neg hnot]; omega
    have es : (mapI 81 (inK l i c)).set (rd (rd_LI l (i : Int)) c).toNat (inN l (rd (rd_LI l (i : Int)) c) i + 1) = mapI 81 (inK l i (c + 1)) := by
      refine set_mapI hn.1 hn.2 ?_ fun x x0 x1 hx => ?_
      · unfold inK
        rw [et, if_pos (List.mem_append.2 (.inr (List.mem_singleton.2 rfl)))]
      · unfold inK
        rw [et]
        by_cases hm : x ∈ (rd_LI l (i : Int)).take c.toNat
        · rw [if_pos hm, if_pos (List.mem_append.2 (.inl hm))]
        · rw [if_neg hm, if_neg fun h => (List.mem_append.1 h).elim hm fun h => hx (List.mem_singleton.1 h)]
    rw [← es] at nx
    refine Ev.step (fun k => by rw [laws_FnSpread.l1]) ?_
    rw [ev, w64 (x := c + 1) (by omega) (by omega), w64 (x := inN l (rd (rd_LI l (i : Int)) c) i + 1) (by omega) (by omega)]
    exact Ev.pos (by omega) (Ev.pos (by omega) (Ev.pos (by omega) (Ev.pos c0 (Ev.pos hn.1 (Ev.pos (by rw [mapI_length]; exact hn.2) nx)))))
theorem spread_l0 {l : List (List Int)} (h : spreadB l = true) (d : Nat) : ∀ i : Nat, i + d = 10 → Ev (fun k => laws_FnSpread.l0 k l (mapI 81 (inK l i 0)) (i : Int)) true := by
  have hl := (spreadB_parts h).1
  induction d with
  | zero =>
    intro i hi
    obtain rfl : i = 10 := by omega
    refine Ev.step (fun k => by rw [laws_FnSpread.l0]) ?_
    refine Ev.neg (by omega) (spread_l2 h (mapI_congr fun x _ => ?_) 80 1 (by omega) (by omega))
    unfold inK; simp
  | succ d ih =>
    intro i hi
    refine Ev.step (fun k => by rw [laws_FnSpread.l0]) ?_
    exact Ev.pos (by omega) (spread_l1 h (by omega) (ih (i + 1) (by omega)) 9 0 (by omega) (by omega))
theorem FnSpread : laws_FnSpread.Pure := by
  intro l0 _ _ hu
  refine Ev.rounds ?_
  unfold laws_FnSpread.f
  by_cases hb : (l0.length : Int) > 1048576
  · exact Ev.pos hb (Ev.done rfl)
  refine Ev.neg hb ?_
  obtain ⟨l, e⟩ := drawSpreadIn_ev l0 hu
  refine Ev.bind e ?_
  have hin : impl_SpreadIn.f l = some (spreadB l) := by
    unfold impl_SpreadIn.f
    rw [show impl_isSpread.f l = some (spreadB l) from rfl]; rfl
  refine Ev.fix hin (Ev.bind (specSpread_ev l) (Ev.neg (by simp) ?_))
  refine Ev.step (fun k => by rw [laws_FnSpread.j0]) ?_
  by_cases h : spreadB l = true
  case neg =>
    rw [Bool.eq_false_iff.2 h]
    exact Ev.pos (by decide) (Ev.done rfl)
  refine Ev.neg (by rw [h]; decide) (Ev.pos (by decide) ?_)
  have e0 : List.replicate 81 (0 : Int) = mapI 81 (inK l 0 0) := by
    apply List.ext_getElem
    · rw [List.length_replicate, mapI_length]
    · intro j h1 h2
      rw [List.getElem_replicate]
      have := rd_cast (mapI 81 (inK l 0 0)) j h2
      rw [← this, rd_mapI (by omega) (by rw [List.length_replicate] at h1; omega)]
      unfold inK inN; simp
  rw [e0]
  exact spread_l0 h 10 0 (by omega)
end Go.Proofs.Ytcbkoecanldlpaa.Pure

namespace Go.Proofs.YtcbkoecanldlpaaW.PrintWords
open Go.ChangeShapes Go.WideShapes
theorem sized_ints {H : Type} {enc : TypeId × Value → H} {P : Program} {W : World} {base : Nat} {spare : Nat → Bool} {held : Bool} {t e : TypeId} {k : IntKind} {a : Option Addr} {len cap : Nat} {d : DataW H} {ps : List MemPlace} {ts : List TypeId} {ds : List (DataW H)} {j : Nat}
    (hsz : (DataW.weightsEach P ts ds).all (· ≤ reachBytes) = true) (ht : ts[j]? = some t) (hd : ds[j]? = some d) (hu : P.underlying t = some (.slice e)) (he : P.underlying e = some (.int k)) (hc : P.cellsOf e = 1) {B : Nat} (hB : P.bytesOf e = B)
    (h : DataW.Trod enc P W base spare held t (.slice a len cap) d ps) : len * B ≤ 140737488351232 := by
  obtain ⟨fuel, hf⟩ := h
  rcases open_ints hu he hc hf with ⟨hcs, _⟩ | ⟨x, l, c, zs, hcs, _, hl, _, hz, hx, _, _⟩
  · simp [Value.cells] at hcs
    obtain ⟨rfl, rfl, rfl⟩ := hcs
    simp
  · simp [Value.cells] at hcs
    obtain ⟨rfl, rfl, rfl⟩ := hcs
    obtain ⟨hx, _⟩ := Prod.mk.inj hx
    subst hx
    have z := sized_slice hsz ht hd hu
    rw [hB] at z
    have hl2 : len ≤ zs.length := by
      rw [hz]
      split
      · exact hl
      · exact Nat.le_refl _
    have h1 : (lits (H := H) k (zs.take len)).length + (lits (H := H) k (zs.drop len)).length = zs.length := by
      simp [lits]
      omega
    rw [h1] at z
    exact Nat.le_trans (Nat.mul_le_mul_right _ hl2) z
end Go.Proofs.YtcbkoecanldlpaaW.PrintWords

namespace Go.Proofs.Ytcbkoecanldlpaa.fnSpread
open Go.ChangeShapes Go.WideShapes Go.ChangeAt Go.RowKit
open Go.ChangeMaps (open_string shut_string)
set_option linter.unusedVariables false
theorem own : ownKnob Try.prog.godebug = none := by kernel_rfl
theorem laidOut : laidOutB Try.prog = true := by kernel_rfl
def IsRow (k : IntKind) (w : World) (a : Option Addr) (len cap : Nat) (zs : List Int) : Prop :=
  (a = none ∧ len = 0 ∧ cap = 0 ∧ zs = []) ∨
  ∃ x, a = some x ∧ len ≤ cap ∧ cap ≤ maxLen ∧ zs.length = cap ∧ (∀ i, i < zs.length → w.cell? (x.add i) = some (.int k (zs.getD i 0))) ∧ ∀ n ∈ zs, (Lit.int k n).wf = true
set_option maxRecDepth 100000 in
theorem lifted (os : Os) (started : os.Started) (H : Type) (enc : TypeId × Value → H) :
    ReturnsInHanded {} Try.checked os 11 .any (Rows.fnSpreadSpec.pre6 enc Try.prog Try.f11 Rows.fnSpreadRow.domain false) (Rows.fnSpreadSpec.post enc Try.prog Try.f11 false true false false) := by
  refine returnsInHanded_of_change_sized (C := Try.checked) own started (by kernel_rfl) Try.func11
    (ChangeSpec.witness6 (enc := enc) (C := Try.checked) false ⟨#[], #[.slice none 0 0], []⟩ 8 (by kernel_rfl) (by kernel_rfl) (by kernel_rfl) (by kernel_rfl)) ?_
  intro W base args ds gs before hval0 hW hcnd hsz0 _
  have hsz : (DataW.weightsEach Try.prog (Try.f11.params.toList ++ Rows.fnSpreadSpec.plain.varTypes Try.prog) (ds ++ gs)).all (· ≤ reachBytes) = true := hsz0
  have hval : ∀ (j : Nat) t v, Try.f11.params[j]? = some t → args[j]? = some v → Value.okWide Try.prog W .any base t v := hval0
  have hW' := hW
  obtain ⟨p, q, hA0, hV, rfl, hfz, hnd⟩ := hW
  have hA : DataW.TrodAll enc Try.prog W 0 (fun _ => true) true Try.f11.params.toList args.toList ds p := hA0
  rw [Try.params11] at hA hval hsz
  obtain ⟨v0, vs0, d0, ds0, p0, q0, hargs, rfl, rfl, h0, r0⟩ := trodAll_cons hA
  obtain ⟨rfl, rfl, rfl⟩ := trodAll_nil r0
  obtain rfl : args = #[v0] := by cases args; simp_all
  obtain ⟨rfl, rfl⟩ := trodVars_none hV
  obtain ⟨a0, len0, cap0, rfl⟩ := okWide_slice Try.underlying22 (hval 0 22 v0 rfl rfl)
  have k0 := h0
  have lt0 : ∀ x ∈ p0, x.block < W.heap.size := by obtain ⟨m, hm⟩ := k0; exact DataW.trod_lt m _ _ _ hm
  obtain ⟨z0, w0⟩ : ∃ zs, IsRow .u8 W a0 len0 cap0 zs := by
    obtain ⟨fuel, hf⟩ := h0
    rcases open_ints Try.underlying22 Try.underlying5 (by kernel_rfl) hf with ⟨hcs, _⟩ | ⟨x, l, c, zs, hcs, _, hl, hm, hz, _, hcell, hwz⟩
    · simp [Value.cells] at hcs
      obtain ⟨rfl, rfl, rfl⟩ := hcs
      exact ⟨[], .inl ⟨rfl, rfl, rfl, rfl⟩⟩
    · simp [Value.cells] at hcs
      obtain ⟨rfl, rfl, rfl⟩ := hcs
      exact ⟨zs, .inr ⟨_, rfl, hl, hm, by simpa using hz, hcell, hwz⟩⟩
  have y0 : len0 * 1 ≤ 140737488351232 := Go.Proofs.YtcbkoecanldlpaaW.PrintWords.sized_ints hsz (j := 0) (t := 22) rfl rfl Try.underlying22 Try.underlying5 (by kernel_rfl) (by kernel_rfl) h0
  clear hA0 hval0 hsz0 hsz
  refine (P.laws_FnSpread.walk Pure.FnSpread a0 len0 cap0 z0 W w0 y0).mono fun e W' ⟨he, bel⟩ => ?_
  subst he
  exact ⟨_, rfl, _, _, _, [], _, [], hW', trodAll_mk1 (shut_bool Try.underlying4 _), (trodAll_cons_mk (Below.trod laidOut (by kernel_rfl) (of_decide_eq_true (by kernel_rfl)) k0 bel lt0) trodAll_mk0), rfl, bel.frame _, fun h => by cases h⟩
theorem over : Rows.fnSpreadRow.holds Try.pinned (OpenSpec.ofChange Rows.fnSpreadSpec) :=
  OpenClaim.holds_of_wide 11 Try.f11 rfl rfl rfl rfl rfl rfl rfl ⟨rfl, rfl, rfl, rfl, rfl⟩ rfl rfl rfl rfl rfl (by kernel_rfl) Try.func11 (by kernel_rfl)
    (of_decide_eq_true (by kernel_rfl)) (by unfold Func.isWrapper; first | (rw [if_pos (by decide +kernel)]; kernel_rfl) | (rw [if_neg (by decide +kernel)]; exact ⟨rfl, rfl⟩))
    (fun os started H enc _ => lifted os started H enc)
theorem proved : Rows.FnSpreadSaid := over
#print axioms proved
end Go.Proofs.Ytcbkoecanldlpaa.fnSpread
namespace Go.Proofs.Ytcbkoecanldlpaa
theorem fnSpread_holds : Rows.FnSpreadSaid := fnSpread.proved
end Go.Proofs.Ytcbkoecanldlpaa
