/- The law FnTwinCloses of the given program: for every input the call returns true, and each argument reads afterwards as it read before. No conditions. (Part 3 of 4; the last part holds the theorem.) -/
import Derived.Test.YtcbkoecanldlpaaMFnTwinCloses0
import Derived.Test.YtcbkoecanldlpaaMFnTwinCloses1
import Derived.Test.YtcbkoecanldlpaaWMore
namespace Go.Proofs.Ytcbkoecanldlpaa.P
open Go.RowKit Go.Proofs.YtcbkoecanldlpaaW.PrintWords Go.Proofs.YtcbkoecanldlpaaW.PrintLast
set_option linter.unusedVariables false
set_option linter.unusedSimpArgs false

mutual
def spec_l2Of.l0 : Nat → Int → List Int → Int → Option (List Int)
 | 0, _, _, _ => none
 | k + 1, x0, x3, x4 => if x4 < 9 then (spec_l2Of.l1 k x0 x3 x4 0) else (some x3)
def spec_l2Of.l1 : Nat → Int → List Int → Int → Int → Option (List Int)
 | 0, _, _, _, _ => none
 | k + 1, x0, x3, x4, x5 => if x5 < 9 then ((spec_l2Product.f k x0 x4 x5).bind fun t122 => (if x3.length < 17592186044416 then (spec_l2Of.l1 k x0 (x3 ++ [t122]) x4 (wrap64 (x5 + 1))) else (none))) else (spec_l2Of.l0 k x0 x3 (wrap64 (x4 + 1)))
end
def spec_l2Of.f (k : Nat) (a0 : Int) : Option (List Int) := spec_l2Of.l0 k a0 (([] : List Int)) 0
theorem spec_l2Of.mono_l : ∀ k, (∀ y0 y1 y2, LeO (spec_l2Of.l0 k y0 y1 y2) (spec_l2Of.l0 (k + 1) y0 y1 y2)) ∧ (∀ y0 y1 y2 y3, LeO (spec_l2Of.l1 k y0 y1 y2 y3) (spec_l2Of.l1 (k + 1) y0 y1 y2 y3))
 | 0 => ⟨fun _ _ _ r h => by simp [spec_l2Of.l0] at h, fun _ _ _ _ r h => by simp [spec_l2Of.l1] at h⟩
 | k + 1 => by
  obtain ⟨ih0, ih1⟩ := spec_l2Of.mono_l k
  refine ⟨?_, ?_⟩
  ·intro y0 y1 y2
   unfold spec_l2Of.l0
   repeat' first
   | (with_reducible exact ih0 _ _ _)
   | (with_reducible exact ih1 _ _ _ _)
   | (with_reducible exact spec_l2Product.mono _ _ _ _)
   | (with_reducible exact LeO.refl _)
   | (with_reducible exact LeO.none _)
   | (with_reducible refine LeO.ite ?_ ?_)
   | (with_reducible refine LeO.bind ?_ (fun _ => ?_))
   | exact ih0 _ _ _
   | exact ih1 _ _ _ _
   | exact spec_l2Product.mono _ _ _ _
   | exact LeO.none _
   | refine LeO.ite ?_ ?_
   | refine LeO.bind ?_ (fun _ => ?_)
  ·intro y0 y1 y2 y3
   unfold spec_l2Of.l1
   repeat' first
   | (with_reducible exact ih0 _ _ _)
   | (with_reducible exact ih1 _ _ _ _)
   | (with_reducible exact spec_l2Product.mono _ _ _ _)
   | (with_reducible exact LeO.refl _)
   | (with_reducible exact LeO.none _)
   | (with_reducible refine LeO.ite ?_ ?_)
   | (with_reducible refine LeO.bind ?_ (fun _ => ?_))
   | exact ih0 _ _ _
   | exact ih1 _ _ _ _
   | exact spec_l2Product.mono _ _ _ _
   | exact LeO.none _
   | refine LeO.ite ?_ ?_
   | refine LeO.bind ?_ (fun _ => ?_)
theorem spec_l2Of.mono : ∀ a0 k, LeO (spec_l2Of.f k a0) (spec_l2Of.f (k + 1) a0) := by
 intro a0 k
 obtain ⟨ih0, ih1⟩ := spec_l2Of.mono_l k
 unfold spec_l2Of.f
 repeat' first
   | (with_reducible exact ih0 _ _ _)
   | (with_reducible exact ih1 _ _ _ _)
   | (with_reducible exact spec_l2Product.mono _ _ _ _)
   | (with_reducible exact LeO.refl _)
   | (with_reducible exact LeO.none _)
   | (with_reducible refine LeO.ite ?_ ?_)
   | (with_reducible refine LeO.bind ?_ (fun _ => ?_))
   | exact ih0 _ _ _
   | exact ih1 _ _ _ _
   | exact spec_l2Product.mono _ _ _ _
   | exact LeO.none _
   | refine LeO.ite ?_ ?_
   | refine LeO.bind ?_ (fun _ => ?_)
set_option maxHeartbeats 8000000 in
set_option maxRecDepth 100000 in
theorem spec_l2Of.calls (k : Nat) (a0 : Int) (r : List Int) (w : World) (h : spec_l2Of.f k a0 = some r) :
  Calls Try.prog 136 #[.int .i64 a0] w fun e w' => ∃ v0_ : Value, e = .returned (v0_) ∧ Kd.R (Kd.int .i64) 3 w' w.heap.size (fun _ => True) v0_ r ∧ Below w.heap.size w w' := by
 have HB := Aside0.mk (Below.refl w.heap.size w)
 have H : (spec_l2Of.l0 k a0 (([] : List Int)) 0) = some r := h
 clear h
 obtain ⟨y119, hy119⟩ : ∃ y_ : List Int, y_ = (([] : List Int)) := ⟨_, rfl⟩
 replace H : (spec_l2Of.l0 k a0 y119 0) = some r := by first | (rw [hy119]; with_reducible exact H) | (have H2_ := (Option.bind_some _ _).symm.trans H; rw [hy119]; with_reducible exact H2_) | (have H2_ := (Option.bind_some _ _).symm.trans H; with_reducible exact H2_) | with_reducible exact H | (rw [hy119]; exact H) | exact H
 have Ny119 := Aside0.mk hy119
 clear hy119
 have H' := Aside0.mk H
 clear H
 go_enter Try.func136, Try.ntmps136
 go_wp2_with (first | ((with_reducible refine gate_dst (N := 6) rfl ?_); refine Kd.R_lit (Kd.int .i64) _ 3 ?hg (N := 6) ?hd (xs := ([] : List Int)) (inner := []) (ok := fun _ => True) (okp := fun _ => True) ?hr ?hp (fun _ hk => hk) trivial (Below.refl _ _) (Nat.le_refl _) (by simp) ?_; (case hd => rfl); (case hg => rfl); (case hr => first | (go_simp; done) | (go_simp; rfl)); (case hp => exact (Reps.none _ _)); intro v120 w2 ho3 hb hg_ hnew_; clear hg_ hnew_; (first | rw [← Ny119.out] at ho3 | (simp only [Int.reduceToNat] at ho3; rw [← Ny119.out] at ho3)); have n0_ := Aside0.mk (Kd.R_lower ho3 (below_size (bb_ HB))); have n1_ := Aside0.mk (below_step (bb_ HB) hb); clear HB; have HO121 := n0_; have HB := n1_; clear n0_ n1_; clear hb ho3))
 go_loopg [3, 4] k (fun kq v3 v4 w' => ∃ (x3_1 : List Int) (x4_1 : Int), v4 = .int .i64 x4_1 ∧ Aside0 (spec_l2Of.l0 kq a0 x3_1 x4_1 = some r) ∧ Aside0 (kq ≤ k) ∧ Aside0 (Kd.R (Kd.int .i64) 3 w' w.heap.size (fun _ => True) v3 x3_1) ∧ Aside0 (Below w.heap.size w w'))
 case atStart => exact ⟨(y119), (0), (by first | rfl | (simp; done) | (simp [*]; done)), H', ⟨Nat.le_refl _⟩, ⟨rr_ HO121⟩, ⟨by repeat (first | (with_reducible first | exact HB.out | apply below_alloc | apply pw_below_drewN | apply below_drew1) | exact HB.out)⟩⟩
 case round =>
  clear H'
  try clear c1
  try clear p2
  obtain ⟨x3_1, x4_1, rfl, HA, HK1, HO_3, HB⟩ := hrel
  cases gk with
  | zero => exact absurd HA.out (by simp [spec_l2Of.l0])
  | succ k1 =>
   have H := HA.out
   clear HA
   simp only [spec_l2Of.l0] at H
   by_cases c4 : x4_1 < 9
   ·rw [if_pos c4] at H
    have c4b0 : decide (x4_1 < 9) = true := decide_eq_true c4
    clear c4
    have H' := Aside0.mk H
    clear H
    go_wp2
    go_loopg [3, 5] k1 (fun kq v3 v5 w' => ∃ (x3_2 : List Int) (x5_2 : Int), v5 = .int .i64 x5_2 ∧ Aside0 (spec_l2Of.l1 kq a0 x3_2 x4_1 x5_2 = some r) ∧ Aside0 (kq ≤ k1) ∧ Aside0 (Kd.R (Kd.int .i64) 3 w' w.heap.size (fun _ => True) v3 x3_2) ∧ Aside0 (Below w.heap.size w w'))
    case atStart => exact ⟨(x3_1), (0), (by first | rfl | (simp; done) | (simp [*]; done)), H', ⟨Nat.le_refl _⟩, ⟨rr_ HO_3⟩, ⟨by repeat (first | (with_reducible first | exact HB.out | apply below_alloc | apply pw_below_drewN | apply below_drew1) | exact HB.out)⟩⟩
    case round =>
     clear H'
     try clear c1
     try clear p2
     try clear c4
     try clear c4b0
     try clear p2
     obtain ⟨x3_2, x5_2, rfl, HA, HK2, HO_3, HB⟩ := hrel
     cases gk with
     | zero => exact absurd HA.out (by simp [spec_l2Of.l1])
     | succ k2 =>
      have H := HA.out
      clear HA
      simp only [spec_l2Of.l1] at H
      by_cases c5 : x5_2 < 9
      ·rw [if_pos c5] at H
       have c5b0 : decide (x5_2 < 9) = true := decide_eq_true c5
       clear c5
       replace H := Option.bind_eq_some_iff.mp H
       obtain ⟨t122, A60, H⟩ := H
       replace H : (if x3_2.length < 17592186044416 then (spec_l2Of.l1 k2 a0 (x3_2 ++ [t122]) x4_1 (wrap64 (x5_2 + 1))) else (none)) = some r := H
       have A6 := Aside0.mk A60
       clear A60
       by_cases c7 : x3_2.length < 17592186044416
       ·rw [if_pos c7] at H
        have LMc7 := Aside0.mk c7
        clear c7
        obtain ⟨y123, hy123⟩ : ∃ y_ : List Int, y_ = (x3_2 ++ [t122]) := ⟨_, rfl⟩
        replace H : (spec_l2Of.l1 k2 a0 y123 x4_1 (wrap64 (x5_2 + 1))) = some r := by first | (rw [hy123]; with_reducible exact H) | (have H2_ := (Option.bind_some _ _).symm.trans H; rw [hy123]; with_reducible exact H2_) | (have H2_ := (Option.bind_some _ _).symm.trans H; with_reducible exact H2_) | with_reducible exact H | (rw [hy123]; exact H) | exact H
        have Ny123 := Aside0.mk hy123
        clear hy123
        have H' := Aside0.mk H
        clear H
        go_wp2_with (first | (refine goesL_ (some 19) rfl rfl Try.func166 (by kernel_rfl) rfl #[.int .i64 a0, .int .i64 x4_1, .int .i64 x5_2] rfl ll_ ?_; (with_reducible refine (spec_l2Product.calls k2 a0 x4_1 x5_2 t122 _ A6.out).mono ?_); rintro e w' ⟨rfl, ⟨nd, rfl⟩⟩; refine ⟨_, rfl, ?_⟩) | (at_builtin; refine Kd.R_append (Kd.int .i64) (w0 := w) w.heap.size rfl (.tmp 15) (.tmp 20) 23 3 (.int .i64 0) 8 rfl Try.underlying23 info3 rfl (by decide) (by omega) u3 x3_2 t122 [.int .i64 t122] (fun _ => True) (fun _ => False) rfl rfl ?aP (fun _ hk => hk.elim) ?aF ?aO ?aB ?aS ?aL ?_; (case aP => exact rfl); (case aB => exact (bb_ HB)); (case aF => exact (fun _ _ => trivial)); (case aO => exact (rr_ HO_3)); (case aS => exact (below_size (bb_ HB))); (case aL => have := LMc7.out; omega); intro v124 w8 ho hb hg hat; rw [← Ny123.out] at ho; have n0_ := Aside0.mk (hb); have n1_ := Aside0.mk (ho); clear HB; clear HO_3; have HB := n0_; have HO125 := n1_; clear n0_ n1_; clear ho hb hg hat))
        go_roundg k2
        case measure => have := HK1.out; have := HK2.out; omega
        case rel => exact ⟨(y123), (wrap64 (x5_2 + 1)), (by first | rfl | (simp; done) | (simp [*]; done)), H', ⟨by have := HK1.out; have := HK2.out; omega⟩, ⟨rr_ HO125⟩, ⟨by repeat (first | (with_reducible first | exact HB.out | apply below_alloc | apply pw_below_drewN | apply below_drew1) | exact HB.out)⟩⟩
       ·rw [if_neg c7] at H
        exact absurd H (by simp)
      ·rw [if_neg c5] at H
       have c5b0 : decide (x5_2 < 9) = false := decide_eq_false c5
       clear c5
       have H' := Aside0.mk H
       clear H
       go_wp2
       go_roundg k2
       case measure => have := HK1.out; have := HK2.out; omega
       case rel => exact ⟨(x3_2), (wrap64 (x4_1 + 1)), (by first | rfl | (simp; done) | (simp [*]; done)), H', ⟨by have := HK1.out; have := HK2.out; omega⟩, ⟨rr_ HO_3⟩, ⟨by repeat (first | (with_reducible first | exact HB.out | apply below_alloc | apply pw_below_drewN | apply below_drew1) | exact HB.out)⟩⟩
   ·rw [if_neg c4] at H
    have c4b0 : decide (x4_1 < 9) = false := decide_eq_false c4
    clear c4
    obtain rfl := Option.some.inj H
    go_wp2
    go_ret
    exact ⟨_, ee_, by (with_reducible repeat (first | apply Kd.R_alloc | apply Kd.R_drewN | apply Kd.R_drew)); exact HO_3.out, bb_ HB⟩
end Go.Proofs.Ytcbkoecanldlpaa.P

namespace Go.Proofs.Ytcbkoecanldlpaa.P
open Go.RowKit Go.Proofs.YtcbkoecanldlpaaW.PrintWords Go.Proofs.YtcbkoecanldlpaaW.PrintLast
set_option linter.unusedVariables false
set_option linter.unusedSimpArgs false

def spec_l91System.f (k : Nat) (s0_0 : List Int) (s0_1 : Int) : Option (List Int × Int) := (spec_l6Rd_pick.f k s0_0 s0_1 5).bind fun bt126 => ((spec_l2Of.f k bt126.1).bind fun t128 => ((spec_l6Rd_pick.f k s0_0 bt126.2 30).bind fun bt131 => (if bt131.1 = 0 then ((spec_l6Rd_pick.f k s0_0 bt131.2 9).bind fun bt133 => ((spec_l6Rd_pick.f k s0_0 bt133.2 9).bind fun bt135 => ((spec_l6Rd_pick.f k s0_0 bt135.2 9).bind fun bt137 => (if 0 ≤ (wrap64 ((wrap64 (9 * bt133.1)) + bt135.1)) then (if (wrap64 ((wrap64 (9 * bt133.1)) + bt135.1)) < (t128.length : Int) then (some ((t128.set ((wrap64 ((wrap64 (9 * bt133.1)) + bt135.1)) : Int).toNat bt137.1), bt137.2)) else (none)) else (none))))) else (if bt131.1 = 1 then (if 80 ≤ (t128.length : Int) then (some ((t128.take (80 : Int).toNat), bt131.2)) else (none)) else (some (t128, bt131.2))))))
set_option maxHeartbeats 8000000 in
set_option maxRecDepth 100000 in
theorem spec_l91System.calls (k : Nat) (g : Nat) (s0_0 : List Int) (s0_1 : Int) (r1 : List Int) (r2 : Int) (w0 w : World) (hI : IsS76 w0 w g s0_0 s0_1) (hB : Below w0.heap.size w0 w) (h : spec_l91System.f k s0_0 s0_1 = some (r1, r2)) :
  Calls Try.prog 77 #[.pointer (some ⟨g, 0, none⟩)] w fun e w' => ∃ v0_ : Value, e = .returned (v0_) ∧ Kd.R (Kd.int .i64) 3 w' w.heap.size (fun _ => True) v0_ r1 ∧ IsS76 w0 w' g s0_0 r2 ∧ Below w0.heap.size w0 w' ∧ KeepBut w w' g none := by
 have HI0 := Aside0.mk hI
 have HK := Aside0.mk (KeepBut.refl w g none)
 have HL := Aside0.mk hB.size
 clear hI
 have HW0 := Aside0.mk hB.size
 have HB := Aside0.mk hB
 clear hB
 have H : ((spec_l6Rd_pick.f k s0_0 s0_1 5).bind fun bt126 => ((spec_l2Of.f k bt126.1).bind fun t128 => ((spec_l6Rd_pick.f k s0_0 bt126.2 30).bind fun bt131 => (if bt131.1 = 0 then ((spec_l6Rd_pick.f k s0_0 bt131.2 9).bind fun bt133 => ((spec_l6Rd_pick.f k s0_0 bt133.2 9).bind fun bt135 => ((spec_l6Rd_pick.f k s0_0 bt135.2 9).bind fun bt137 => (if 0 ≤ (wrap64 ((wrap64 (9 * bt133.1)) + bt135.1)) then (if (wrap64 ((wrap64 (9 * bt133.1)) + bt135.1)) < (t128.length : Int) then (some ((t128.set ((wrap64 ((wrap64 (9 * bt133.1)) + bt135.1)) : Int).toNat bt137.1), bt137.2)) else (none)) else (none))))) else (if bt131.1 = 1 then (if 80 ≤ (t128.length : Int) then (some ((t128.take (80 : Int).toNat), bt131.2)) else (none)) else (some (t128, bt131.2))))))) = some (r1, r2) := h
 clear h
 replace H := Option.bind_eq_some_iff.mp H
 obtain ⟨⟨t126, t127⟩, A20, H⟩ := H
 replace H : ((spec_l2Of.f k t126).bind fun t128 => ((spec_l6Rd_pick.f k s0_0 t127 30).bind fun bt131 => (if bt131.1 = 0 then ((spec_l6Rd_pick.f k s0_0 bt131.2 9).bind fun bt133 => ((spec_l6Rd_pick.f k s0_0 bt133.2 9).bind fun bt135 => ((spec_l6Rd_pick.f k s0_0 bt135.2 9).bind fun bt137 => (if 0 ≤ (wrap64 ((wrap64 (9 * bt133.1)) + bt135.1)) then (if (wrap64 ((wrap64 (9 * bt133.1)) + bt135.1)) < (t128.length : Int) then (some ((t128.set ((wrap64 ((wrap64 (9 * bt133.1)) + bt135.1)) : Int).toNat bt137.1), bt137.2)) else (none)) else (none))))) else (if bt131.1 = 1 then (if 80 ≤ (t128.length : Int) then (some ((t128.take (80 : Int).toNat), bt131.2)) else (none)) else (some (t128, bt131.2)))))) = some (r1, r2) := H
 have A2 := Aside0.mk A20
 clear A20
 replace H := Option.bind_eq_some_iff.mp H
 obtain ⟨t128, A30, H⟩ := H
 replace H : ((spec_l6Rd_pick.f k s0_0 t127 30).bind fun bt131 => (if bt131.1 = 0 then ((spec_l6Rd_pick.f k s0_0 bt131.2 9).bind fun bt133 => ((spec_l6Rd_pick.f k s0_0 bt133.2 9).bind fun bt135 => ((spec_l6Rd_pick.f k s0_0 bt135.2 9).bind fun bt137 => (if 0 ≤ (wrap64 ((wrap64 (9 * bt133.1)) + bt135.1)) then (if (wrap64 ((wrap64 (9 * bt133.1)) + bt135.1)) < (t128.length : Int) then (some ((t128.set ((wrap64 ((wrap64 (9 * bt133.1)) + bt135.1)) : Int).toNat bt137.1), bt137.2)) else (none)) else (none))))) else (if bt131.1 = 1 then (if 80 ≤ (t128.length : Int) then (some ((t128.take (80 : Int).toNat), bt131.2)) else (none)) else (some (t128, bt131.2))))) = some (r1, r2) := H
 have A3 := Aside0.mk A30
 clear A30
 replace H := Option.bind_eq_some_iff.mp H
 obtain ⟨⟨t131, t132⟩, A40, H⟩ := H
 replace H : (if t131 = 0 then ((spec_l6Rd_pick.f k s0_0 t132 9).bind fun bt133 => ((spec_l6Rd_pick.f k s0_0 bt133.2 9).bind fun bt135 => ((spec_l6Rd_pick.f k s0_0 bt135.2 9).bind fun bt137 => (if 0 ≤ (wrap64 ((wrap64 (9 * bt133.1)) + bt135.1)) then (if (wrap64 ((wrap64 (9 * bt133.1)) + bt135.1)) < (t128.length : Int) then (some ((t128.set ((wrap64 ((wrap64 (9 * bt133.1)) + bt135.1)) : Int).toNat bt137.1), bt137.2)) else (none)) else (none))))) else (if t131 = 1 then (if 80 ≤ (t128.length : Int) then (some ((t128.take (80 : Int).toNat), t132)) else (none)) else (some (t128, t132)))) = some (r1, r2) := H
 have A4 := Aside0.mk A40
 clear A40
 by_cases c5 : t131 = 0
 ·rw [if_pos c5] at H
  have c5b0 : (t131 == 0) = true := beq_iff_eq.mpr c5
  have c5b1 : (t131 != 0) = false := bne_eq_false_iff_eq.mpr c5
  clear c5
  replace H := Option.bind_eq_some_iff.mp H
  obtain ⟨⟨t133, t134⟩, A60, H⟩ := H
  replace H : ((spec_l6Rd_pick.f k s0_0 t134 9).bind fun bt135 => ((spec_l6Rd_pick.f k s0_0 bt135.2 9).bind fun bt137 => (if 0 ≤ (wrap64 ((wrap64 (9 * t133)) + bt135.1)) then (if (wrap64 ((wrap64 (9 * t133)) + bt135.1)) < (t128.length : Int) then (some ((t128.set ((wrap64 ((wrap64 (9 * t133)) + bt135.1)) : Int).toNat bt137.1), bt137.2)) else (none)) else (none)))) = some (r1, r2) := H
  have A6 := Aside0.mk A60
  clear A60
  replace H := Option.bind_eq_some_iff.mp H
  obtain ⟨⟨t135, t136⟩, A70, H⟩ := H
  replace H : ((spec_l6Rd_pick.f k s0_0 t136 9).bind fun bt137 => (if 0 ≤ (wrap64 ((wrap64 (9 * t133)) + t135)) then (if (wrap64 ((wrap64 (9 * t133)) + t135)) < (t128.length : Int) then (some ((t128.set ((wrap64 ((wrap64 (9 * t133)) + t135)) : Int).toNat bt137.1), bt137.2)) else (none)) else (none))) = some (r1, r2) := H
  have A7 := Aside0.mk A70
  clear A70
  replace H := Option.bind_eq_some_iff.mp H
  obtain ⟨⟨t137, t138⟩, A80, H⟩ := H
  replace H : (if 0 ≤ (wrap64 ((wrap64 (9 * t133)) + t135)) then (if (wrap64 ((wrap64 (9 * t133)) + t135)) < (t128.length : Int) then (some ((t128.set ((wrap64 ((wrap64 (9 * t133)) + t135)) : Int).toNat t137), t138)) else (none)) else (none)) = some (r1, r2) := H
  have A8 := Aside0.mk A80
  clear A80
  obtain ⟨ji9, hji9⟩ : ∃ j_ : Int, (wrap64 ((wrap64 (9 * t133)) + t135)) = j_ := ⟨_, rfl⟩
  replace H : (if 0 ≤ (ji9) then (if (ji9) < (t128.length : Int) then (some ((t128.set ((ji9) : Int).toNat t137), t138)) else (none)) else (none)) = some (r1, r2) := by first | (rw [hji9] at H; exact H) | (simp only [hji9] at H ⊢; exact H)
  (try rw [hji9] at A2)
  (try rw [hji9] at A3)
  (try rw [hji9] at A4)
  (try rw [hji9] at A6)
  (try rw [hji9] at A7)
  (try rw [hji9] at A8)
  have hji9w : (IntKind.i64.wrap ((wrap64 (9 * t133)) + t135)) = ji9 := (i64_w _).trans hji9
  by_cases c10 : 0 ≤ (ji9)
  ·rw [if_pos c10] at H
   have c10b0 : decide (0 ≤ (ji9)) = true := decide_eq_true c10
   clear c10
   by_cases c11 : (ji9) < (t128.length : Int)
   ·rw [if_pos c11] at H
    have c11b0 : decide ((ji9) < (t128.length : Int)) = true := decide_eq_true c11
    clear c11
    obtain ⟨y139, hy139⟩ : ∃ y_ : List Int, y_ = (t128.set ((ji9) : Int).toNat t137) := ⟨_, rfl⟩
    replace H : (some (y139, t138)) = some (r1, r2) := by first | (rw [hy139]; with_reducible exact H) | (have H2_ := (Option.bind_some _ _).symm.trans H; rw [hy139]; with_reducible exact H2_) | (have H2_ := (Option.bind_some _ _).symm.trans H; with_reducible exact H2_) | with_reducible exact H | (rw [hy139]; exact H) | exact H
    have Ny139 := Aside0.mk hy139
    clear hy139
    simp only [Option.some.injEq, Prod.mk.injEq] at H
    obtain ⟨rfl, rfl⟩ := H
    go_enter Try.func77, Try.ntmps77
    go_wp2_with (first | (refine goesL_ (some 5) rfl rfl Try.func79 (by kernel_rfl) rfl #[.pointer (some ⟨g, 0, none⟩), .int .i64 5] rfl ll_ ?_; (with_reducible refine (spec_l6Rd_pick.calls k g s0_0 s0_1 5 t126 t127 w0 _ ?side1 ?side2 A2.out).mono ?_); (case side1 => repeat (first | (with_reducible first | exact HI0.out | apply IsS76.alloc | apply IsS76.drewN | apply IsS76.drew | apply IsS76.set_1) | exact HI0.out)); (case side2 => repeat (first | (with_reducible first | exact HB.out | apply below_alloc | apply pw_below_drewN | apply below_drew1 | refine below_set ?_ (IsS76.ge HI0.out)) | exact HB.out)); rintro e w13 ⟨rfl, hi, hb, hk⟩; refine ⟨_, rfl, ?_⟩; have n0_ := Aside0.mk (KeepBut.trans (by repeat (first | (with_reducible first | exact HK.out | apply KeepBut.set_ | apply keep_drewN | apply keep_drew | apply keep_alloc) | exact HK.out)) hk (.inl rfl)); have n1_ := Aside0.mk (hb); have n2_ := Aside0.mk (hi); clear HK; clear HB; clear HI0; have HK := n0_; have HB := n1_; have HI0 := n2_; clear n0_ n1_ n2_; (try clear hb); (try clear hb2); (try clear hk); (try clear hi)) | (refine goesL_ (some 6) rfl rfl Try.func136 (by kernel_rfl) rfl #[.int .i64 t126] rfl ll_ ?_; (with_reducible refine (spec_l2Of.calls k t126 t128 _ A3.out).mono ?_); rintro e w14 ⟨v129, rfl, ho0, hb⟩; refine ⟨_, rfl, ?_⟩; have n0_ := Aside0.mk (Kd.R_lower ho0 (keep_size (w := w) (g := g) (row := none) (by repeat (first | (with_reducible first | exact HK.out | apply KeepBut.set_ | apply keep_drewN | apply keep_drew | apply keep_alloc) | exact HK.out)))); have n1_ := Aside0.mk (IsS76.below (by repeat (first | (with_reducible first | exact HI0.out | apply IsS76.alloc | apply IsS76.drewN | apply IsS76.drew | apply IsS76.set_1) | exact HI0.out)) hb); have n2_ := Aside0.mk (KeepBut.trans (by repeat (first | (with_reducible first | exact HK.out | apply KeepBut.set_ | apply keep_drewN | apply keep_drew | apply keep_alloc) | exact HK.out)) (KeepBut.of_below hb g none) (.inl rfl)); have n3_ := Aside0.mk (below_step (by repeat (first | (with_reducible first | exact HB.out | apply below_alloc | apply pw_below_drewN | apply below_drew1 | refine below_set ?_ (IsS76.ge HI0.out)) | exact HB.out)) hb); clear HI0; clear HK; clear HB; have HO130 := n0_; have HI0 := n1_; have HK := n2_; have HB := n3_; clear n0_ n1_ n2_ n3_; (try clear hb); (try clear hb2); (try clear hk); (try clear hi); (try clear ho0)) | (refine goesL_ (some 8) rfl rfl Try.func79 (by kernel_rfl) rfl #[.pointer (some ⟨g, 0, none⟩), .int .i64 30] rfl ll_ ?_; (with_reducible refine (spec_l6Rd_pick.calls k g s0_0 t127 30 t131 t132 w0 _ ?side1 ?side2 A4.out).mono ?_); (case side1 => repeat (first | (with_reducible first | exact HI0.out | apply IsS76.alloc | apply IsS76.drewN | apply IsS76.drew | apply IsS76.set_1) | exact HI0.out)); (case side2 => repeat (first | (with_reducible first | exact HB.out | apply below_alloc | apply pw_below_drewN | apply below_drew1 | refine below_set ?_ (IsS76.ge HI0.out)) | exact HB.out)); rintro e w15 ⟨rfl, hi, hb, hk⟩; refine ⟨_, rfl, ?_⟩; have n0_ := Aside0.mk (Kd.R_mono (Kd.R_keep (IsS76.apart (show IsS76 w0 _ g s0_0 t127 from by repeat (first | (with_reducible first | exact HI0.out | apply IsS76.alloc | apply IsS76.drewN | apply IsS76.drew | apply IsS76.set_1) | exact HI0.out)) (rr_ HO130) (by decide)) hk (fun _ h => h.2)) (fun _ h => h.1)); have n1_ := Aside0.mk (KeepBut.trans (by repeat (first | (with_reducible first | exact HK.out | apply KeepBut.set_ | apply keep_drewN | apply keep_drew | apply keep_alloc) | exact HK.out)) hk (.inl rfl)); have n2_ := Aside0.mk (hb); have n3_ := Aside0.mk (hi); clear HO130; clear HK; clear HB; clear HI0; have HO130 := n0_; have HK := n1_; have HB := n2_; have HI0 := n3_; clear n0_ n1_ n2_ n3_; (try clear hb); (try clear hb2); (try clear hk); (try clear hi)) | (refine goesL_ (some 13) rfl rfl Try.func79 (by kernel_rfl) rfl #[.pointer (some ⟨g, 0, none⟩), .int .i64 9] rfl ll_ ?_; (with_reducible refine (spec_l6Rd_pick.calls k g s0_0 t132 9 t133 t134 w0 _ ?side1 ?side2 A6.out).mono ?_); (case side1 => repeat (first | (with_reducible first | exact HI0.out | apply IsS76.alloc | apply IsS76.drewN | apply IsS76.drew | apply IsS76.set_1) | exact HI0.out)); (case side2 => repeat (first | (with_reducible first | exact HB.out | apply below_alloc | apply pw_below_drewN | apply below_drew1 | refine below_set ?_ (IsS76.ge HI0.out)) | exact HB.out)); rintro e w16 ⟨rfl, hi, hb, hk⟩; refine ⟨_, rfl, ?_⟩; have n0_ := Aside0.mk (Kd.R_mono (Kd.R_keep (IsS76.apart (show IsS76 w0 _ g s0_0 t132 from by repeat (first | (with_reducible first | exact HI0.out | apply IsS76.alloc | apply IsS76.drewN | apply IsS76.drew | apply IsS76.set_1) | exact HI0.out)) (rr_ HO130) (by decide)) hk (fun _ h => h.2)) (fun _ h => h.1)); have n1_ := Aside0.mk (KeepBut.trans (by repeat (first | (with_reducible first | exact HK.out | apply KeepBut.set_ | apply keep_drewN | apply keep_drew | apply keep_alloc) | exact HK.out)) hk (.inl rfl)); have n2_ := Aside0.mk (hb); have n3_ := Aside0.mk (hi); clear HO130; clear HK; clear HB; clear HI0; have HO130 := n0_; have HK := n1_; have HB := n2_; have HI0 := n3_; clear n0_ n1_ n2_ n3_; (try clear hb); (try clear hb2); (try clear hk); (try clear hi)) | (refine goesL_ (some 16) rfl rfl Try.func79 (by kernel_rfl) rfl #[.pointer (some ⟨g, 0, none⟩), .int .i64 9] rfl ll_ ?_; (with_reducible refine (spec_l6Rd_pick.calls k g s0_0 t134 9 t135 t136 w0 _ ?side1 ?side2 A7.out).mono ?_); (case side1 => repeat (first | (with_reducible first | exact HI0.out | apply IsS76.alloc | apply IsS76.drewN | apply IsS76.drew | apply IsS76.set_1) | exact HI0.out)); (case side2 => repeat (first | (with_reducible first | exact HB.out | apply below_alloc | apply pw_below_drewN | apply below_drew1 | refine below_set ?_ (IsS76.ge HI0.out)) | exact HB.out)); rintro e w17 ⟨rfl, hi, hb, hk⟩; refine ⟨_, rfl, ?_⟩; have n0_ := Aside0.mk (Kd.R_mono (Kd.R_keep (IsS76.apart (show IsS76 w0 _ g s0_0 t134 from by repeat (first | (with_reducible first | exact HI0.out | apply IsS76.alloc | apply IsS76.drewN | apply IsS76.drew | apply IsS76.set_1) | exact HI0.out)) (rr_ HO130) (by decide)) hk (fun _ h => h.2)) (fun _ h => h.1)); have n1_ := Aside0.mk (KeepBut.trans (by repeat (first | (with_reducible first | exact HK.out | apply KeepBut.set_ | apply keep_drewN | apply keep_drew | apply keep_alloc) | exact HK.out)) hk (.inl rfl)); have n2_ := Aside0.mk (hb); have n3_ := Aside0.mk (hi); clear HO130; clear HK; clear HB; clear HI0; have HO130 := n0_; have HK := n1_; have HB := n2_; have HI0 := n3_; clear n0_ n1_ n2_ n3_; (try clear hb); (try clear hb2); (try clear hk); (try clear hi)) | (refine goesL_ (some 19) rfl rfl Try.func79 (by kernel_rfl) rfl #[.pointer (some ⟨g, 0, none⟩), .int .i64 9] rfl ll_ ?_; (with_reducible refine (spec_l6Rd_pick.calls k g s0_0 t136 9 t137 t138 w0 _ ?side1 ?side2 A8.out).mono ?_); (case side1 => repeat (first | (with_reducible first | exact HI0.out | apply IsS76.alloc | apply IsS76.drewN | apply IsS76.drew | apply IsS76.set_1) | exact HI0.out)); (case side2 => repeat (first | (with_reducible first | exact HB.out | apply below_alloc | apply pw_below_drewN | apply below_drew1 | refine below_set ?_ (IsS76.ge HI0.out)) | exact HB.out)); rintro e w18 ⟨rfl, hi, hb, hk⟩; refine ⟨_, rfl, ?_⟩; have n0_ := Aside0.mk (Kd.R_mono (Kd.R_keep (IsS76.apart (show IsS76 w0 _ g s0_0 t136 from by repeat (first | (with_reducible first | exact HI0.out | apply IsS76.alloc | apply IsS76.drewN | apply IsS76.drew | apply IsS76.set_1) | exact HI0.out)) (rr_ HO130) (by decide)) hk (fun _ h => h.2)) (fun _ h => h.1)); have n1_ := Aside0.mk (KeepBut.trans (by repeat (first | (with_reducible first | exact HK.out | apply KeepBut.set_ | apply keep_drewN | apply keep_drew | apply keep_alloc) | exact HK.out)) hk (.inl rfl)); have n2_ := Aside0.mk (hb); have n3_ := Aside0.mk (hi); clear HO130; clear HK; clear HB; clear HI0; have HO130 := n0_; have HK := n1_; have HB := n2_; have HI0 := n3_; clear n0_ n1_ n2_ n3_; (try clear hb); (try clear hb2); (try clear hk); (try clear hi); have p12 : 0 ≤ ((ji9) : Int) := dd_; have q12 : ((ji9) : Int) < ((t128.length : Int) : Int) := dd_; obtain ⟨go12, co12, eo12, gb12, gl12, cl12, HG12⟩ := Kd.R_form HO130.out (by omega); (first | cases eo12 | (injection eo12 with ea_ en_ ec_; (first | subst ea_ | (injection ea_ with ea_; subst ea_)); subst ec_; clear en_)); have GB12 := Aside0.mk gb12; have GG12 := Aside0.mk HG12; clear gb12 gl12 HG12; obtain ⟨hx12_0, hf12_0⟩ := Kd.R_celln 0 HO130.out ((ji9) : Int) p12 q12; replace p12 := eq_true p12; replace q12 := eq_true q12; obtain ⟨hy19_, hz19_⟩ := Kd.R_celln 0 HO130.out ((ji9) : Int) (dd_) (dd_); have HP19 := Kd.R_putg HO130.out ((ji9) : Int) t137) | ((with_reducible refine gate_store (t := 3) (p := 20) rfl ?_); refine store_event (t := 3) (p := 20) (v := ?vo_w20) (w1 := (w18.setCell ⟨go12, ((ji9) : Int).toNat, none⟩ (.int .i64 t137))) ?hg ?ho ?hn ?hr ?_; (case ho => rfl); (case hg => rfl); (case hn => rfl); (case hr => first | (go_simp; done) | (go_simp; rfl)); intro w20 hw; have hg : w18.grownBy w20 (some go12) := (by rw [hw]; exact HP19.2); have hp_ : Kd.R (Kd.int .i64) 3 w20 w.heap.size (fun _ => True) (.slice (some ⟨go12, 0, none⟩) t128.length co12) y139 := (by rw [hw, Ny139.out]; exact HP19.1); clear HP19; have n0_ := Aside0.mk (IsS76.grown (by repeat (first | (with_reducible first | exact HI0.out | apply IsS76.alloc | apply IsS76.drewN | apply IsS76.drew | apply IsS76.set_1) | exact HI0.out)) hg (IsS76.own_ne HI0.out HO130.out (by decide))); have n1_ := Aside0.mk (hp_); have n2_ := Aside0.mk ((by rw [hw]; exact below_set (HB.out) (Nat.le_trans HL.out GB12.out) : Below w0.heap.size w0 w20)); have n3_ := Aside0.mk (KeepBut.trans (by repeat (first | (with_reducible first | exact HK.out | apply KeepBut.set_ | apply keep_drewN | apply keep_drew | apply keep_alloc) | exact HK.out)) (KeepBut.of_grown hg g) (Kd.R_base2 HO130.out)); clear HI0; clear HO130; clear HB; clear HK; have HI0 := n0_; have HO130 := n1_; have HB := n2_; have HK := n3_; clear n0_ n1_ n2_ n3_; clear hg hw hp_))
    go_ret
    exact ⟨_, by first | rfl | (simp [errW_none, errW_some] <;> rfl) | (simp only [← hji9]; first | rfl | (simp [errW_none, errW_some] <;> rfl)) | (simp [*, errW_none, errW_some] <;> rfl), by (with_reducible repeat (first | apply Kd.R_alloc | apply Kd.R_drewN | apply Kd.R_drew)); exact HO130.out, by repeat (first | (with_reducible first | exact HI0.out | apply IsS76.alloc | apply IsS76.drewN | apply IsS76.drew | apply IsS76.set_1) | exact HI0.out), by repeat (first | (with_reducible first | exact HB.out | apply below_alloc | apply pw_below_drewN | apply below_drew1 | refine below_set ?_ (IsS76.ge HI0.out)) | exact HB.out), by repeat (first | (with_reducible first | exact HK.out | apply KeepBut.set_ | apply keep_drewN | apply keep_drew | apply keep_alloc) | exact HK.out)⟩
   ·rw [if_neg c11] at H
    exact absurd H (by simp)
  ·rw [if_neg c10] at H
   exact absurd H (by simp)
 ·rw [if_neg c5] at H
  have c5b0 : (t131 == 0) = false := beq_eq_false_iff_ne.mpr c5
  have c5b1 : (t131 != 0) = true := bne_iff_ne.mpr c5
  by_cases c21 : t131 = 1
  ·rw [if_pos c21] at H
   have c21b0 : (t131 == 1) = true := beq_iff_eq.mpr c21
   have c21b1 : (t131 != 1) = false := bne_eq_false_iff_eq.mpr c21
   clear c21
   by_cases c22 : 80 ≤ (t128.length : Int)
   ·rw [if_pos c22] at H
    have c22b0 := eq_true c22
    have c22b1 : decide (80 ≤ (t128.length : Int)) = true := decide_eq_true c22
    clear c22
    obtain ⟨y140, hy140⟩ : ∃ y_ : List Int, y_ = (t128.take (80 : Int).toNat) := ⟨_, rfl⟩
    replace H : (some (y140, t132)) = some (r1, r2) := by first | (rw [hy140]; with_reducible exact H) | (have H2_ := (Option.bind_some _ _).symm.trans H; rw [hy140]; with_reducible exact H2_) | (have H2_ := (Option.bind_some _ _).symm.trans H; with_reducible exact H2_) | with_reducible exact H | (rw [hy140]; exact H) | exact H
    have Ny140 := Aside0.mk hy140
    clear hy140
    simp only [Option.some.injEq, Prod.mk.injEq] at H
    obtain ⟨rfl, rfl⟩ := H
    go_enter Try.func77, Try.ntmps77
    go_wp2_with (first | (refine goesL_ (some 5) rfl rfl Try.func79 (by kernel_rfl) rfl #[.pointer (some ⟨g, 0, none⟩), .int .i64 5] rfl ll_ ?_; (with_reducible refine (spec_l6Rd_pick.calls k g s0_0 s0_1 5 t126 t127 w0 _ ?side1 ?side2 A2.out).mono ?_); (case side1 => repeat (first | (with_reducible first | exact HI0.out | apply IsS76.alloc | apply IsS76.drewN | apply IsS76.drew | apply IsS76.set_1) | exact HI0.out)); (case side2 => repeat (first | (with_reducible first | exact HB.out | apply below_alloc | apply pw_below_drewN | apply below_drew1 | refine below_set ?_ (IsS76.ge HI0.out)) | exact HB.out)); rintro e w23 ⟨rfl, hi, hb, hk⟩; refine ⟨_, rfl, ?_⟩; have n0_ := Aside0.mk (KeepBut.trans (by repeat (first | (with_reducible first | exact HK.out | apply KeepBut.set_ | apply keep_drewN | apply keep_drew | apply keep_alloc) | exact HK.out)) hk (.inl rfl)); have n1_ := Aside0.mk (hb); have n2_ := Aside0.mk (hi); clear HK; clear HB; clear HI0; have HK := n0_; have HB := n1_; have HI0 := n2_; clear n0_ n1_ n2_; (try clear hb); (try clear hb2); (try clear hk); (try clear hi)) | (refine goesL_ (some 6) rfl rfl Try.func136 (by kernel_rfl) rfl #[.int .i64 t126] rfl ll_ ?_; (with_reducible refine (spec_l2Of.calls k t126 t128 _ A3.out).mono ?_); rintro e w24 ⟨v129, rfl, ho0, hb⟩; refine ⟨_, rfl, ?_⟩; have n0_ := Aside0.mk (Kd.R_lower ho0 (keep_size (w := w) (g := g) (row := none) (by repeat (first | (with_reducible first | exact HK.out | apply KeepBut.set_ | apply keep_drewN | apply keep_drew | apply keep_alloc) | exact HK.out)))); have n1_ := Aside0.mk (IsS76.below (by repeat (first | (with_reducible first | exact HI0.out | apply IsS76.alloc | apply IsS76.drewN | apply IsS76.drew | apply IsS76.set_1) | exact HI0.out)) hb); have n2_ := Aside0.mk (KeepBut.trans (by repeat (first | (with_reducible first | exact HK.out | apply KeepBut.set_ | apply keep_drewN | apply keep_drew | apply keep_alloc) | exact HK.out)) (KeepBut.of_below hb g none) (.inl rfl)); have n3_ := Aside0.mk (below_step (by repeat (first | (with_reducible first | exact HB.out | apply below_alloc | apply pw_below_drewN | apply below_drew1 | refine below_set ?_ (IsS76.ge HI0.out)) | exact HB.out)) hb); clear HI0; clear HK; clear HB; have HO130 := n0_; have HI0 := n1_; have HK := n2_; have HB := n3_; clear n0_ n1_ n2_ n3_; (try clear hb); (try clear hb2); (try clear hk); (try clear hi); (try clear ho0)) | (refine goesL_ (some 8) rfl rfl Try.func79 (by kernel_rfl) rfl #[.pointer (some ⟨g, 0, none⟩), .int .i64 30] rfl ll_ ?_; (with_reducible refine (spec_l6Rd_pick.calls k g s0_0 t127 30 t131 t132 w0 _ ?side1 ?side2 A4.out).mono ?_); (case side1 => repeat (first | (with_reducible first | exact HI0.out | apply IsS76.alloc | apply IsS76.drewN | apply IsS76.drew | apply IsS76.set_1) | exact HI0.out)); (case side2 => repeat (first | (with_reducible first | exact HB.out | apply below_alloc | apply pw_below_drewN | apply below_drew1 | refine below_set ?_ (IsS76.ge HI0.out)) | exact HB.out)); rintro e w25 ⟨rfl, hi, hb, hk⟩; refine ⟨_, rfl, ?_⟩; have n0_ := Aside0.mk (Kd.R_mono (Kd.R_keep (IsS76.apart (show IsS76 w0 _ g s0_0 t127 from by repeat (first | (with_reducible first | exact HI0.out | apply IsS76.alloc | apply IsS76.drewN | apply IsS76.drew | apply IsS76.set_1) | exact HI0.out)) (rr_ HO130) (by decide)) hk (fun _ h => h.2)) (fun _ h => h.1)); have n1_ := Aside0.mk (KeepBut.trans (by repeat (first | (with_reducible first | exact HK.out | apply KeepBut.set_ | apply keep_drewN | apply keep_drew | apply keep_alloc) | exact HK.out)) hk (.inl rfl)); have n2_ := Aside0.mk (hb); have n3_ := Aside0.mk (hi); clear HO130; clear HK; clear HB; clear HI0; have HO130 := n0_; have HK := n1_; have HB := n2_; have HI0 := n3_; clear n0_ n1_ n2_ n3_; (try clear hb); (try clear hb2); (try clear hk); (try clear hi); obtain ⟨Ao26, co26, eo26⟩ := Kd.R_slice HO130.out; subst eo26; have q27 : (80 : Int) ≤ ((t128.length : Int) : Int) := dd_; obtain ⟨i027, hi027, _, hsz27, _⟩ := info_parts info3; have hcut27 := cut_to (P := Try.prog) 23 3 .i64 Try.underlying23 hi027 Ao26 t128.length co26 80 (by omega) q27 (Kd.R_reads' HO130.out).2.1; have hr27 := Kd.R_take (m := (80 : Int).toNat) HO130.out (by omega); have hy27 : y140.length = (80 : Int).toNat := (by rw [Ny140.out, List.length_take]; omega); rw [← Ny140.out] at hr27; rw [← hy27] at hr27 hcut27; clear hy27 hi027 hsz27 HO130; have HO142 := Aside0.mk hr27; clear hr27; replace q27 := eq_true q27))
    go_ret
    exact ⟨_, ee_, by (with_reducible repeat (first | apply Kd.R_alloc | apply Kd.R_drewN | apply Kd.R_drew)); exact HO142.out, by repeat (first | (with_reducible first | exact HI0.out | apply IsS76.alloc | apply IsS76.drewN | apply IsS76.drew | apply IsS76.set_1) | exact HI0.out), by repeat (first | (with_reducible first | exact HB.out | apply below_alloc | apply pw_below_drewN | apply below_drew1 | refine below_set ?_ (IsS76.ge HI0.out)) | exact HB.out), by repeat (first | (with_reducible first | exact HK.out | apply KeepBut.set_ | apply keep_drewN | apply keep_drew | apply keep_alloc) | exact HK.out)⟩
   ·rw [if_neg c22] at H
    exact absurd H (by simp)
  ·rw [if_neg c21] at H
   have c21b0 : (t131 == 1) = false := beq_eq_false_iff_ne.mpr c21
   have c21b1 : (t131 != 1) = true := bne_iff_ne.mpr c21
   simp only [Option.some.injEq, Prod.mk.injEq] at H
   obtain ⟨rfl, rfl⟩ := H
   go_enter Try.func77, Try.ntmps77
   go_wp2_with (first | (refine goesL_ (some 5) rfl rfl Try.func79 (by kernel_rfl) rfl #[.pointer (some ⟨g, 0, none⟩), .int .i64 5] rfl ll_ ?_; (with_reducible refine (spec_l6Rd_pick.calls k g s0_0 s0_1 5 t126 t127 w0 _ ?side1 ?side2 A2.out).mono ?_); (case side1 => repeat (first | (with_reducible first | exact HI0.out | apply IsS76.alloc | apply IsS76.drewN | apply IsS76.drew | apply IsS76.set_1) | exact HI0.out)); (case side2 => repeat (first | (with_reducible first | exact HB.out | apply below_alloc | apply pw_below_drewN | apply below_drew1 | refine below_set ?_ (IsS76.ge HI0.out)) | exact HB.out)); rintro e w28 ⟨rfl, hi, hb, hk⟩; refine ⟨_, rfl, ?_⟩; have n0_ := Aside0.mk (KeepBut.trans (by repeat (first | (with_reducible first | exact HK.out | apply KeepBut.set_ | apply keep_drewN | apply keep_drew | apply keep_alloc) | exact HK.out)) hk (.inl rfl)); have n1_ := Aside0.mk (hb); have n2_ := Aside0.mk (hi); clear HK; clear HB; clear HI0; have HK := n0_; have HB := n1_; have HI0 := n2_; clear n0_ n1_ n2_; (try clear hb); (try clear hb2); (try clear hk); (try clear hi)) | (refine goesL_ (some 6) rfl rfl Try.func136 (by kernel_rfl) rfl #[.int .i64 t126] rfl ll_ ?_; (with_reducible refine (spec_l2Of.calls k t126 t128 _ A3.out).mono ?_); rintro e w29 ⟨v129, rfl, ho0, hb⟩; refine ⟨_, rfl, ?_⟩; have n0_ := Aside0.mk (Kd.R_lower ho0 (keep_size (w := w) (g := g) (row := none) (by repeat (first | (with_reducible first | exact HK.out | apply KeepBut.set_ | apply keep_drewN | apply keep_drew | apply keep_alloc) | exact HK.out)))); have n1_ := Aside0.mk (IsS76.below (by repeat (first | (with_reducible first | exact HI0.out | apply IsS76.alloc | apply IsS76.drewN | apply IsS76.drew | apply IsS76.set_1) | exact HI0.out)) hb); have n2_ := Aside0.mk (KeepBut.trans (by repeat (first | (with_reducible first | exact HK.out | apply KeepBut.set_ | apply keep_drewN | apply keep_drew | apply keep_alloc) | exact HK.out)) (KeepBut.of_below hb g none) (.inl rfl)); have n3_ := Aside0.mk (below_step (by repeat (first | (with_reducible first | exact HB.out | apply below_alloc | apply pw_below_drewN | apply below_drew1 | refine below_set ?_ (IsS76.ge HI0.out)) | exact HB.out)) hb); clear HI0; clear HK; clear HB; have HO130 := n0_; have HI0 := n1_; have HK := n2_; have HB := n3_; clear n0_ n1_ n2_ n3_; (try clear hb); (try clear hb2); (try clear hk); (try clear hi); (try clear ho0)) | (refine goesL_ (some 8) rfl rfl Try.func79 (by kernel_rfl) rfl #[.pointer (some ⟨g, 0, none⟩), .int .i64 30] rfl ll_ ?_; (with_reducible refine (spec_l6Rd_pick.calls k g s0_0 t127 30 t131 t132 w0 _ ?side1 ?side2 A4.out).mono ?_); (case side1 => repeat (first | (with_reducible first | exact HI0.out | apply IsS76.alloc | apply IsS76.drewN | apply IsS76.drew | apply IsS76.set_1) | exact HI0.out)); (case side2 => repeat (first | (with_reducible first | exact HB.out | apply below_alloc | apply pw_below_drewN | apply below_drew1 | refine below_set ?_ (IsS76.ge HI0.out)) | exact HB.out)); rintro e w30 ⟨rfl, hi, hb, hk⟩; refine ⟨_, rfl, ?_⟩; have n0_ := Aside0.mk (Kd.R_mono (Kd.R_keep (IsS76.apart (show IsS76 w0 _ g s0_0 t127 from by repeat (first | (with_reducible first | exact HI0.out | apply IsS76.alloc | apply IsS76.drewN | apply IsS76.drew | apply IsS76.set_1) | exact HI0.out)) (rr_ HO130) (by decide)) hk (fun _ h => h.2)) (fun _ h => h.1)); have n1_ := Aside0.mk (KeepBut.trans (by repeat (first | (with_reducible first | exact HK.out | apply KeepBut.set_ | apply keep_drewN | apply keep_drew | apply keep_alloc) | exact HK.out)) hk (.inl rfl)); have n2_ := Aside0.mk (hb); have n3_ := Aside0.mk (hi); clear HO130; clear HK; clear HB; clear HI0; have HO130 := n0_; have HK := n1_; have HB := n2_; have HI0 := n3_; clear n0_ n1_ n2_ n3_; (try clear hb); (try clear hb2); (try clear hk); (try clear hi)))
   go_ret
   exact ⟨_, ee_, by (with_reducible repeat (first | apply Kd.R_alloc | apply Kd.R_drewN | apply Kd.R_drew)); exact HO130.out, by repeat (first | (with_reducible first | exact HI0.out | apply IsS76.alloc | apply IsS76.drewN | apply IsS76.drew | apply IsS76.set_1) | exact HI0.out), by repeat (first | (with_reducible first | exact HB.out | apply below_alloc | apply pw_below_drewN | apply below_drew1 | refine below_set ?_ (IsS76.ge HI0.out)) | exact HB.out), by repeat (first | (with_reducible first | exact HK.out | apply KeepBut.set_ | apply keep_drewN | apply keep_drew | apply keep_alloc) | exact HK.out)⟩
end Go.Proofs.Ytcbkoecanldlpaa.P

namespace Go.Proofs.Ytcbkoecanldlpaa.P
open Go.RowKit Go.Proofs.YtcbkoecanldlpaaW.PrintWords Go.Proofs.YtcbkoecanldlpaaW.PrintLast Go.Proofs.YtcbkoecanldlpaaW.PrintMore
set_option linter.unusedVariables false
set_option linter.unusedSimpArgs false

mutual
def spec_l91Twin.j0 : Nat → List Int → List Int → List Int → Int → Option (List Int × List Int)
 | 0, _, _, _, _ => none
 | k + 1, x5, x6, x201000, x201001 => spec_l91Twin.l0 k x5 x6 1 x201000 x201001
def spec_l91Twin.l0 : Nat → List Int → List Int → Int → List Int → Int → Option (List Int × List Int)
 | 0, _, _, _, _, _ => none
 | k + 1, x5, x6, x7, x201000, x201001 => if x7 ≤ 3 then (if 0 < (x6.length : Int) then (if 0 ≤ x7 then (if x7 < (x6.length : Int) then ((spec_PlaneJoin.f k x5 (rd x6 0) (rd x6 x7)).bind fun bt216 => ((spec_l6Rd_pick.f k x201000 x201001 91).bind fun bt218 => (if bt216.2 = true then ((spec_l6Rd_pick.f k x201000 bt218.2 20).bind fun bt220 => (if bt220.1 > 0 then ((spec_l91On.f k x201000 bt220.2 x5 bt216.1).bind fun bt222 => (if x6.length < 17592186044416 then (spec_l91Twin.l0 k x5 (x6 ++ [bt222.1]) (wrap64 (x7 + 1)) x201000 bt222.2) else (none))) else (if x6.length < 17592186044416 then (spec_l91Twin.l0 k x5 (x6 ++ [bt218.1]) (wrap64 (x7 + 1)) x201000 bt220.2) else (none)))) else (if x6.length < 17592186044416 then (spec_l91Twin.l0 k x5 (x6 ++ [bt218.1]) (wrap64 (x7 + 1)) x201000 bt218.2) else (none))))) else (none)) else (none)) else (none)) else (some (x5, x6))
end
def spec_l91Twin.f (k : Nat) (l0 : List Int) : Option (List Int × List Int) := (spec_l6Open.f l0).bind fun bt198 => ((spec_l91System.f k bt198.1 bt198.2).bind fun bt201 => ((spec_l91Quad.f k bt198.1 bt201.2).bind fun bt205 => ((spec_l6Rd_pick.f k bt198.1 bt205.2 4).bind fun bt209 => (if bt209.1 = 0 then ((spec_l6Rd_pick.f k bt198.1 bt209.2 10).bind fun bt211 => (if 0 < (bt205.1.length : Int) then (spec_l91Twin.j0 k bt201.1 (bt205.1.set (0 : Int).toNat (wrap64 (81 + bt211.1))) bt198.1 bt211.2) else (none))) else (spec_l91Twin.j0 k bt201.1 bt205.1 bt198.1 bt209.2)))))
def spec_l91Twin.T9 : Bool × List (List Nat × List Nat) := (true, [([], []), ([], []), ([1], [1]), ([2], [2]), ([], []), ([], []), ([4, 5], [4, 5]), ([6], [6]), ([0, 3, 7], [0, 3, 7]), ([8], [8]), ([9], [9]), ([9], [9]), ([10, 8, 0, 1, 2, 3, 4, 5, 6, 7, 8, 9, 10], [10]), ([11, 12, 0, 1, 2, 3, 4, 5, 6, 7, 8, 9, 10, 11, 12], [11])])
def spec_l91Twin.B9 : List Nat := [0, 0, 2, 6, 0, 0, 48, 112, 255, 511, 1023, 1023, 2047, 8191]
theorem spec_l91Twin.tab9 : rtab .any (opsOf Try.f60 9) = spec_l91Twin.T9 := by kernel_rfl
theorem spec_l91Twin.bits9 : waitsOk spec_l91Twin.T9.2 spec_l91Twin.B9 = true := by kernel_rfl
set_option maxHeartbeats 8000000 in
set_option maxRecDepth 100000 in
theorem spec_l91Twin.calls (k : Nat) (A0 : Option Addr) (c0 : Nat) (l0 : List Int) (r1 : List Int) (r2 : List Int) (w : World) (hr0 : Kd.C (Kd.int .u8) w A0 l0.length l0) (hc0 : l0.length ≤ c0) (h : spec_l91Twin.f k l0 = some (r1, r2)) :
  Calls Try.prog 60 #[.slice A0 l0.length c0] w fun e w' => ∃ v0_ v1_ : Value, e = .returned (.tuple #[v0_, v1_]) ∧ Kd.R (Kd.int .i64) 3 w' w.heap.size (fun k_ => some k_ ≠ (v1_ : Value).ownBlock) v0_ r1 ∧ Kd.R (Kd.int .i64) 3 w' w.heap.size (fun k_ => some k_ ≠ (v0_ : Value).ownBlock) v1_ r2 ∧ Below w.heap.size w w' := by
 have HR0 := Aside0.mk hr0
 have HC0 := Aside0.mk hc0
 clear hr0 hc0
 have HB := Aside0.mk (Below.refl w.heap.size w)
 have H : ((spec_l6Open.f l0).bind fun bt198 => ((spec_l91System.f k bt198.1 bt198.2).bind fun bt201 => ((spec_l91Quad.f k bt198.1 bt201.2).bind fun bt205 => ((spec_l6Rd_pick.f k bt198.1 bt205.2 4).bind fun bt209 => (if bt209.1 = 0 then ((spec_l6Rd_pick.f k bt198.1 bt209.2 10).bind fun bt211 => (if 0 < (bt205.1.length : Int) then (spec_l91Twin.j0 k bt201.1 (bt205.1.set (0 : Int).toNat (wrap64 (81 + bt211.1))) bt198.1 bt211.2) else (none))) else (spec_l91Twin.j0 k bt201.1 bt205.1 bt198.1 bt209.2)))))) = some (r1, r2) := h
 clear h
 replace H := Option.bind_eq_some_iff.mp H
 obtain ⟨⟨t198, t199⟩, A20, H⟩ := H
 replace H : ((spec_l91System.f k t198 t199).bind fun bt201 => ((spec_l91Quad.f k t198 bt201.2).bind fun bt205 => ((spec_l6Rd_pick.f k t198 bt205.2 4).bind fun bt209 => (if bt209.1 = 0 then ((spec_l6Rd_pick.f k t198 bt209.2 10).bind fun bt211 => (if 0 < (bt205.1.length : Int) then (spec_l91Twin.j0 k bt201.1 (bt205.1.set (0 : Int).toNat (wrap64 (81 + bt211.1))) t198 bt211.2) else (none))) else (spec_l91Twin.j0 k bt201.1 bt205.1 t198 bt209.2))))) = some (r1, r2) := H
 have A2 := Aside0.mk A20
 clear A20
 replace H := Option.bind_eq_some_iff.mp H
 obtain ⟨⟨t201, t204⟩, A30, H⟩ := H
 replace H : ((spec_l91Quad.f k t198 t204).bind fun bt205 => ((spec_l6Rd_pick.f k t198 bt205.2 4).bind fun bt209 => (if bt209.1 = 0 then ((spec_l6Rd_pick.f k t198 bt209.2 10).bind fun bt211 => (if 0 < (bt205.1.length : Int) then (spec_l91Twin.j0 k t201 (bt205.1.set (0 : Int).toNat (wrap64 (81 + bt211.1))) t198 bt211.2) else (none))) else (spec_l91Twin.j0 k t201 bt205.1 t198 bt209.2)))) = some (r1, r2) := H
 have A3 := Aside0.mk A30
 clear A30
 replace H := Option.bind_eq_some_iff.mp H
 obtain ⟨⟨t205, t208⟩, A40, H⟩ := H
 replace H : ((spec_l6Rd_pick.f k t198 t208 4).bind fun bt209 => (if bt209.1 = 0 then ((spec_l6Rd_pick.f k t198 bt209.2 10).bind fun bt211 => (if 0 < (t205.length : Int) then (spec_l91Twin.j0 k t201 (t205.set (0 : Int).toNat (wrap64 (81 + bt211.1))) t198 bt211.2) else (none))) else (spec_l91Twin.j0 k t201 t205 t198 bt209.2))) = some (r1, r2) := H
 have A4 := Aside0.mk A40
 clear A40
 replace H := Option.bind_eq_some_iff.mp H
 obtain ⟨⟨t209, t210⟩, A50, H⟩ := H
 replace H : (if t209 = 0 then ((spec_l6Rd_pick.f k t198 t210 10).bind fun bt211 => (if 0 < (t205.length : Int) then (spec_l91Twin.j0 k t201 (t205.set (0 : Int).toNat (wrap64 (81 + bt211.1))) t198 bt211.2) else (none))) else (spec_l91Twin.j0 k t201 t205 t198 t210)) = some (r1, r2) := H
 have A5 := Aside0.mk A50
 clear A50
 have HC6 := Aside0.mk H
 clear H
 go_enter Try.func60, Try.ntmps60
 go_upto_if 19 with (first | (refine goesL_ (some 12) rfl rfl Try.func76 (by kernel_rfl) rfl #[.slice A0 l0.length c0] rfl ll_ ?_; (with_reducible refine (spec_l6Open.calls _ _ l0 t198 t199 w _ ?side1 ?side2 ?side3 A2.out).mono ?_); (case side1 => repeat (first | (with_reducible first | exact HB.out | apply below_alloc | apply pw_below_drewN | apply below_drew1) | exact HB.out)); (case side2 => exact HR0.out); (case side3 => exact HC0.out); rintro e w7 ⟨g200, rfl, hi, hb, hb2⟩; refine ⟨_, rfl, ?_⟩; have n0_ := Aside0.mk (hb); have n1_ := Aside0.mk (hi); clear HB; have HB := n0_; have HI200 := n1_; clear n0_ n1_; (try clear hb); (try clear hb2); (try clear hk); (try clear hi)) | (refine goesL_ (some 14) rfl rfl Try.func77 (by kernel_rfl) rfl #[.pointer (some ⟨g200, 0, none⟩)] rfl ll_ ?_; (with_reducible refine (spec_l91System.calls k g200 t198 t199 t201 t204 w _ ?side1 ?side2 A3.out).mono ?_); (case side1 => repeat (first | (with_reducible first | exact HI200.out | apply IsS76.alloc | apply IsS76.drewN | apply IsS76.drew | apply IsS76.set_1) | exact HI200.out)); (case side2 => repeat (first | (with_reducible first | exact HB.out | apply below_alloc | apply pw_below_drewN | apply below_drew1 | refine below_set ?_ (IsS76.ge HI200.out)) | exact HB.out)); rintro e w8 ⟨v202, rfl, ho0, hi, hb, hk⟩; refine ⟨_, rfl, ?_⟩; have n0_ := Aside0.mk (Kd.R_lower ho0 (below_size (by repeat (first | (with_reducible first | exact HB.out | apply below_alloc | apply pw_below_drewN | apply below_drew1 | refine below_set ?_ (IsS76.ge HI200.out)) | exact HB.out)))); have n1_ := Aside0.mk (hb); have n2_ := Aside0.mk (hi); clear HB; clear HI200; have HO203 := n0_; have HB := n1_; have HI200 := n2_; clear n0_ n1_ n2_; (try clear hb); (try clear hb2); (try clear hk); (try clear hi); (try clear ho0)) | (refine goesL_ (some 16) rfl rfl Try.func78 (by kernel_rfl) rfl #[.pointer (some ⟨g200, 0, none⟩)] rfl ll_ ?_; (with_reducible refine (spec_l91Quad.calls k g200 t198 t204 t205 t208 w _ ?side1 ?side2 A4.out).mono ?_); (case side1 => repeat (first | (with_reducible first | exact HI200.out | apply IsS76.alloc | apply IsS76.drewN | apply IsS76.drew | apply IsS76.set_1) | exact HI200.out)); (case side2 => repeat (first | (with_reducible first | exact HB.out | apply below_alloc | apply pw_below_drewN | apply below_drew1 | refine below_set ?_ (IsS76.ge HI200.out)) | exact HB.out)); rintro e w9 ⟨v206, rfl, ho0, hi, hb, hk⟩; refine ⟨_, rfl, ?_⟩; have n0_ := Aside0.mk (Kd.R_mono (Kd.R_told (Kd.R_oldK (IsS76.apart (show IsS76 w _ g200 t198 t204 from by repeat (first | (with_reducible first | exact HI200.out | apply IsS76.alloc | apply IsS76.drewN | apply IsS76.drew | apply IsS76.set_1) | exact HI200.out)) (rr_ HO203) (by decide)) hk) (Kd.R_base ho0)) (fun _ h_ => h_.1)); have n1_ := Aside0.mk (Kd.R_lower (Kd.R_new' ho0 (Kd.R_lt (rr_ HO203))) (below_size (by repeat (first | (with_reducible first | exact HB.out | apply below_alloc | apply pw_below_drewN | apply below_drew1 | refine below_set ?_ (IsS76.ge HI200.out)) | exact HB.out)))); have n2_ := Aside0.mk (hb); have n3_ := Aside0.mk (hi); clear HO203; clear HB; clear HI200; have HO203 := n0_; have HO207 := n1_; have HB := n2_; have HI200 := n3_; clear n0_ n1_ n2_ n3_; (try clear hb); (try clear hb2); (try clear hk); (try clear hi); (try clear ho0)) | (refine goesL_ (some 18) rfl rfl Try.func79 (by kernel_rfl) rfl #[.pointer (some ⟨g200, 0, none⟩), .int .i64 4] rfl ll_ ?_; (with_reducible refine (spec_l6Rd_pick.calls k g200 t198 t208 4 t209 t210 w _ ?side1 ?side2 A5.out).mono ?_); (case side1 => repeat (first | (with_reducible first | exact HI200.out | apply IsS76.alloc | apply IsS76.drewN | apply IsS76.drew | apply IsS76.set_1) | exact HI200.out)); (case side2 => repeat (first | (with_reducible first | exact HB.out | apply below_alloc | apply pw_below_drewN | apply below_drew1 | refine below_set ?_ (IsS76.ge HI200.out)) | exact HB.out)); rintro e w10 ⟨rfl, hi, hb, hk⟩; refine ⟨_, rfl, ?_⟩; have n0_ := Aside0.mk (Kd.R_mono (Kd.R_keep (IsS76.apart (show IsS76 w _ g200 t198 t208 from by repeat (first | (with_reducible first | exact HI200.out | apply IsS76.alloc | apply IsS76.drewN | apply IsS76.drew | apply IsS76.set_1) | exact HI200.out)) (rr_ HO203) (by decide)) hk (fun _ h => h.2)) (fun _ h => h.1)); have n1_ := Aside0.mk (Kd.R_mono (Kd.R_keep (IsS76.apart (show IsS76 w _ g200 t198 t208 from by repeat (first | (with_reducible first | exact HI200.out | apply IsS76.alloc | apply IsS76.drewN | apply IsS76.drew | apply IsS76.set_1) | exact HI200.out)) (rr_ HO207) (by decide)) hk (fun _ h => h.2)) (fun _ h => h.1)); have n2_ := Aside0.mk (hb); have n3_ := Aside0.mk (hi); clear HO203; clear HO207; clear HB; clear HI200; have HO203 := n0_; have HO207 := n1_; have HB := n2_; have HI200 := n3_; clear n0_ n1_ n2_ n3_; (try clear hb); (try clear hb2); (try clear hk); (try clear hi)))
 (try simp only [Act.put, List.setIfInBounds_toArray, List.set_cons_zero, List.set_cons_succ])
 go_cut [] (fun wc => ∃ (kq : Nat) (x6_5 : List Int) (x201001_5 : Int), Aside0 (spec_l91Twin.j0 kq t201 x6_5 t198 x201001_5 = some (r1, r2)) ∧ Aside0 (kq ≤ k) ∧ Aside0 (Kd.R (Kd.int .i64) 3 wc w.heap.size (fun k_ => some k_ ≠ (v206 : Value).ownBlock) v202 t201) ∧ Aside0 (Kd.R (Kd.int .i64) 3 wc w.heap.size (fun k_ => some k_ ≠ (v202 : Value).ownBlock) v206 x6_5) ∧ Aside0 (IsS76 w wc g200 t198 x201001_5) ∧ Aside0 (Below w.heap.size w wc))
 case first =>
  have H := HC6.out
  clear HC6
  by_cases c11 : t209 = 0
  ·rw [if_pos c11] at H
   have c11b0 : (t209 == 0) = true := beq_iff_eq.mpr c11
   have c11b1 : (t209 != 0) = false := bne_eq_false_iff_eq.mpr c11
   clear c11
   (first | rw [c11b0] | (simp only [i64_w, i32_w]; rw [c11b0]) | skip)
   replace H := Option.bind_eq_some_iff.mp H
   obtain ⟨⟨t211, t212⟩, A120, H⟩ := H
   replace H : (if 0 < (t205.length : Int) then (spec_l91Twin.j0 k t201 (t205.set (0 : Int).toNat (wrap64 (81 + t211))) t198 t212) else (none)) = some (r1, r2) := H
   have A12 := Aside0.mk A120
   clear A120
   by_cases c13 : 0 < (t205.length : Int)
   ·rw [if_pos c13] at H
    have c13b0 : decide (0 < (t205.length : Int)) = true := decide_eq_true c13
    have c13b1 : decide (0 < t205.length) = true := decide_eq_true (by omega)
    clear c13
    obtain ⟨y213, hy213⟩ : ∃ y_ : List Int, y_ = (t205.set (0 : Int).toNat (wrap64 (81 + t211))) := ⟨_, rfl⟩
    replace H : (spec_l91Twin.j0 k t201 y213 t198 t212) = some (r1, r2) := by first | (rw [hy213]; with_reducible exact H) | (have H2_ := (Option.bind_some _ _).symm.trans H; rw [hy213]; with_reducible exact H2_) | (have H2_ := (Option.bind_some _ _).symm.trans H; with_reducible exact H2_) | with_reducible exact H | (rw [hy213]; exact H) | exact H
    have Ny213 := Aside0.mk hy213
    clear hy213
    have H' := Aside0.mk H
    clear H
    go_wp2_with (first | (refine goesL_ (some 22) rfl rfl Try.func79 (by kernel_rfl) rfl #[.pointer (some ⟨g200, 0, none⟩), .int .i64 10] rfl ll_ ?_; (with_reducible refine (spec_l6Rd_pick.calls k g200 t198 t210 10 t211 t212 w _ ?side1 ?side2 A12.out).mono ?_); (case side1 => repeat (first | (with_reducible first | exact HI200.out | apply IsS76.alloc | apply IsS76.drewN | apply IsS76.drew | apply IsS76.set_1) | exact HI200.out)); (case side2 => repeat (first | (with_reducible first | exact HB.out | apply below_alloc | apply pw_below_drewN | apply below_drew1 | refine below_set ?_ (IsS76.ge HI200.out)) | exact HB.out)); rintro e w15 ⟨rfl, hi, hb, hk⟩; refine ⟨_, rfl, ?_⟩; have n0_ := Aside0.mk (Kd.R_mono (Kd.R_keep (IsS76.apart (show IsS76 w _ g200 t198 t210 from by repeat (first | (with_reducible first | exact HI200.out | apply IsS76.alloc | apply IsS76.drewN | apply IsS76.drew | apply IsS76.set_1) | exact HI200.out)) (rr_ HO203) (by decide)) hk (fun _ h => h.2)) (fun _ h => h.1)); have n1_ := Aside0.mk (Kd.R_mono (Kd.R_keep (IsS76.apart (show IsS76 w _ g200 t198 t210 from by repeat (first | (with_reducible first | exact HI200.out | apply IsS76.alloc | apply IsS76.drewN | apply IsS76.drew | apply IsS76.set_1) | exact HI200.out)) (rr_ HO207) (by decide)) hk (fun _ h => h.2)) (fun _ h => h.1)); have n2_ := Aside0.mk (hb); have n3_ := Aside0.mk (hi); clear HO203; clear HO207; clear HB; clear HI200; have HO203 := n0_; have HO207 := n1_; have HB := n2_; have HI200 := n3_; clear n0_ n1_ n2_ n3_; (try clear hb); (try clear hb2); (try clear hk); (try clear hi); have p14 : 0 ≤ (0 : Int) := (by omega); have q14 : (0 : Int) < ((t205.length : Int) : Int) := dd_; have qi14 : (0 < t205.length) = True := eq_true (by omega); obtain ⟨go14, co14, eo14, gb14, gl14, cl14, HG14⟩ := Kd.R_form HO207.out (by omega); (first | cases eo14 | (injection eo14 with ea_ en_ ec_; (first | subst ea_ | (injection ea_ with ea_; subst ea_)); subst ec_; clear en_)); have GB14 := Aside0.mk gb14; have GG14 := Aside0.mk HG14; clear gb14 gl14 HG14; obtain ⟨hx14_0, hf14_0⟩ := Kd.R_celln 0 HO207.out (0 : Int) p14 q14; (try rw [show ((0 : Int)).toNat = 0 from rfl] at hx14_0); (try simp only [Nat.reduceMul, Nat.zero_mul, Nat.zero_add, Nat.reduceAdd] at hx14_0); (try rw [show ((0 : Int)).toNat = 0 from rfl] at hf14_0); (try simp only [Nat.reduceMul, Nat.zero_mul, Nat.zero_add, Nat.reduceAdd] at hf14_0); replace p14 := eq_true p14; replace q14 := eq_true q14; have n_ := Aside0.mk (Kd.R_mono (ok' := (fun k_ => some k_ ≠ (v202 : Value).ownBlock)) HO207.out (fun k_ hk => hk.2)); clear HO207; have HO207 := n_; clear n_; obtain ⟨hy16_, hz16_⟩ := Kd.R_celln 0 HO207.out (0 : Int) (by omega) (dd_); (try simp only [Int.reduceToNat, Int.toNat_zero, Int.toNat_ofNat, Nat.reduceMul, Nat.zero_mul, Nat.zero_add] at hy16_ hz16_); (try rw [show ((0 : Int)).toNat = 0 from rfl] at hy16_); (try rw [show ((0 : Int)).toNat = 0 from rfl] at hz16_); have HP16 := Kd.R_putg HO207.out (0 : Int) (wrap64 (81 + t211))) | ((with_reducible refine gate_store (t := 3) (p := 24) rfl ?_); refine store_event (t := 3) (p := 24) (v := ?vo_w17) (w1 := (w15.setCell ⟨go14, (0 : Int).toNat, none⟩ (.int .i64 (wrap64 (81 + t211))))) ?hg ?ho ?hn ?hr ?_; (case ho => rfl); (case hg => rfl); (case hn => rfl); (case hr => first | (go_simp; done) | (go_simp; rfl)); intro w17 hw; have hg : w15.grownBy w17 (some go14) := (by rw [hw]; exact HP16.2); have hp_ : Kd.R (Kd.int .i64) 3 w17 w.heap.size (fun k_ => some k_ ≠ (v202 : Value).ownBlock) (.slice (some ⟨go14, 0, none⟩) t205.length co14) y213 := (by rw [hw, Ny213.out]; exact HP16.1); clear HP16; have n0_ := Aside0.mk (IsS76.grown (by repeat (first | (with_reducible first | exact HI200.out | apply IsS76.alloc | apply IsS76.drewN | apply IsS76.drew | apply IsS76.set_1) | exact HI200.out)) hg (IsS76.own_ne HI200.out HO207.out (by decide))); have n1_ := Aside0.mk (Kd.R_after (v := (.slice (some ⟨go14, 0, none⟩) t205.length co14)) (v1 := (.slice (some ⟨go14, 0, none⟩) t205.length co14)) (ok := (fun _ => True)) (rr_ HO203) hg (.inl rfl)); have n2_ := Aside0.mk (hp_); have n3_ := Aside0.mk ((by rw [hw]; exact below_set (HB.out) GB14.out : Below w.heap.size w w17)); clear HI200; clear HO203; clear HO207; clear HB; have HI200 := n0_; have HO203 := n1_; have HO207 := n2_; have HB := n3_; clear n0_ n1_ n2_ n3_; clear hg hw hp_))
    go_meet
    case rel => exact ⟨_, (y213), (t212), H', ⟨by first | omega | exact Nat.le_refl _⟩, ⟨by (with_reducible repeat (first | apply Kd.R_alloc | apply Kd.R_drewN | apply Kd.R_drew)); exact Kd.R_mono HO203.out (fun _ hk => hk.2)⟩, ⟨rr_ HO207⟩, ⟨by repeat (first | (with_reducible first | exact HI200.out | apply IsS76.alloc | apply IsS76.drewN | apply IsS76.drew | apply IsS76.set_1) | exact HI200.out)⟩, ⟨by repeat (first | (with_reducible first | exact HB.out | apply below_alloc | apply pw_below_drewN | apply below_drew1 | refine below_set ?_ (IsS76.ge HI200.out)) | exact HB.out)⟩⟩
   ·rw [if_neg c13] at H
    exact absurd H (by simp)
  ·rw [if_neg c11] at H
   have c11b0 : (t209 == 0) = false := beq_eq_false_iff_ne.mpr c11
   have c11b1 : (t209 != 0) = true := bne_iff_ne.mpr c11
   (first | rw [c11b0] | (simp only [i64_w, i32_w]; rw [c11b0]) | skip)
   have H' := Aside0.mk H
   clear H
   go_wp2
   go_meet
   case rel => exact ⟨_, (t205), (t210), H', ⟨by first | omega | exact Nat.le_refl _⟩, ⟨by (with_reducible repeat (first | apply Kd.R_alloc | apply Kd.R_drewN | apply Kd.R_drew)); exact Kd.R_mono HO203.out (fun _ hk => hk.2)⟩, ⟨by (with_reducible repeat (first | apply Kd.R_alloc | apply Kd.R_drewN | apply Kd.R_drew)); exact Kd.R_mono HO207.out (fun _ hk => hk.2)⟩, ⟨by repeat (first | (with_reducible first | exact HI200.out | apply IsS76.alloc | apply IsS76.drewN | apply IsS76.drew | apply IsS76.set_1) | exact HI200.out)⟩, ⟨by repeat (first | (with_reducible first | exact HB.out | apply below_alloc | apply pw_below_drewN | apply below_drew1 | refine below_set ?_ (IsS76.ge HI200.out)) | exact HB.out)⟩⟩
 case rest =>
  clear HC6
  try clear c1
  try clear p1
  try clear q1
  try clear hx1
  try clear qi1
  try clear hf1
  try clear p2
  try clear c6
  try clear p6
  try clear c7
  try clear c11
  try clear c11b0
  try clear c11b1
  try clear c13
  try clear c13b0
  try clear c13b1
  try clear p14
  try clear q14
  try clear hx14
  try clear qi14
  try clear hf14
  try clear hx14_0
  try clear p14
  try clear q14
  obtain ⟨kq, x6_5, x201001_5, HA, HJ5, HO_5, HO_6, HI200, HB⟩ := hcut
  cases kq with
  | zero => exact absurd HA.out (by simp [spec_l91Twin.j0])
  | succ kj5 =>
   have H := HA.out
   clear HA
   simp only [spec_l91Twin.j0] at H
   have H' := Aside0.mk H
   clear H
   go_wp2
   go_loopg [6, 7] kj5 (fun kq v6 v7 w' => ∃ (x6_2 : List Int) (x7_2 : Int) (x201001_2 : Int), v7 = .int .i64 x7_2 ∧ Aside0 (spec_l91Twin.l0 kq t201 x6_2 x7_2 t198 x201001_2 = some (r1, r2)) ∧ Aside0 (kq ≤ kj5) ∧ Aside0 (Kd.R (Kd.int .i64) 3 w' w.heap.size (fun k_ => some k_ ≠ (v6 : Value).ownBlock) v202 t201) ∧ Aside0 (Kd.R (Kd.int .i64) 3 w' w.heap.size (fun k_ => some k_ ≠ (v202 : Value).ownBlock) v6 x6_2) ∧ Aside0 (IsS76 w w' g200 t198 x201001_2) ∧ Aside0 (Below w.heap.size w w'))
   case atStart => exact ⟨(x6_5), (1), (x201001_5), (by first | rfl | (simp; done) | (simp [*]; done)), H', ⟨Nat.le_refl _⟩, ⟨rr_ HO_5⟩, ⟨rr_ HO_6⟩, ⟨by repeat (first | (with_reducible first | exact HI200.out | apply IsS76.alloc | apply IsS76.drewN | apply IsS76.drew | apply IsS76.set_1) | exact HI200.out)⟩, ⟨by repeat (first | (with_reducible first | exact HB.out | apply below_alloc | apply pw_below_drewN | apply below_drew1 | refine below_set ?_ (IsS76.ge HI200.out)) | exact HB.out)⟩⟩
   case round =>
    clear H'
    try clear c1
    try clear p1
    try clear q1
    try clear hx1
    try clear qi1
    try clear hf1
    try clear p2
    try clear c6
    try clear p6
    try clear c7
    try clear c11
    try clear c11b0
    try clear c11b1
    try clear c13
    try clear c13b0
    try clear c13b1
    try clear p14
    try clear q14
    try clear hx14
    try clear qi14
    try clear hf14
    try clear hx14_0
    try clear p1
    try clear p14
    try clear p2
    try clear p6
    try clear q1
    try clear q14
    obtain ⟨x6_2, x7_2, x201001_2, rfl, HA, HK2, HO_5, HO_6, HI200, HB⟩ := hrel
    cases gk with
    | zero => exact absurd HA.out (by simp [spec_l91Twin.l0])
    | succ k2 =>
     have H := HA.out
     clear HA
     simp only [spec_l91Twin.l0] at H
     by_cases c18 : x7_2 ≤ 3
     ·rw [if_pos c18] at H
      have c18b0 : decide (x7_2 ≤ 3) = true := decide_eq_true c18
      clear c18
      by_cases c19 : 0 < (x6_2.length : Int)
      ·rw [if_pos c19] at H
       have c19b0 : decide (0 < (x6_2.length : Int)) = true := decide_eq_true c19
       have c19b1 : decide (0 < x6_2.length) = true := decide_eq_true (by omega)
       clear c19
       by_cases c20 : 0 ≤ x7_2
       ·rw [if_pos c20] at H
        have c20b0 : decide (0 ≤ x7_2) = true := decide_eq_true c20
        clear c20
        by_cases c21 : x7_2 < (x6_2.length : Int)
        ·rw [if_pos c21] at H
         have c21b0 : decide (x7_2 < (x6_2.length : Int)) = true := decide_eq_true c21
         clear c21
         replace H := Option.bind_eq_some_iff.mp H
         obtain ⟨⟨t216, t217⟩, A220, H⟩ := H
         replace H : ((spec_l6Rd_pick.f k2 t198 x201001_2 91).bind fun bt218 => (if t217 = true then ((spec_l6Rd_pick.f k2 t198 bt218.2 20).bind fun bt220 => (if bt220.1 > 0 then ((spec_l91On.f k2 t198 bt220.2 t201 t216).bind fun bt222 => (if x6_2.length < 17592186044416 then (spec_l91Twin.l0 k2 t201 (x6_2 ++ [bt222.1]) (wrap64 (x7_2 + 1)) t198 bt222.2) else (none))) else (if x6_2.length < 17592186044416 then (spec_l91Twin.l0 k2 t201 (x6_2 ++ [bt218.1]) (wrap64 (x7_2 + 1)) t198 bt220.2) else (none)))) else (if x6_2.length < 17592186044416 then (spec_l91Twin.l0 k2 t201 (x6_2 ++ [bt218.1]) (wrap64 (x7_2 + 1)) t198 bt218.2) else (none)))) = some (r1, r2) := H
         have A22 := Aside0.mk A220
         clear A220
         replace H := Option.bind_eq_some_iff.mp H
         obtain ⟨⟨t218, t219⟩, A230, H⟩ := H
         replace H : (if t217 = true then ((spec_l6Rd_pick.f k2 t198 t219 20).bind fun bt220 => (if bt220.1 > 0 then ((spec_l91On.f k2 t198 bt220.2 t201 t216).bind fun bt222 => (if x6_2.length < 17592186044416 then (spec_l91Twin.l0 k2 t201 (x6_2 ++ [bt222.1]) (wrap64 (x7_2 + 1)) t198 bt222.2) else (none))) else (if x6_2.length < 17592186044416 then (spec_l91Twin.l0 k2 t201 (x6_2 ++ [t218]) (wrap64 (x7_2 + 1)) t198 bt220.2) else (none)))) else (if x6_2.length < 17592186044416 then (spec_l91Twin.l0 k2 t201 (x6_2 ++ [t218]) (wrap64 (x7_2 + 1)) t198 t219) else (none))) = some (r1, r2) := H
         have A23 := Aside0.mk A230
         clear A230
         by_cases c24 : t217 = true
         ·subst c24
          have H1 : ((spec_l6Rd_pick.f k2 t198 t219 20).bind fun bt220 => (if bt220.1 > 0 then ((spec_l91On.f k2 t198 bt220.2 t201 t216).bind fun bt222 => (if x6_2.length < 17592186044416 then (spec_l91Twin.l0 k2 t201 (x6_2 ++ [bt222.1]) (wrap64 (x7_2 + 1)) t198 bt222.2) else (none))) else (if x6_2.length < 17592186044416 then (spec_l91Twin.l0 k2 t201 (x6_2 ++ [t218]) (wrap64 (x7_2 + 1)) t198 bt220.2) else (none)))) = some (r1, r2) := by rw [if_pos rfl] at H; exact H
          clear H
          have H := H1
          clear H1
          replace H := Option.bind_eq_some_iff.mp H
          obtain ⟨⟨t220, t221⟩, A250, H⟩ := H
          replace H : (if t220 > 0 then ((spec_l91On.f k2 t198 t221 t201 t216).bind fun bt222 => (if x6_2.length < 17592186044416 then (spec_l91Twin.l0 k2 t201 (x6_2 ++ [bt222.1]) (wrap64 (x7_2 + 1)) t198 bt222.2) else (none))) else (if x6_2.length < 17592186044416 then (spec_l91Twin.l0 k2 t201 (x6_2 ++ [t218]) (wrap64 (x7_2 + 1)) t198 t221) else (none))) = some (r1, r2) := H
          have A25 := Aside0.mk A250
          clear A250
          by_cases c26 : t220 > 0
          ·rw [if_pos c26] at H
           have c26b0 : decide (0 < t220) = true := decide_eq_true c26
           clear c26
           replace H := Option.bind_eq_some_iff.mp H
           obtain ⟨⟨t222, t223⟩, A270, H⟩ := H
           replace H : (if x6_2.length < 17592186044416 then (spec_l91Twin.l0 k2 t201 (x6_2 ++ [t222]) (wrap64 (x7_2 + 1)) t198 t223) else (none)) = some (r1, r2) := H
           have A27 := Aside0.mk A270
           clear A270
           by_cases c28 : x6_2.length < 17592186044416
           ·rw [if_pos c28] at H
            have LMc28 := Aside0.mk c28
            clear c28
            obtain ⟨y224, hy224⟩ : ∃ y_ : List Int, y_ = (x6_2 ++ [t222]) := ⟨_, rfl⟩
            replace H : (spec_l91Twin.l0 k2 t201 y224 (wrap64 (x7_2 + 1)) t198 t223) = some (r1, r2) := by first | (rw [hy224]; with_reducible exact H) | (have H2_ := (Option.bind_some _ _).symm.trans H; rw [hy224]; with_reducible exact H2_) | (have H2_ := (Option.bind_some _ _).symm.trans H; with_reducible exact H2_) | with_reducible exact H | (rw [hy224]; exact H) | exact H
            have Ny224 := Aside0.mk hy224
            clear hy224
            have H' := Aside0.mk H
            clear H
            try go_wp2
            have n0_ := Aside0.mk (Kd.R_drew HO_5.out)
            have n1_ := Aside0.mk (Kd.R_drew HO_6.out)
            have n2_ := Aside0.mk (IsS76.drew HI200.out)
            have n3_ := Aside0.mk (below_drew1 HB.out)
            clear HO_5
            clear HO_6
            clear HI200
            clear HB
            have HO_5 := n0_
            have HO_6 := n1_
            have HI200 := n2_
            have HB := n3_
            clear n0_ n1_ n2_ n3_
            obtain ⟨Ao30, co30, eo30⟩ := Kd.R_slice HO_6.out
            (first | subst eo30 | (injection eo30 with f1_ f2_ f3_; have f4_ := f1_.symm; have f5_ := f3_.symm; clear f1_ f2_ f3_; subst f4_; subst f5_))
            have p214 : 0 ≤ (0 : Int) := (by omega)
            have q214 : 0 < (x6_2.length : Int) := dd_
            obtain ⟨ad214, e214, hx214_0⟩ := Kd.at_int (Kd.R_reads' HO_6.out).2.2 0 p214 q214
            cases e214
            have qi214 : (0 < x6_2.length) = True := eq_true (by omega)
            (try rw [show ((0 : Int)).toNat = 0 from rfl] at hx214_0)
            (try rw [Addr.add_zero'] at hx214_0)
            replace p214 := eq_true p214
            replace q214 := eq_true q214
            have p215 : 0 ≤ (x7_2 : Int) := dd_
            have q215 : x7_2 < (x6_2.length : Int) := dd_
            obtain ⟨ad215, e215, hx215_0⟩ := Kd.at_int (Kd.R_reads' HO_6.out).2.2 x7_2 p215 q215
            obtain rfl : ad214 = ad215 := (by injection e215)
            replace p215 := eq_true p215
            replace q215 := eq_true q215
            obtain ⟨Ao31, co31, eo31⟩ := Kd.R_slice HO_5.out
            (first | subst eo31 | (injection eo31 with f1_ f2_ f3_; have f4_ := f1_.symm; have f5_ := f3_.symm; clear f1_ f2_ f3_; subst f4_; subst f5_))
            refine start_ (n := 14) (S := fun w' => w'.cell? ad214 = some (.int .i64 (rd x6_2 0)) ∧ w'.cell? (ad214.add (x7_2).toNat) = some (.int .i64 (rd x6_2 x7_2))) (ds := []) #[F_,F_,F_,F_,F_,F_,F_,F_,F_,F_,F_,F_,F_,F_] (by kernel_rfl) rfl rfl ⟨hx214_0, hx215_0⟩ (fun hHeld => ?_); refine with_tabW spec_l91Twin.tab9 spec_l91Twin.bits9 (fun HT_ HW_ => ?_)
            generalize wr.drew = w29 at HO_5 HO_6 HI200 HB hx214_0 hx215_0 hHeld ⊢
            refine p_ 0 30 (m_ 14 1) HT_.out ?_
            refine p_ 1 31 (m_ 14 3) HT_.out ?_
            refine p_ 2 32 (m_ 14 7) HT_.out ?_
            refine p_ 4 34 (m_ 14 23) HT_.out ?_
            refine p_ 5 35 (m_ 14 55) HT_.out ?_
            refine p_ 6 36 (m_ 14 119) HT_.out ?_
            refine t2_ 3 33 (m_ 14 127) HT_.out HW_.out hHeld ?_
            refine t2_ 7 37 (m_ 14 255) HT_.out HW_.out hHeld ?_
            refine one_ (i := 8) (N := some 38) (m_ 14 511) rfl rfl (one_of HT_.out (by kernel_rfl)) (by decide) (fun K hK => ?_)
            refine goes_ Try.func118 (by kernel_rfl) rfl #[.slice Ao31 t201.length co31, .int .i64 (rd x6_2 0), .int .i64 (rd x6_2 x7_2)] (by rfl) rfl rfl ll_ ?_
            with_reducible refine (spec_PlaneJoin.calls k2 _ _ t201 (rd x6_2 0) (rd x6_2 x7_2) t216 true _ ?side1 ?side2 A22.out).mono ?_
            (case side1 => exact cc_ HO_5)
            (case side2 => exact (Kd.R_reads' HO_5.out).2.1)
            rintro e w32 ⟨rfl, hb⟩
            have HS0_ := (hb.cell (World.block_lt_of_cell? _ _ (hHeld.1))).trans (hHeld.1)
            have HS1_ := (hb.cell (World.block_lt_of_cell? _ _ (hHeld.2))).trans (hHeld.2)
            refine ⟨_, rfl, ?_⟩
            have n0_ := Aside0.mk (Kd.R_below (rr_ HO_5) hb)
            have n1_ := Aside0.mk (Kd.R_below (rr_ HO_6) hb)
            have n2_ := Aside0.mk (IsS76.below (by repeat (first | (with_reducible first | exact HI200.out | apply IsS76.alloc | apply IsS76.drewN | apply IsS76.drew | apply IsS76.set_1) | exact HI200.out)) hb)
            have n3_ := Aside0.mk (below_step (by repeat (first | (with_reducible first | exact HB.out | apply below_alloc | apply pw_below_drewN | apply below_drew1 | refine below_set ?_ (IsS76.ge HI200.out)) | exact HB.out)) hb)
            clear HO_5
            clear HO_6
            clear HI200
            clear HB
            have HO_5 := n0_
            have HO_6 := n1_
            have HI200 := n2_
            have HB := n3_
            clear n0_ n1_ n2_ n3_
            (try clear hb)
            (try clear hb2)
            (try clear hk)
            (try clear hi)
            refine hK.out _ _ ⟨HS0_, HS1_⟩ (fun hHeld => ?_)
            clear hK K
            refine norm_ (a' := ?_) ?_ ?_; rotate_left; (show Act.put _ (some 38) _ = _; simp only [Act.put, List.setIfInBounds_toArray, List.set_cons_zero, List.set_cons_succ, i64_w, i32_w]; rfl)
            refine p_ 9 29 (m_ 14 1023) HT_.out ?_
            refine p_ 10 39 (m_ 14 2047) HT_.out ?_
            refine p_ 11 40 (m_ 14 4095) HT_.out ?_
            refine p_ 12 8 (m_ 14 8191) HT_.out ?_
            refine p_ 13 9 (m_ 14 16383) HT_.out ?_
            refine done_ (done_of HT_.out (by kernel_rfl)) ?_
            try go_wp2_with (first | (refine goesL_ (some 42) rfl rfl Try.func79 (by kernel_rfl) rfl #[.pointer (some ⟨g200, 0, none⟩), .int .i64 91] rfl ll_ ?_; (with_reducible refine (spec_l6Rd_pick.calls k2 g200 t198 x201001_2 91 t218 t219 w _ ?side1 ?side2 A23.out).mono ?_); (case side1 => repeat (first | (with_reducible first | exact HI200.out | apply IsS76.alloc | apply IsS76.drewN | apply IsS76.drew | apply IsS76.set_1) | exact HI200.out)); (case side2 => repeat (first | (with_reducible first | exact HB.out | apply below_alloc | apply pw_below_drewN | apply below_drew1 | refine below_set ?_ (IsS76.ge HI200.out)) | exact HB.out)); rintro e w33 ⟨rfl, hi, hb, hk⟩; refine ⟨_, rfl, ?_⟩; have n0_ := Aside0.mk (Kd.R_mono (Kd.R_keep (IsS76.apart (show IsS76 w _ g200 t198 x201001_2 from by repeat (first | (with_reducible first | exact HI200.out | apply IsS76.alloc | apply IsS76.drewN | apply IsS76.drew | apply IsS76.set_1) | exact HI200.out)) (rr_ HO_5) (by decide)) hk (fun _ h => h.2)) (fun _ h => h.1)); have n1_ := Aside0.mk (Kd.R_mono (Kd.R_keep (IsS76.apart (show IsS76 w _ g200 t198 x201001_2 from by repeat (first | (with_reducible first | exact HI200.out | apply IsS76.alloc | apply IsS76.drewN | apply IsS76.drew | apply IsS76.set_1) | exact HI200.out)) (rr_ HO_6) (by decide)) hk (fun _ h => h.2)) (fun _ h => h.1)); have n2_ := Aside0.mk (hb); have n3_ := Aside0.mk (hi); clear HO_5; clear HO_6; clear HB; clear HI200; have HO_5 := n0_; have HO_6 := n1_; have HB := n2_; have HI200 := n3_; clear n0_ n1_ n2_ n3_; (try clear hb); (try clear hb2); (try clear hk); (try clear hi)) | (go_at_call 79; (with_reducible refine (spec_l6Rd_pick.calls k2 g200 t198 t219 20 t220 t221 w _ ?side1 ?side2 A25.out).mono ?_); (case side1 => repeat (first | (with_reducible first | exact HI200.out | apply IsS76.alloc | apply IsS76.drewN | apply IsS76.drew | apply IsS76.set_1) | exact HI200.out)); (case side2 => repeat (first | (with_reducible first | exact HB.out | apply below_alloc | apply pw_below_drewN | apply below_drew1 | refine below_set ?_ (IsS76.ge HI200.out)) | exact HB.out)); rintro e w34 ⟨rfl, hi, hb, hk⟩; have n0_ := Aside0.mk (Kd.R_mono (Kd.R_keep (IsS76.apart (show IsS76 w _ g200 t198 t219 from by repeat (first | (with_reducible first | exact HI200.out | apply IsS76.alloc | apply IsS76.drewN | apply IsS76.drew | apply IsS76.set_1) | exact HI200.out)) (rr_ HO_5) (by decide)) hk (fun _ h => h.2)) (fun _ h => h.1)); have n1_ := Aside0.mk (Kd.R_mono (Kd.R_keep (IsS76.apart (show IsS76 w _ g200 t198 t219 from by repeat (first | (with_reducible first | exact HI200.out | apply IsS76.alloc | apply IsS76.drewN | apply IsS76.drew | apply IsS76.set_1) | exact HI200.out)) (rr_ HO_6) (by decide)) hk (fun _ h => h.2)) (fun _ h => h.1)); have n2_ := Aside0.mk (hb); have n3_ := Aside0.mk (hi); clear HO_5; clear HO_6; clear HB; clear HI200; have HO_5 := n0_; have HO_6 := n1_; have HB := n2_; have HI200 := n3_; clear n0_ n1_ n2_ n3_; (try clear hb); (try clear hb2); (try clear hk); (try clear hi)) | (refine goesL_ (some 52) rfl rfl Try.func119 (by kernel_rfl) rfl #[.pointer (some ⟨g200, 0, none⟩), .slice Ao31 t201.length co31, .int .i64 t216] rfl ll_ ?_; (with_reducible refine (spec_l91On.calls k2 g200 t198 t221 _ _ t201 t216 t222 t223 w _ ?side1 ?side2 ?side3 ?side4 ?side5 A27.out).mono ?_); (case side1 => repeat (first | (with_reducible first | exact HI200.out | apply IsS76.alloc | apply IsS76.drewN | apply IsS76.drew | apply IsS76.set_1) | exact HI200.out)); (case side2 => repeat (first | (with_reducible first | exact HB.out | apply below_alloc | apply pw_below_drewN | apply below_drew1 | refine below_set ?_ (IsS76.ge HI200.out)) | exact HB.out)); (case side3 => exact cc_ HO_5); (case side4 => exact (Kd.R_reads' HO_5.out).2.1); (case side5 => exact far_slice (IsS76.own_ne HI200.out HO_5.out (by decide))); rintro e w35 ⟨rfl, hi, hb, hk⟩; refine ⟨_, rfl, ?_⟩; have n0_ := Aside0.mk (Kd.R_mono (Kd.R_keep (IsS76.apart (show IsS76 w _ g200 t198 t221 from by repeat (first | (with_reducible first | exact HI200.out | apply IsS76.alloc | apply IsS76.drewN | apply IsS76.drew | apply IsS76.set_1) | exact HI200.out)) (rr_ HO_5) (by decide)) hk (fun _ h => h.2)) (fun _ h => h.1)); have n1_ := Aside0.mk (Kd.R_mono (Kd.R_keep (IsS76.apart (show IsS76 w _ g200 t198 t221 from by repeat (first | (with_reducible first | exact HI200.out | apply IsS76.alloc | apply IsS76.drewN | apply IsS76.drew | apply IsS76.set_1) | exact HI200.out)) (rr_ HO_6) (by decide)) hk (fun _ h => h.2)) (fun _ h => h.1)); have n2_ := Aside0.mk (hb); have n3_ := Aside0.mk (hi); clear HO_5; clear HO_6; clear HB; clear HI200; have HO_5 := n0_; have HO_6 := n1_; have HB := n2_; have HI200 := n3_; clear n0_ n1_ n2_ n3_; (try clear hb); (try clear hb2); (try clear hk); (try clear hi)) | (at_builtin; refine Kd.R_append (Kd.int .i64) (w0 := w) w.heap.size rfl (.tmp 53) (.tmp 55) 23 3 (.int .i64 0) 8 rfl Try.underlying23 info3 rfl (by decide) (by omega) (.slice (some ad214) x6_2.length co30) x6_2 t222 [.int .i64 t222] (fun k_ => some k_ ≠ (.slice Ao31 t201.length co31 : Value).ownBlock) (fun _ => False) rfl rfl ?aP (fun _ hk => hk.elim) ?aF ?aO ?aB ?aS ?aL ?_; (case aP => exact rfl); (case aB => exact (by repeat (first | (with_reducible first | exact HB.out | apply below_alloc | apply pw_below_drewN | apply below_drew1 | refine below_set ?_ (IsS76.ge HI200.out)) | exact HB.out))); (case aF => exact (fun k_ hk => Kd.fresh' (Kd.R_lt (rr_ HO_5)) k_ hk)); (case aO => exact (rr_ HO_6)); (case aS => exact (below_size (by repeat (first | (with_reducible first | exact HB.out | apply below_alloc | apply pw_below_drewN | apply below_drew1 | refine below_set ?_ (IsS76.ge HI200.out)) | exact HB.out)))); (case aL => have := LMc28.out; omega); intro v225 w36 ho hb hg hat; rw [← Ny224.out] at ho; have n0_ := Aside0.mk (Kd.R_after (ok := (fun _ => True)) (by (with_reducible repeat (first | apply Kd.R_alloc | apply Kd.R_drewN | apply Kd.R_drew)); exact Kd.R_mono HO_5.out (fun _ hk => ⟨trivial, hk⟩)) hg hat); have n1_ := Aside0.mk (IsS76.grown (by repeat (first | (with_reducible first | exact HI200.out | apply IsS76.alloc | apply IsS76.drewN | apply IsS76.drew | apply IsS76.set_1) | exact HI200.out)) hg (IsS76.own_ne HI200.out HO_6.out (by decide))); have n2_ := Aside0.mk (hb); have n3_ := Aside0.mk (ho); clear HO_5; clear HI200; clear HB; clear HO_6; have HO_5 := n0_; have HI200 := n1_; have HB := n2_; have HO226 := n3_; clear n0_ n1_ n2_ n3_; clear ho hb hg hat))
            go_roundg k2
            case measure => have := HJ5.out; have := HK2.out; omega
            case rel => exact ⟨(y224), (wrap64 (x7_2 + 1)), (t223), (by first | rfl | (simp; done) | (simp [*]; done)), H', ⟨by have := HJ5.out; have := HK2.out; omega⟩, ⟨by (with_reducible repeat (first | apply Kd.R_alloc | apply Kd.R_drewN | apply Kd.R_drew)); exact Kd.R_mono HO_5.out (fun _ hk => hk.2)⟩, ⟨rr_ HO226⟩, ⟨by repeat (first | (with_reducible first | exact HI200.out | apply IsS76.alloc | apply IsS76.drewN | apply IsS76.drew | apply IsS76.set_1) | exact HI200.out)⟩, ⟨by repeat (first | (with_reducible first | exact HB.out | apply below_alloc | apply pw_below_drewN | apply below_drew1 | refine below_set ?_ (IsS76.ge HI200.out)) | exact HB.out)⟩⟩
           ·rw [if_neg c28] at H
            exact absurd H (by simp)
          ·rw [if_neg c26] at H
           have c26b0 : decide (0 < t220) = false := decide_eq_false c26
           clear c26
           by_cases c37 : x6_2.length < 17592186044416
           ·rw [if_pos c37] at H
            have LMc37 := Aside0.mk c37
            clear c37
            obtain ⟨y227, hy227⟩ : ∃ y_ : List Int, y_ = (x6_2 ++ [t218]) := ⟨_, rfl⟩
            replace H : (spec_l91Twin.l0 k2 t201 y227 (wrap64 (x7_2 + 1)) t198 t221) = some (r1, r2) := by first | (rw [hy227]; with_reducible exact H) | (have H2_ := (Option.bind_some _ _).symm.trans H; rw [hy227]; with_reducible exact H2_) | (have H2_ := (Option.bind_some _ _).symm.trans H; with_reducible exact H2_) | with_reducible exact H | (rw [hy227]; exact H) | exact H
            have Ny227 := Aside0.mk hy227
            clear hy227
            have H' := Aside0.mk H
            clear H
            try go_wp2
            have n0_ := Aside0.mk (Kd.R_drew HO_5.out)
            have n1_ := Aside0.mk (Kd.R_drew HO_6.out)
            have n2_ := Aside0.mk (IsS76.drew HI200.out)
            have n3_ := Aside0.mk (below_drew1 HB.out)
            clear HO_5
            clear HO_6
            clear HI200
            clear HB
            have HO_5 := n0_
            have HO_6 := n1_
            have HI200 := n2_
            have HB := n3_
            clear n0_ n1_ n2_ n3_
            obtain ⟨Ao39, co39, eo39⟩ := Kd.R_slice HO_6.out
            (first | subst eo39 | (injection eo39 with f1_ f2_ f3_; have f4_ := f1_.symm; have f5_ := f3_.symm; clear f1_ f2_ f3_; subst f4_; subst f5_))
            have p214 : 0 ≤ (0 : Int) := (by omega)
            have q214 : 0 < (x6_2.length : Int) := dd_
            obtain ⟨ad214, e214, hx214_0⟩ := Kd.at_int (Kd.R_reads' HO_6.out).2.2 0 p214 q214
            cases e214
            have qi214 : (0 < x6_2.length) = True := eq_true (by omega)
            (try rw [show ((0 : Int)).toNat = 0 from rfl] at hx214_0)
            (try rw [Addr.add_zero'] at hx214_0)
            replace p214 := eq_true p214
            replace q214 := eq_true q214
            have p215 : 0 ≤ (x7_2 : Int) := dd_
            have q215 : x7_2 < (x6_2.length : Int) := dd_
            obtain ⟨ad215, e215, hx215_0⟩ := Kd.at_int (Kd.R_reads' HO_6.out).2.2 x7_2 p215 q215
            obtain rfl : ad214 = ad215 := (by injection e215)
            replace p215 := eq_true p215
            replace q215 := eq_true q215
            obtain ⟨Ao40, co40, eo40⟩ := Kd.R_slice HO_5.out
            (first | subst eo40 | (injection eo40 with f1_ f2_ f3_; have f4_ := f1_.symm; have f5_ := f3_.symm; clear f1_ f2_ f3_; subst f4_; subst f5_))
            refine start_ (n := 14) (S := fun w' => w'.cell? ad214 = some (.int .i64 (rd x6_2 0)) ∧ w'.cell? (ad214.add (x7_2).toNat) = some (.int .i64 (rd x6_2 x7_2))) (ds := []) #[F_,F_,F_,F_,F_,F_,F_,F_,F_,F_,F_,F_,F_,F_] (by kernel_rfl) rfl rfl ⟨hx214_0, hx215_0⟩ (fun hHeld => ?_); refine with_tabW spec_l91Twin.tab9 spec_l91Twin.bits9 (fun HT_ HW_ => ?_)
            generalize wr.drew = w38 at HO_5 HO_6 HI200 HB hx214_0 hx215_0 hHeld ⊢
            refine p_ 0 30 (m_ 14 1) HT_.out ?_
            refine p_ 1 31 (m_ 14 3) HT_.out ?_
            refine p_ 2 32 (m_ 14 7) HT_.out ?_
            refine p_ 4 34 (m_ 14 23) HT_.out ?_
            refine p_ 5 35 (m_ 14 55) HT_.out ?_
            refine p_ 6 36 (m_ 14 119) HT_.out ?_
            refine t2_ 3 33 (m_ 14 127) HT_.out HW_.out hHeld ?_
            refine t2_ 7 37 (m_ 14 255) HT_.out HW_.out hHeld ?_
            refine one_ (i := 8) (N := some 38) (m_ 14 511) rfl rfl (one_of HT_.out (by kernel_rfl)) (by decide) (fun K hK => ?_)
            refine goes_ Try.func118 (by kernel_rfl) rfl #[.slice Ao40 t201.length co40, .int .i64 (rd x6_2 0), .int .i64 (rd x6_2 x7_2)] (by rfl) rfl rfl ll_ ?_
            with_reducible refine (spec_PlaneJoin.calls k2 _ _ t201 (rd x6_2 0) (rd x6_2 x7_2) t216 true _ ?side1 ?side2 A22.out).mono ?_
            (case side1 => exact cc_ HO_5)
            (case side2 => exact (Kd.R_reads' HO_5.out).2.1)
            rintro e w41 ⟨rfl, hb⟩
            have HS0_ := (hb.cell (World.block_lt_of_cell? _ _ (hHeld.1))).trans (hHeld.1)
            have HS1_ := (hb.cell (World.block_lt_of_cell? _ _ (hHeld.2))).trans (hHeld.2)
            refine ⟨_, rfl, ?_⟩
            have n0_ := Aside0.mk (Kd.R_below (rr_ HO_5) hb)
            have n1_ := Aside0.mk (Kd.R_below (rr_ HO_6) hb)
            have n2_ := Aside0.mk (IsS76.below (by repeat (first | (with_reducible first | exact HI200.out | apply IsS76.alloc | apply IsS76.drewN | apply IsS76.drew | apply IsS76.set_1) | exact HI200.out)) hb)
            have n3_ := Aside0.mk (below_step (by repeat (first | (with_reducible first | exact HB.out | apply below_alloc | apply pw_below_drewN | apply below_drew1 | refine below_set ?_ (IsS76.ge HI200.out)) | exact HB.out)) hb)
            clear HO_5
            clear HO_6
            clear HI200
            clear HB
            have HO_5 := n0_
            have HO_6 := n1_
            have HI200 := n2_
            have HB := n3_
            clear n0_ n1_ n2_ n3_
            (try clear hb)
            (try clear hb2)
            (try clear hk)
            (try clear hi)
            refine hK.out _ _ ⟨HS0_, HS1_⟩ (fun hHeld => ?_)
            clear hK K
            refine norm_ (a' := ?_) ?_ ?_; rotate_left; (show Act.put _ (some 38) _ = _; simp only [Act.put, List.setIfInBounds_toArray, List.set_cons_zero, List.set_cons_succ, i64_w, i32_w]; rfl)
            refine p_ 9 29 (m_ 14 1023) HT_.out ?_
            refine p_ 10 39 (m_ 14 2047) HT_.out ?_
            refine p_ 11 40 (m_ 14 4095) HT_.out ?_
            refine p_ 12 8 (m_ 14 8191) HT_.out ?_
            refine p_ 13 9 (m_ 14 16383) HT_.out ?_
            refine done_ (done_of HT_.out (by kernel_rfl)) ?_
            try go_wp2_with (first | (refine goesL_ (some 42) rfl rfl Try.func79 (by kernel_rfl) rfl #[.pointer (some ⟨g200, 0, none⟩), .int .i64 91] rfl ll_ ?_; (with_reducible refine (spec_l6Rd_pick.calls k2 g200 t198 x201001_2 91 t218 t219 w _ ?side1 ?side2 A23.out).mono ?_); (case side1 => repeat (first | (with_reducible first | exact HI200.out | apply IsS76.alloc | apply IsS76.drewN | apply IsS76.drew | apply IsS76.set_1) | exact HI200.out)); (case side2 => repeat (first | (with_reducible first | exact HB.out | apply below_alloc | apply pw_below_drewN | apply below_drew1 | refine below_set ?_ (IsS76.ge HI200.out)) | exact HB.out)); rintro e w42 ⟨rfl, hi, hb, hk⟩; refine ⟨_, rfl, ?_⟩; have n0_ := Aside0.mk (Kd.R_mono (Kd.R_keep (IsS76.apart (show IsS76 w _ g200 t198 x201001_2 from by repeat (first | (with_reducible first | exact HI200.out | apply IsS76.alloc | apply IsS76.drewN | apply IsS76.drew | apply IsS76.set_1) | exact HI200.out)) (rr_ HO_5) (by decide)) hk (fun _ h => h.2)) (fun _ h => h.1)); have n1_ := Aside0.mk (Kd.R_mono (Kd.R_keep (IsS76.apart (show IsS76 w _ g200 t198 x201001_2 from by repeat (first | (with_reducible first | exact HI200.out | apply IsS76.alloc | apply IsS76.drewN | apply IsS76.drew | apply IsS76.set_1) | exact HI200.out)) (rr_ HO_6) (by decide)) hk (fun _ h => h.2)) (fun _ h => h.1)); have n2_ := Aside0.mk (hb); have n3_ := Aside0.mk (hi); clear HO_5; clear HO_6; clear HB; clear HI200; have HO_5 := n0_; have HO_6 := n1_; have HB := n2_; have HI200 := n3_; clear n0_ n1_ n2_ n3_; (try clear hb); (try clear hb2); (try clear hk); (try clear hi)) | (go_at_call 79; (with_reducible refine (spec_l6Rd_pick.calls k2 g200 t198 t219 20 t220 t221 w _ ?side1 ?side2 A25.out).mono ?_); (case side1 => repeat (first | (with_reducible first | exact HI200.out | apply IsS76.alloc | apply IsS76.drewN | apply IsS76.drew | apply IsS76.set_1) | exact HI200.out)); (case side2 => repeat (first | (with_reducible first | exact HB.out | apply below_alloc | apply pw_below_drewN | apply below_drew1 | refine below_set ?_ (IsS76.ge HI200.out)) | exact HB.out)); rintro e w43 ⟨rfl, hi, hb, hk⟩; have n0_ := Aside0.mk (Kd.R_mono (Kd.R_keep (IsS76.apart (show IsS76 w _ g200 t198 t219 from by repeat (first | (with_reducible first | exact HI200.out | apply IsS76.alloc | apply IsS76.drewN | apply IsS76.drew | apply IsS76.set_1) | exact HI200.out)) (rr_ HO_5) (by decide)) hk (fun _ h => h.2)) (fun _ h => h.1)); have n1_ := Aside0.mk (Kd.R_mono (Kd.R_keep (IsS76.apart (show IsS76 w _ g200 t198 t219 from by repeat (first | (with_reducible first | exact HI200.out | apply IsS76.alloc | apply IsS76.drewN | apply IsS76.drew | apply IsS76.set_1) | exact HI200.out)) (rr_ HO_6) (by decide)) hk (fun _ h => h.2)) (fun _ h => h.1)); have n2_ := Aside0.mk (hb); have n3_ := Aside0.mk (hi); clear HO_5; clear HO_6; clear HB; clear HI200; have HO_5 := n0_; have HO_6 := n1_; have HB := n2_; have HI200 := n3_; clear n0_ n1_ n2_ n3_; (try clear hb); (try clear hb2); (try clear hk); (try clear hi)) | (at_builtin; refine Kd.R_append (Kd.int .i64) (w0 := w) w.heap.size rfl (.tmp 53) (.tmp 55) 23 3 (.int .i64 0) 8 rfl Try.underlying23 info3 rfl (by decide) (by omega) (.slice (some ad214) x6_2.length co39) x6_2 t218 [.int .i64 t218] (fun k_ => some k_ ≠ (.slice Ao40 t201.length co40 : Value).ownBlock) (fun _ => False) rfl rfl ?aP (fun _ hk => hk.elim) ?aF ?aO ?aB ?aS ?aL ?_; (case aP => exact rfl); (case aB => exact (by repeat (first | (with_reducible first | exact HB.out | apply below_alloc | apply pw_below_drewN | apply below_drew1 | refine below_set ?_ (IsS76.ge HI200.out)) | exact HB.out))); (case aF => exact (fun k_ hk => Kd.fresh' (Kd.R_lt (rr_ HO_5)) k_ hk)); (case aO => exact (rr_ HO_6)); (case aS => exact (below_size (by repeat (first | (with_reducible first | exact HB.out | apply below_alloc | apply pw_below_drewN | apply below_drew1 | refine below_set ?_ (IsS76.ge HI200.out)) | exact HB.out)))); (case aL => have := LMc37.out; omega); intro v228 w44 ho hb hg hat; rw [← Ny227.out] at ho; have n0_ := Aside0.mk (Kd.R_after (ok := (fun _ => True)) (by (with_reducible repeat (first | apply Kd.R_alloc | apply Kd.R_drewN | apply Kd.R_drew)); exact Kd.R_mono HO_5.out (fun _ hk => ⟨trivial, hk⟩)) hg hat); have n1_ := Aside0.mk (IsS76.grown (by repeat (first | (with_reducible first | exact HI200.out | apply IsS76.alloc | apply IsS76.drewN | apply IsS76.drew | apply IsS76.set_1) | exact HI200.out)) hg (IsS76.own_ne HI200.out HO_6.out (by decide))); have n2_ := Aside0.mk (hb); have n3_ := Aside0.mk (ho); clear HO_5; clear HI200; clear HB; clear HO_6; have HO_5 := n0_; have HI200 := n1_; have HB := n2_; have HO229 := n3_; clear n0_ n1_ n2_ n3_; clear ho hb hg hat))
            go_roundg k2
            case measure => have := HJ5.out; have := HK2.out; omega
            case rel => exact ⟨(y227), (wrap64 (x7_2 + 1)), (t221), (by first | rfl | (simp; done) | (simp [*]; done)), H', ⟨by have := HJ5.out; have := HK2.out; omega⟩, ⟨by (with_reducible repeat (first | apply Kd.R_alloc | apply Kd.R_drewN | apply Kd.R_drew)); exact Kd.R_mono HO_5.out (fun _ hk => hk.2)⟩, ⟨rr_ HO229⟩, ⟨by repeat (first | (with_reducible first | exact HI200.out | apply IsS76.alloc | apply IsS76.drewN | apply IsS76.drew | apply IsS76.set_1) | exact HI200.out)⟩, ⟨by repeat (first | (with_reducible first | exact HB.out | apply below_alloc | apply pw_below_drewN | apply below_drew1 | refine below_set ?_ (IsS76.ge HI200.out)) | exact HB.out)⟩⟩
           ·rw [if_neg c37] at H
            exact absurd H (by simp)
         ·replace c24 := Bool.eq_false_iff.mpr c24
          subst c24
          have H1 : (if x6_2.length < 17592186044416 then (spec_l91Twin.l0 k2 t201 (x6_2 ++ [t218]) (wrap64 (x7_2 + 1)) t198 t219) else (none)) = some (r1, r2) := by rw [if_neg (show ¬ (false = true) by decide)] at H; exact H
          clear H
          have H := H1
          clear H1
          by_cases c45 : x6_2.length < 17592186044416
          ·rw [if_pos c45] at H
           have LMc45 := Aside0.mk c45
           clear c45
           obtain ⟨y230, hy230⟩ : ∃ y_ : List Int, y_ = (x6_2 ++ [t218]) := ⟨_, rfl⟩
           replace H : (spec_l91Twin.l0 k2 t201 y230 (wrap64 (x7_2 + 1)) t198 t219) = some (r1, r2) := by first | (rw [hy230]; with_reducible exact H) | (have H2_ := (Option.bind_some _ _).symm.trans H; rw [hy230]; with_reducible exact H2_) | (have H2_ := (Option.bind_some _ _).symm.trans H; with_reducible exact H2_) | with_reducible exact H | (rw [hy230]; exact H) | exact H
           have Ny230 := Aside0.mk hy230
           clear hy230
           have H' := Aside0.mk H
           clear H
           try go_wp2
           have n0_ := Aside0.mk (Kd.R_drew HO_5.out)
           have n1_ := Aside0.mk (Kd.R_drew HO_6.out)
           have n2_ := Aside0.mk (IsS76.drew HI200.out)
           have n3_ := Aside0.mk (below_drew1 HB.out)
           clear HO_5
           clear HO_6
           clear HI200
           clear HB
           have HO_5 := n0_
           have HO_6 := n1_
           have HI200 := n2_
           have HB := n3_
           clear n0_ n1_ n2_ n3_
           obtain ⟨Ao47, co47, eo47⟩ := Kd.R_slice HO_6.out
           (first | subst eo47 | (injection eo47 with f1_ f2_ f3_; have f4_ := f1_.symm; have f5_ := f3_.symm; clear f1_ f2_ f3_; subst f4_; subst f5_))
           have p214 : 0 ≤ (0 : Int) := (by omega)
           have q214 : 0 < (x6_2.length : Int) := dd_
           obtain ⟨ad214, e214, hx214_0⟩ := Kd.at_int (Kd.R_reads' HO_6.out).2.2 0 p214 q214
           cases e214
           have qi214 : (0 < x6_2.length) = True := eq_true (by omega)
           (try rw [show ((0 : Int)).toNat = 0 from rfl] at hx214_0)
           (try rw [Addr.add_zero'] at hx214_0)
           replace p214 := eq_true p214
           replace q214 := eq_true q214
           have p215 : 0 ≤ (x7_2 : Int) := dd_
           have q215 : x7_2 < (x6_2.length : Int) := dd_
           obtain ⟨ad215, e215, hx215_0⟩ := Kd.at_int (Kd.R_reads' HO_6.out).2.2 x7_2 p215 q215
           obtain rfl : ad214 = ad215 := (by injection e215)
           replace p215 := eq_true p215
           replace q215 := eq_true q215
           obtain ⟨Ao48, co48, eo48⟩ := Kd.R_slice HO_5.out
           (first | subst eo48 | (injection eo48 with f1_ f2_ f3_; have f4_ := f1_.symm; have f5_ := f3_.symm; clear f1_ f2_ f3_; subst f4_; subst f5_))
           refine start_ (n := 14) (S := fun w' => w'.cell? ad214 = some (.int .i64 (rd x6_2 0)) ∧ w'.cell? (ad214.add (x7_2).toNat) = some (.int .i64 (rd x6_2 x7_2))) (ds := []) #[F_,F_,F_,F_,F_,F_,F_,F_,F_,F_,F_,F_,F_,F_] (by kernel_rfl) rfl rfl ⟨hx214_0, hx215_0⟩ (fun hHeld => ?_); refine with_tabW spec_l91Twin.tab9 spec_l91Twin.bits9 (fun HT_ HW_ => ?_)
           generalize wr.drew = w46 at HO_5 HO_6 HI200 HB hx214_0 hx215_0 hHeld ⊢
           refine p_ 0 30 (m_ 14 1) HT_.out ?_
           refine p_ 1 31 (m_ 14 3) HT_.out ?_
           refine p_ 2 32 (m_ 14 7) HT_.out ?_
           refine p_ 4 34 (m_ 14 23) HT_.out ?_
           refine p_ 5 35 (m_ 14 55) HT_.out ?_
           refine p_ 6 36 (m_ 14 119) HT_.out ?_
           refine t2_ 3 33 (m_ 14 127) HT_.out HW_.out hHeld ?_
           refine t2_ 7 37 (m_ 14 255) HT_.out HW_.out hHeld ?_
           refine one_ (i := 8) (N := some 38) (m_ 14 511) rfl rfl (one_of HT_.out (by kernel_rfl)) (by decide) (fun K hK => ?_)
           refine goes_ Try.func118 (by kernel_rfl) rfl #[.slice Ao48 t201.length co48, .int .i64 (rd x6_2 0), .int .i64 (rd x6_2 x7_2)] (by rfl) rfl rfl ll_ ?_
           with_reducible refine (spec_PlaneJoin.calls k2 _ _ t201 (rd x6_2 0) (rd x6_2 x7_2) t216 false _ ?side1 ?side2 A22.out).mono ?_
           (case side1 => exact cc_ HO_5)
           (case side2 => exact (Kd.R_reads' HO_5.out).2.1)
           rintro e w49 ⟨rfl, hb⟩
           have HS0_ := (hb.cell (World.block_lt_of_cell? _ _ (hHeld.1))).trans (hHeld.1)
           have HS1_ := (hb.cell (World.block_lt_of_cell? _ _ (hHeld.2))).trans (hHeld.2)
           refine ⟨_, rfl, ?_⟩
           have n0_ := Aside0.mk (Kd.R_below (rr_ HO_5) hb)
           have n1_ := Aside0.mk (Kd.R_below (rr_ HO_6) hb)
           have n2_ := Aside0.mk (IsS76.below (by repeat (first | (with_reducible first | exact HI200.out | apply IsS76.alloc | apply IsS76.drewN | apply IsS76.drew | apply IsS76.set_1) | exact HI200.out)) hb)
           have n3_ := Aside0.mk (below_step (by repeat (first | (with_reducible first | exact HB.out | apply below_alloc | apply pw_below_drewN | apply below_drew1 | refine below_set ?_ (IsS76.ge HI200.out)) | exact HB.out)) hb)
           clear HO_5
           clear HO_6
           clear HI200
           clear HB
           have HO_5 := n0_
           have HO_6 := n1_
           have HI200 := n2_
           have HB := n3_
           clear n0_ n1_ n2_ n3_
           (try clear hb)
           (try clear hb2)
           (try clear hk)
           (try clear hi)
           refine hK.out _ _ ⟨HS0_, HS1_⟩ (fun hHeld => ?_)
           clear hK K
           refine norm_ (a' := ?_) ?_ ?_; rotate_left; (show Act.put _ (some 38) _ = _; simp only [Act.put, List.setIfInBounds_toArray, List.set_cons_zero, List.set_cons_succ, i64_w, i32_w]; rfl)
           refine p_ 9 29 (m_ 14 1023) HT_.out ?_
           refine p_ 10 39 (m_ 14 2047) HT_.out ?_
           refine p_ 11 40 (m_ 14 4095) HT_.out ?_
           refine p_ 12 8 (m_ 14 8191) HT_.out ?_
           refine p_ 13 9 (m_ 14 16383) HT_.out ?_
           refine done_ (done_of HT_.out (by kernel_rfl)) ?_
           try go_wp2_with (first | (refine goesL_ (some 42) rfl rfl Try.func79 (by kernel_rfl) rfl #[.pointer (some ⟨g200, 0, none⟩), .int .i64 91] rfl ll_ ?_; (with_reducible refine (spec_l6Rd_pick.calls k2 g200 t198 x201001_2 91 t218 t219 w _ ?side1 ?side2 A23.out).mono ?_); (case side1 => repeat (first | (with_reducible first | exact HI200.out | apply IsS76.alloc | apply IsS76.drewN | apply IsS76.drew | apply IsS76.set_1) | exact HI200.out)); (case side2 => repeat (first | (with_reducible first | exact HB.out | apply below_alloc | apply pw_below_drewN | apply below_drew1 | refine below_set ?_ (IsS76.ge HI200.out)) | exact HB.out)); rintro e w50 ⟨rfl, hi, hb, hk⟩; refine ⟨_, rfl, ?_⟩; have n0_ := Aside0.mk (Kd.R_mono (Kd.R_keep (IsS76.apart (show IsS76 w _ g200 t198 x201001_2 from by repeat (first | (with_reducible first | exact HI200.out | apply IsS76.alloc | apply IsS76.drewN | apply IsS76.drew | apply IsS76.set_1) | exact HI200.out)) (rr_ HO_5) (by decide)) hk (fun _ h => h.2)) (fun _ h => h.1)); have n1_ := Aside0.mk (Kd.R_mono (Kd.R_keep (IsS76.apart (show IsS76 w _ g200 t198 x201001_2 from by repeat (first | (with_reducible first | exact HI200.out | apply IsS76.alloc | apply IsS76.drewN | apply IsS76.drew | apply IsS76.set_1) | exact HI200.out)) (rr_ HO_6) (by decide)) hk (fun _ h => h.2)) (fun _ h => h.1)); have n2_ := Aside0.mk (hb); have n3_ := Aside0.mk (hi); clear HO_5; clear HO_6; clear HB; clear HI200; have HO_5 := n0_; have HO_6 := n1_; have HB := n2_; have HI200 := n3_; clear n0_ n1_ n2_ n3_; (try clear hb); (try clear hb2); (try clear hk); (try clear hi)) | (at_builtin; refine Kd.R_append (Kd.int .i64) (w0 := w) w.heap.size rfl (.tmp 53) (.tmp 55) 23 3 (.int .i64 0) 8 rfl Try.underlying23 info3 rfl (by decide) (by omega) (.slice (some ad214) x6_2.length co47) x6_2 t218 [.int .i64 t218] (fun k_ => some k_ ≠ (.slice Ao48 t201.length co48 : Value).ownBlock) (fun _ => False) rfl rfl ?aP (fun _ hk => hk.elim) ?aF ?aO ?aB ?aS ?aL ?_; (case aP => exact rfl); (case aB => exact (by repeat (first | (with_reducible first | exact HB.out | apply below_alloc | apply pw_below_drewN | apply below_drew1 | refine below_set ?_ (IsS76.ge HI200.out)) | exact HB.out))); (case aF => exact (fun k_ hk => Kd.fresh' (Kd.R_lt (rr_ HO_5)) k_ hk)); (case aO => exact (rr_ HO_6)); (case aS => exact (below_size (by repeat (first | (with_reducible first | exact HB.out | apply below_alloc | apply pw_below_drewN | apply below_drew1 | refine below_set ?_ (IsS76.ge HI200.out)) | exact HB.out)))); (case aL => have := LMc45.out; omega); intro v231 w51 ho hb hg hat; rw [← Ny230.out] at ho; have n0_ := Aside0.mk (Kd.R_after (ok := (fun _ => True)) (by (with_reducible repeat (first | apply Kd.R_alloc | apply Kd.R_drewN | apply Kd.R_drew)); exact Kd.R_mono HO_5.out (fun _ hk => ⟨trivial, hk⟩)) hg hat); have n1_ := Aside0.mk (IsS76.grown (by repeat (first | (with_reducible first | exact HI200.out | apply IsS76.alloc | apply IsS76.drewN | apply IsS76.drew | apply IsS76.set_1) | exact HI200.out)) hg (IsS76.own_ne HI200.out HO_6.out (by decide))); have n2_ := Aside0.mk (hb); have n3_ := Aside0.mk (ho); clear HO_5; clear HI200; clear HB; clear HO_6; have HO_5 := n0_; have HI200 := n1_; have HB := n2_; have HO232 := n3_; clear n0_ n1_ n2_ n3_; clear ho hb hg hat))
           go_roundg k2
           case measure => have := HJ5.out; have := HK2.out; omega
           case rel => exact ⟨(y230), (wrap64 (x7_2 + 1)), (t219), (by first | rfl | (simp; done) | (simp [*]; done)), H', ⟨by have := HJ5.out; have := HK2.out; omega⟩, ⟨by (with_reducible repeat (first | apply Kd.R_alloc | apply Kd.R_drewN | apply Kd.R_drew)); exact Kd.R_mono HO_5.out (fun _ hk => hk.2)⟩, ⟨rr_ HO232⟩, ⟨by repeat (first | (with_reducible first | exact HI200.out | apply IsS76.alloc | apply IsS76.drewN | apply IsS76.drew | apply IsS76.set_1) | exact HI200.out)⟩, ⟨by repeat (first | (with_reducible first | exact HB.out | apply below_alloc | apply pw_below_drewN | apply below_drew1 | refine below_set ?_ (IsS76.ge HI200.out)) | exact HB.out)⟩⟩
          ·rw [if_neg c45] at H
           exact absurd H (by simp)
        ·rw [if_neg c21] at H
         exact absurd H (by simp)
       ·rw [if_neg c20] at H
        exact absurd H (by simp)
      ·rw [if_neg c19] at H
       exact absurd H (by simp)
     ·rw [if_neg c18] at H
      have c18b0 : decide (x7_2 ≤ 3) = false := decide_eq_false c18
      clear c18
      simp only [Option.some.injEq, Prod.mk.injEq] at H
      obtain ⟨rfl, rfl⟩ := H
      go_wp2
      go_ret2
      exact ⟨_, _, ee_, by (with_reducible repeat (first | apply Kd.R_alloc | apply Kd.R_drewN | apply Kd.R_drew)); exact HO_5.out, by (with_reducible repeat (first | apply Kd.R_alloc | apply Kd.R_drewN | apply Kd.R_drew)); exact HO_6.out, by repeat (first | (with_reducible first | exact HB.out | apply below_alloc | apply pw_below_drewN | apply below_drew1 | refine below_set ?_ (IsS76.ge HI200.out)) | exact HB.out)⟩
end Go.Proofs.Ytcbkoecanldlpaa.P

namespace Go.Proofs.Ytcbkoecanldlpaa.P
open Go.RowKit Go.Proofs.YtcbkoecanldlpaaW.PrintWords Go.Proofs.YtcbkoecanldlpaaW.PrintLast
set_option linter.unusedVariables false
set_option linter.unusedSimpArgs false

def spec_DrawTwinCloses.f (k : Nat) (l0 : List Int) : Option (List Int × List Int) := (spec_l91Twin.f k l0).bind fun bt375 => (some (bt375.1, bt375.2))
set_option maxHeartbeats 8000000 in
set_option maxRecDepth 100000 in
theorem spec_DrawTwinCloses.calls (k : Nat) (A0 : Option Addr) (c0 : Nat) (l0 : List Int) (r1 : List Int) (r2 : List Int) (w : World) (hr0 : Kd.C (Kd.int .u8) w A0 l0.length l0) (hc0 : l0.length ≤ c0) (h : spec_DrawTwinCloses.f k l0 = some (r1, r2)) :
  Calls Try.prog 21 #[.slice A0 l0.length c0] w fun e w' => ∃ v0_ v1_ : Value, e = .returned (.tuple #[v0_, v1_]) ∧ Kd.R (Kd.int .i64) 3 w' w.heap.size (fun k_ => some k_ ≠ (v1_ : Value).ownBlock) v0_ r1 ∧ Kd.R (Kd.int .i64) 3 w' w.heap.size (fun k_ => some k_ ≠ (v0_ : Value).ownBlock) v1_ r2 ∧ Below w.heap.size w w' := by
 have HR0 := Aside0.mk hr0
 have HC0 := Aside0.mk hc0
 clear hr0 hc0
 have HB := Aside0.mk (Below.refl w.heap.size w)
 have H : ((spec_l91Twin.f k l0).bind fun bt375 => (some (bt375.1, bt375.2))) = some (r1, r2) := h
 clear h
 replace H := Option.bind_eq_some_iff.mp H
 obtain ⟨⟨t375, t376⟩, A20, H⟩ := H
 replace H : (some (t375, t376)) = some (r1, r2) := H
 have A2 := Aside0.mk A20
 clear A20
 simp only [Option.some.injEq, Prod.mk.injEq] at H
 obtain ⟨rfl, rfl⟩ := H
 go_enter Try.func21, Try.ntmps21
 go_wp2_with (first | (refine goesL_ (some 5) rfl rfl Try.func60 (by kernel_rfl) rfl #[.slice A0 l0.length c0] rfl ll_ ?_; (with_reducible refine (spec_l91Twin.calls k _ _ l0 t375 t376 _ ?side1 ?side2 A2.out).mono ?_); (case side1 => exact ss_ HR0); (case side2 => exact HC0.out); rintro e w3 ⟨v377, v379, rfl, ho0, ho1, hb⟩; refine ⟨_, rfl, ?_⟩; have n0_ := Aside0.mk (Kd.R_lower ho0 (below_size (bb_ HB))); have n1_ := Aside0.mk (Kd.R_lower ho1 (below_size (bb_ HB))); have n2_ := Aside0.mk (below_step (bb_ HB) hb); clear HB; have HO378 := n0_; have HO380 := n1_; have HB := n2_; clear n0_ n1_ n2_; (try clear hb); (try clear hb2); (try clear hk); (try clear hi); (try clear ho0); (try clear ho1)))
 go_ret2
 exact ⟨_, _, ee_, by (with_reducible repeat (first | apply Kd.R_alloc | apply Kd.R_drewN | apply Kd.R_drew)); exact HO378.out, by (with_reducible repeat (first | apply Kd.R_alloc | apply Kd.R_drewN | apply Kd.R_drew)); exact HO380.out, bb_ HB⟩
end Go.Proofs.Ytcbkoecanldlpaa.P

namespace Go.Proofs.Ytcbkoecanldlpaa.P
open Go.RowKit Go.Proofs.YtcbkoecanldlpaaW.PrintWords Go.Proofs.YtcbkoecanldlpaaW.PrintLast
set_option linter.unusedVariables false
set_option linter.unusedSimpArgs false

def spec_l3Three.f (k : Nat) (l0 : List Int) (a1 : Int) (a2 : Int) (a3 : Int) : Option (Bool) := (spec_l3Join.f k l0 a1 a2).bind fun t275 => ((spec_l3On.f l0 a3 t275).bind fun t276 => (some t276))
set_option maxHeartbeats 8000000 in
set_option maxRecDepth 100000 in
theorem spec_l3Three.calls (k : Nat) (A0 : Option Addr) (c0 : Nat) (l0 : List Int) (a1 : Int) (a2 : Int) (a3 : Int) (r : Bool) (w : World) (hr0 : Kd.C (Kd.int .i64) w A0 l0.length l0) (hc0 : l0.length ≤ c0) (h : spec_l3Three.f k l0 a1 a2 a3 = some r) :
  Calls Try.prog 65 #[.slice A0 l0.length c0, .int .i64 a1, .int .i64 a2, .int .i64 a3] w fun e w' => e = .returned (.bool r) ∧ Drawn0 w w' := by
 have HR0 := Aside0.mk hr0
 have HC0 := Aside0.mk hc0
 clear hr0 hc0
 have H : ((spec_l3Join.f k l0 a1 a2).bind fun t275 => ((spec_l3On.f l0 a3 t275).bind fun t276 => (some t276))) = some r := h
 clear h
 replace H := Option.bind_eq_some_iff.mp H
 obtain ⟨t275, A50, H⟩ := H
 replace H : ((spec_l3On.f l0 a3 t275).bind fun t276 => (some t276)) = some r := H
 have A5 := Aside0.mk A50
 clear A50
 replace H := Option.bind_eq_some_iff.mp H
 obtain ⟨t276, A60, H⟩ := H
 replace H : (some t276) = some r := H
 have A6 := Aside0.mk A60
 clear A60
 obtain rfl := Option.some.inj H
 go_enter Try.func65, Try.ntmps65
 go_wp2_with (first | (refine goesL_ (some 14) rfl rfl Try.func66 (by kernel_rfl) rfl #[.slice A0 l0.length c0, .int .i64 a1, .int .i64 a2] rfl ll_ ?_; (with_reducible refine (spec_l3Join.calls k _ _ l0 a1 a2 t275 _ ?side1 ?side2 A5.out).mono ?_); (case side1 => exact ss_ HR0); (case side2 => exact HC0.out); rintro e w' ⟨rfl, ⟨nd, rfl⟩⟩; refine ⟨_, rfl, ?_⟩) | (refine goesL_ (some 15) rfl rfl Try.func106 (by kernel_rfl) rfl #[.slice A0 l0.length c0, .int .i64 a3, .int .i64 t275] rfl ll_ ?_; (with_reducible refine (spec_l3On.calls _ _ l0 a3 t275 t276 _ ?side1 ?side2 A6.out).mono ?_); (case side1 => exact ss_ HR0); (case side2 => exact HC0.out); rintro e w' ⟨rfl, ⟨nd, rfl⟩⟩; refine ⟨_, rfl, ?_⟩))
 go_ret
 exact ⟨by first | rfl | (simp; done) | (simp [*]; done), by repeat (first | exact Drawn0.refl _ | apply Drawn0.step)⟩
end Go.Proofs.Ytcbkoecanldlpaa.P

namespace Go.Proofs.Ytcbkoecanldlpaa.P
open Go.RowKit Go.Proofs.YtcbkoecanldlpaaW.PrintWords Go.Proofs.YtcbkoecanldlpaaW.PrintLast
set_option linter.unusedVariables false
set_option linter.unusedSimpArgs false

mutual
def spec_l4Different.l0 : Nat → List Int → Int → Option (Bool)
 | 0, _, _ => none
 | k + 1, x0, x3 => if x3 < (x0.length : Int) then (if 0 ≤ x3 then ((spec_l3In.f (rd x0 x3)).bind fun t272 => (if t272 = true then (spec_l4Different.l1 k x0 x3 0) else (some false))) else (none)) else (some true)
def spec_l4Different.l1 : Nat → List Int → Int → Int → Option (Bool)
 | 0, _, _, _ => none
 | k + 1, x0, x3, x4 => if x4 < x3 then (if 0 ≤ x4 then (if x4 < (x0.length : Int) then (if 0 ≤ x3 then (if x3 < (x0.length : Int) then (if (rd x0 x4) = (rd x0 x3) then (some false) else (spec_l4Different.l1 k x0 x3 (wrap64 (x4 + 1)))) else (none)) else (none)) else (none)) else (none)) else (spec_l4Different.l0 k x0 (wrap64 (x3 + 1)))
end
def spec_l4Different.f (k : Nat) (l0 : List Int) : Option (Bool) := spec_l4Different.l0 k l0 0
set_option maxHeartbeats 8000000 in
set_option maxRecDepth 100000 in
theorem spec_l4Different.calls (k : Nat) (A0 : Option Addr) (c0 : Nat) (l0 : List Int) (r : Bool) (w : World) (hr0 : Kd.C (Kd.int .i64) w A0 l0.length l0) (hc0 : l0.length ≤ c0) (h : spec_l4Different.f k l0 = some r) :
  Calls Try.prog 64 #[.slice A0 l0.length c0] w fun e w' => e = .returned (.bool r) ∧ Drawn0 w w' := by
 have HR0 := Aside0.mk hr0
 have HC0 := Aside0.mk hc0
 clear hr0 hc0
 have H : (spec_l4Different.l0 k l0 0) = some r := h
 clear h
 have H' := Aside0.mk H
 clear H
 go_enter Try.func64, Try.ntmps64
 go_wp2
 repeat (go_quiet (fail); try go_wp2)
 go_loopg [3] k (fun kq v3 w' => ∃ (x3_1 : Int), v3 = .int .i64 x3_1 ∧ Aside0 (spec_l4Different.l0 kq l0 x3_1 = some r) ∧ Aside0 (kq ≤ k) ∧ Drawn0 w w')
 case atStart => exact ⟨(0), (by first | rfl | (simp; done) | (simp [*]; done)), H', ⟨Nat.le_refl _⟩, by repeat (first | exact Drawn0.refl _ | apply Drawn0.step)⟩
 case round =>
  clear H'
  obtain ⟨x3_1, rfl, HA, HK1, ⟨m1, rfl⟩⟩ := hrel
  cases gk with
  | zero => exact absurd HA.out (by simp [spec_l4Different.l0])
  | succ k1 =>
   have H := HA.out
   clear HA
   simp only [spec_l4Different.l0] at H
   by_cases c2 : x3_1 < (l0.length : Int)
   ·rw [if_pos c2] at H
    have c2b0 : decide (x3_1 < (l0.length : Int)) = true := decide_eq_true c2
    clear c2
    by_cases c3 : 0 ≤ x3_1
    ·rw [if_pos c3] at H
     have c3b0 : decide (0 ≤ x3_1) = true := decide_eq_true c3
     clear c3
     replace H := Option.bind_eq_some_iff.mp H
     obtain ⟨t272, A40, H⟩ := H
     replace H : (if t272 = true then (spec_l4Different.l1 k1 l0 x3_1 0) else (some false)) = some r := H
     have A4 := Aside0.mk A40
     clear A40
     by_cases c5 : t272 = true
     ·subst c5
      have H1 : (spec_l4Different.l1 k1 l0 x3_1 0) = some r := by rw [if_pos rfl] at H; exact H
      clear H
      have H := H1
      clear H1
      have H' := Aside0.mk H
      clear H
      have p271 : 0 ≤ (x3_1 : Int) := dd_
      have q271 : x3_1 < (l0.length : Int) := dd_
      obtain ⟨ad271, e271, hx271_0⟩ := Kd.at_int HR0.out x3_1 p271 q271
      cases e271
      replace p271 := eq_true p271
      replace q271 := eq_true q271
      go_wp2_with (first | (go_at_call 83; (with_reducible refine (spec_l3In.calls (rd l0 x3_1) true _ A4.out).mono ?_); rintro e w' ⟨rfl, ⟨nd, rfl⟩⟩; (try first | exact ⟨rfl, _, World.drewN_drewN _ _ _⟩ | exact ⟨rfl, _, Eq.trans (World.drewN_drewN _ _ _) (congrArg (World.drewN _) (Nat.add_assoc _ _ _))⟩)))
      repeat (go_quiet (first | (go_at_call 83; (with_reducible refine (spec_l3In.calls (rd l0 x3_1) true _ A4.out).mono ?_); rintro e w' ⟨rfl, ⟨nd, rfl⟩⟩; (try first | exact ⟨rfl, _, World.drewN_drewN _ _ _⟩ | exact ⟨rfl, _, Eq.trans (World.drewN_drewN _ _ _) (congrArg (World.drewN _) (Nat.add_assoc _ _ _))⟩))); try go_wp2_with (first | (go_at_call 83; (with_reducible refine (spec_l3In.calls (rd l0 x3_1) true _ A4.out).mono ?_); rintro e w' ⟨rfl, ⟨nd, rfl⟩⟩; (try first | exact ⟨rfl, _, World.drewN_drewN _ _ _⟩ | exact ⟨rfl, _, Eq.trans (World.drewN_drewN _ _ _) (congrArg (World.drewN _) (Nat.add_assoc _ _ _))⟩))))
      go_loopg [4] k1 (fun kq v4 w' => ∃ (x4_2 : Int), v4 = .int .i64 x4_2 ∧ Aside0 (spec_l4Different.l1 kq l0 x3_1 x4_2 = some r) ∧ Aside0 (kq ≤ k1) ∧ Drawn0 w w')
      case atStart => exact ⟨(0), (by first | rfl | (simp; done) | (simp [*]; done)), H', ⟨Nat.le_refl _⟩, by repeat (first | exact Drawn0.refl _ | apply Drawn0.step)⟩
      case round =>
       clear H'
       try clear c2
       try clear c2b0
       try clear p2
       try clear q2
       try clear hx2
       try clear c3
       try clear c3b0
       try clear c5
       try clear hx271_0
       try clear p271
       try clear q271
       obtain ⟨x4_2, rfl, HA, HK2, ⟨m2, rfl⟩⟩ := hrel
       cases gk with
       | zero => exact absurd HA.out (by simp [spec_l4Different.l1])
       | succ k2 =>
        have H := HA.out
        clear HA
        simp only [spec_l4Different.l1] at H
        by_cases c6 : x4_2 < x3_1
        ·rw [if_pos c6] at H
         have c6b0 : decide (x4_2 < x3_1) = true := decide_eq_true c6
         clear c6
         by_cases c7 : 0 ≤ x4_2
         ·rw [if_pos c7] at H
          have c7b0 : decide (0 ≤ x4_2) = true := decide_eq_true c7
          clear c7
          by_cases c8 : x4_2 < (l0.length : Int)
          ·rw [if_pos c8] at H
           have c8b0 : decide (x4_2 < (l0.length : Int)) = true := decide_eq_true c8
           clear c8
           by_cases c9 : 0 ≤ x3_1
           ·rw [if_pos c9] at H
            have c9b0 : decide (0 ≤ x3_1) = true := decide_eq_true c9
            clear c9
            by_cases c10 : x3_1 < (l0.length : Int)
            ·rw [if_pos c10] at H
             have c10b0 : decide (x3_1 < (l0.length : Int)) = true := decide_eq_true c10
             clear c10
             by_cases c11 : (rd l0 x4_2) = (rd l0 x3_1)
             ·rw [if_pos c11] at H
              have c11b0 : ((rd l0 x4_2) == (rd l0 x3_1)) = true := beq_iff_eq.mpr c11
              have c11b1 : ((rd l0 x4_2) != (rd l0 x3_1)) = false := bne_eq_false_iff_eq.mpr c11
              clear c11
              obtain rfl := Option.some.inj H
              have p273 : 0 ≤ (x4_2 : Int) := dd_
              have q273 : x4_2 < (l0.length : Int) := dd_
              obtain ⟨ad273, e273, hx273_0⟩ := Kd.at_int HR0.out x4_2 p273 q273
              obtain rfl : ad271 = ad273 := (by injection e273)
              replace p273 := eq_true p273
              replace q273 := eq_true q273
              have p274 : 0 ≤ (x3_1 : Int) := dd_
              have q274 : x3_1 < (l0.length : Int) := dd_
              obtain ⟨ad274, e274, hx274_0⟩ := Kd.at_int HR0.out x3_1 p274 q274
              obtain rfl : ad271 = ad274 := (by injection e274)
              replace p274 := eq_true p274
              replace q274 := eq_true q274
              go_wp2
              repeat (go_quiet (fail); try go_wp2)
              go_ret
              exact ⟨by first | rfl | (simp; done) | (simp [*]; done), by repeat (first | exact Drawn0.refl _ | apply Drawn0.step)⟩
             ·rw [if_neg c11] at H
              have c11b0 : ((rd l0 x4_2) == (rd l0 x3_1)) = false := beq_eq_false_iff_ne.mpr c11
              have c11b1 : ((rd l0 x4_2) != (rd l0 x3_1)) = true := bne_iff_ne.mpr c11
              have H' := Aside0.mk H
              clear H
              have p273 : 0 ≤ (x4_2 : Int) := dd_
              have q273 : x4_2 < (l0.length : Int) := dd_
              obtain ⟨ad273, e273, hx273_0⟩ := Kd.at_int HR0.out x4_2 p273 q273
              obtain rfl : ad271 = ad273 := (by injection e273)
              replace p273 := eq_true p273
              replace q273 := eq_true q273
              have p274 : 0 ≤ (x3_1 : Int) := dd_
              have q274 : x3_1 < (l0.length : Int) := dd_
              obtain ⟨ad274, e274, hx274_0⟩ := Kd.at_int HR0.out x3_1 p274 q274
              obtain rfl : ad271 = ad274 := (by injection e274)
              replace p274 := eq_true p274
              replace q274 := eq_true q274
              go_wp2
              repeat (go_quiet (fail); try go_wp2)
              go_roundg k2
              case measure => have := HK1.out; have := HK2.out; omega
              case rel => exact ⟨(wrap64 (x4_2 + 1)), (by first | rfl | (simp; done) | (simp [*]; done)), H', ⟨by have := HK1.out; have := HK2.out; omega⟩, by repeat (first | exact Drawn0.refl _ | apply Drawn0.step)⟩
            ·rw [if_neg c10] at H
             exact absurd H (by simp)
           ·rw [if_neg c9] at H
            exact absurd H (by simp)
          ·rw [if_neg c8] at H
           exact absurd H (by simp)
         ·rw [if_neg c7] at H
          exact absurd H (by simp)
        ·rw [if_neg c6] at H
         have c6b0 : decide (x4_2 < x3_1) = false := decide_eq_false c6
         clear c6
         have H' := Aside0.mk H
         clear H
         go_wp2
         repeat (go_quiet (fail); try go_wp2)
         go_roundg k2
         case measure => have := HK1.out; have := HK2.out; omega
         case rel => exact ⟨(wrap64 (x3_1 + 1)), (by first | rfl | (simp; done) | (simp [*]; done)), H', ⟨by have := HK1.out; have := HK2.out; omega⟩, by repeat (first | exact Drawn0.refl _ | apply Drawn0.step)⟩
     ·replace c5 := Bool.eq_false_iff.mpr c5
      subst c5
      have H1 : (some false) = some r := by rw [if_neg (show ¬ (false = true) by decide)] at H; exact H
      clear H
      have H := H1
      clear H1
      obtain rfl := Option.some.inj H
      have p271 : 0 ≤ (x3_1 : Int) := dd_
      have q271 : x3_1 < (l0.length : Int) := dd_
      obtain ⟨ad271, e271, hx271_0⟩ := Kd.at_int HR0.out x3_1 p271 q271
      cases e271
      replace p271 := eq_true p271
      replace q271 := eq_true q271
      go_wp2_with (first | (go_at_call 83; (with_reducible refine (spec_l3In.calls (rd l0 x3_1) false _ A4.out).mono ?_); rintro e w' ⟨rfl, ⟨nd, rfl⟩⟩; (try first | exact ⟨rfl, _, World.drewN_drewN _ _ _⟩ | exact ⟨rfl, _, Eq.trans (World.drewN_drewN _ _ _) (congrArg (World.drewN _) (Nat.add_assoc _ _ _))⟩)))
      repeat (go_quiet (first | (go_at_call 83; (with_reducible refine (spec_l3In.calls (rd l0 x3_1) false _ A4.out).mono ?_); rintro e w' ⟨rfl, ⟨nd, rfl⟩⟩; (try first | exact ⟨rfl, _, World.drewN_drewN _ _ _⟩ | exact ⟨rfl, _, Eq.trans (World.drewN_drewN _ _ _) (congrArg (World.drewN _) (Nat.add_assoc _ _ _))⟩))); try go_wp2_with (first | (go_at_call 83; (with_reducible refine (spec_l3In.calls (rd l0 x3_1) false _ A4.out).mono ?_); rintro e w' ⟨rfl, ⟨nd, rfl⟩⟩; (try first | exact ⟨rfl, _, World.drewN_drewN _ _ _⟩ | exact ⟨rfl, _, Eq.trans (World.drewN_drewN _ _ _) (congrArg (World.drewN _) (Nat.add_assoc _ _ _))⟩))))
      go_ret
      exact ⟨by first | rfl | (simp; done) | (simp [*]; done), by repeat (first | exact Drawn0.refl _ | apply Drawn0.step)⟩
    ·rw [if_neg c3] at H
     exact absurd H (by simp)
   ·rw [if_neg c2] at H
    have c2b0 : decide (x3_1 < (l0.length : Int)) = false := decide_eq_false c2
    clear c2
    obtain rfl := Option.some.inj H
    go_wp2
    repeat (go_quiet (fail); try go_wp2)
    go_ret
    exact ⟨by first | rfl | (simp; done) | (simp [*]; done), by repeat (first | exact Drawn0.refl _ | apply Drawn0.step)⟩
end Go.Proofs.Ytcbkoecanldlpaa.P

namespace Go.Proofs.Ytcbkoecanldlpaa.P
open Go.RowKit Go.Proofs.YtcbkoecanldlpaaW.PrintWords Go.Proofs.YtcbkoecanldlpaaW.PrintLast
set_option linter.unusedVariables false
set_option linter.unusedSimpArgs false

mutual
def spec_TwinIn.j0 : Nat → List Int → List Int → Bool → Option (Bool)
 | 0, _, _, _ => none
 | k + 1, x0, x1, x21 => if x21 = true then (some false) else (spec_TwinIn.l0 k x0 x1 1)
def spec_TwinIn.l0 : Nat → List Int → List Int → Int → Option (Bool)
 | 0, _, _, _ => none
 | k + 1, x0, x1, x5 => if x5 ≤ 3 then (if 0 < (x1.length : Int) then (if 0 ≤ x5 then (if x5 < (x1.length : Int) then (if 0 ≤ (wrap64 (x5 + 3)) then (if (wrap64 (x5 + 3)) < (x1.length : Int) then ((spec_l3Three.f k x0 (rd x1 0) (rd x1 x5) (rd x1 (wrap64 (x5 + 3)))).bind fun t282 => (if t282 = true then (spec_TwinIn.l0 k x0 x1 (wrap64 (x5 + 1))) else (some false))) else (none)) else (none)) else (none)) else (none)) else (none)) else (if 0 < (x1.length : Int) then (if 1 < (x1.length : Int) then ((spec_l3Join.f k x0 (rd x1 0) (rd x1 1)).bind fun t285 => (if 2 < (x1.length : Int) then ((spec_l3Join.f k x0 (rd x1 0) (rd x1 2)).bind fun t288 => (if 3 < (x1.length : Int) then ((spec_l3Join.f k x0 (rd x1 0) (rd x1 3)).bind fun t291 => (if t285 = t288 then (some false) else (if t285 = t291 then (some false) else (if t288 = t291 then (some false) else ((spec_l3Three.f k x0 (rd x1 1) (rd x1 2) (rd x1 3)).bind fun t295 => (if t295 = true then (some false) else (if 4 < (x1.length : Int) then (if 5 < (x1.length : Int) then (if 6 < (x1.length : Int) then ((spec_l3Three.f k x0 (rd x1 4) (rd x1 5) (rd x1 6)).bind fun t299 => (some (!t299))) else (none)) else (none)) else (none)))))))) else (none))) else (none))) else (none)) else (none))
end
def spec_TwinIn.f (k : Nat) (l0 : List Int) (l1 : List Int) : Option (Bool) := (spec_SystemIn.f k l0).bind fun t277 => (if t277 = true then (if (l1.length : Int) = 7 then ((spec_l4Different.f k l1).bind fun t278 => (spec_TwinIn.j0 k l0 l1 (!t278))) else (spec_TwinIn.j0 k l0 l1 true)) else (spec_TwinIn.j0 k l0 l1 true))
def spec_TwinIn.T6 : Bool × List (List Nat × List Nat) := (true, [([], []), ([], []), ([1], [1]), ([2], [2]), ([], []), ([], []), ([4, 5], [4, 5]), ([6], [6]), ([], []), ([], []), ([9], [9]), ([8, 10], [8, 10]), ([11], [11]), ([0, 3, 7, 12], [0, 3, 7, 12]), ([13], [13])])
def spec_TwinIn.B6 : List Nat := [0, 0, 2, 6, 0, 0, 48, 112, 0, 0, 512, 1792, 3840, 8191, 16383]
theorem spec_TwinIn.tab6 : rtab .any (opsOf Try.f17 6) = spec_TwinIn.T6 := by kernel_rfl
theorem spec_TwinIn.bits6 : waitsOk spec_TwinIn.T6.2 spec_TwinIn.B6 = true := by kernel_rfl
def spec_TwinIn.T8 : Bool × List (List Nat × List Nat) := (true, [([], []), ([], []), ([1], [1]), ([2], [2]), ([], []), ([4], [4]), ([5], [5]), ([0, 3, 6], [0, 3, 6]), ([7, 7, 0, 1, 2, 3, 4, 5, 6, 7], [7])])
def spec_TwinIn.B8 : List Nat := [0, 0, 2, 6, 0, 16, 48, 127, 255]
theorem spec_TwinIn.tab8 : rtab .any (opsOf Try.f17 8) = spec_TwinIn.T8 := by kernel_rfl
theorem spec_TwinIn.bits8 : waitsOk spec_TwinIn.T8.2 spec_TwinIn.B8 = true := by kernel_rfl
def spec_TwinIn.T9 : Bool × List (List Nat × List Nat) := (true, [([], []), ([], []), ([1], [1]), ([2], [2]), ([], []), ([4], [4]), ([5], [5]), ([0, 3, 6], [0, 3, 6]), ([7, 7, 0, 1, 2, 3, 4, 5, 6, 7], [7])])
def spec_TwinIn.B9 : List Nat := [0, 0, 2, 6, 0, 16, 48, 127, 255]
theorem spec_TwinIn.tab9 : rtab .any (opsOf Try.f17 9) = spec_TwinIn.T9 := by kernel_rfl
theorem spec_TwinIn.bits9 : waitsOk spec_TwinIn.T9.2 spec_TwinIn.B9 = true := by kernel_rfl
def spec_TwinIn.T10 : Bool × List (List Nat × List Nat) := (true, [([], []), ([], []), ([1], [1]), ([2], [2]), ([], []), ([4], [4]), ([5], [5]), ([0, 3, 6], [0, 3, 6]), ([7, 7, 0, 1, 2, 3, 4, 5, 6, 7], [7])])
def spec_TwinIn.B10 : List Nat := [0, 0, 2, 6, 0, 16, 48, 127, 255]
theorem spec_TwinIn.tab10 : rtab .any (opsOf Try.f17 10) = spec_TwinIn.T10 := by kernel_rfl
theorem spec_TwinIn.bits10 : waitsOk spec_TwinIn.T10.2 spec_TwinIn.B10 = true := by kernel_rfl
def spec_TwinIn.T11 : Bool × List (List Nat × List Nat) := (true, [([], []), ([], []), ([0, 1], [0, 1]), ([2], [2]), ([3], [3]), ([3], [3]), ([4, 5, 3], [3, 4, 5]), ([3, 6], [3, 6]), ([7, 3], [7]), ([8], [8]), ([8], [8]), ([9, 10, 8], [8, 9, 10]), ([8, 11], [8, 11]), ([12, 8], [12]), ([13], [13]), ([13], [13]), ([15, 13], [13, 15]), ([16, 13], [13, 16]), ([13], [13]), ([18, 13], [13, 18]), ([19, 13], [13, 19]), ([13], [13]), ([21, 13], [13, 21]), ([22, 13], [13, 22]), ([14, 17, 20, 23, 13, 13], [13, 14, 17, 20, 23]), ([24, 13], [13, 24]), ([13, 25], [13, 25]), ([26, 24], [26]), ([27], [27]), ([27], [27]), ([29, 27], [27, 29]), ([30, 27], [27, 30]), ([27], [27]), ([32, 27], [27, 32]), ([33, 27], [27, 33]), ([27], [27]), ([35, 27], [27, 35]), ([36, 27], [27, 36]), ([28, 31, 34, 37, 27, 27], [27, 28, 31, 34, 37]), ([38, 27], [27, 38]), ([27, 39], [27, 39]), ([40, 38, 0, 1, 2, 3, 4, 5, 6, 7, 8, 9, 10, 11, 12, 13, 14, 15, 16, 17, 18, 19, 20, 21, 22, 23, 24, 25, 26, 27, 28, 29, 30, 31, 32, 33, 34, 35, 36, 37, 38, 39, 40], [40])])
def spec_TwinIn.B11 : List Nat := [0, 0, 3, 7, 15, 15, 63, 127, 255, 511, 511, 2047, 4095, 8191, 16383, 16383, 49151, 114687, 16383, 278527, 802815, 16383, 2113535, 6307839, 16777215, 33554431, 67108863, 134217727, 268435455, 268435455, 805306367, 1879048191, 268435455, 4563402751, 13153337343, 268435455, 34628173823, 103347650559, 274877906943, 549755813887, 1099511627775, 2199023255551]
theorem spec_TwinIn.tab11 : rtab .any (opsOf Try.f17 11) = spec_TwinIn.T11 := by kernel_rfl
theorem spec_TwinIn.bits11 : waitsOk spec_TwinIn.T11.2 spec_TwinIn.B11 = true := by kernel_rfl
set_option maxHeartbeats 8000000 in
set_option maxRecDepth 100000 in
theorem spec_TwinIn.calls (k : Nat) (A0 : Option Addr) (c0 : Nat) (l0 : List Int) (A1 : Option Addr) (c1 : Nat) (l1 : List Int) (r : Bool) (w : World) (hr0 : Kd.C (Kd.int .i64) w A0 l0.length l0) (hc0 : l0.length ≤ c0) (hr1 : Kd.C (Kd.int .i64) w A1 l1.length l1) (hc1 : l1.length ≤ c1) (h : spec_TwinIn.f k l0 l1 = some r) :
  Calls Try.prog 17 #[.slice A0 l0.length c0, .slice A1 l1.length c1] w fun e w' => e = .returned (.bool r) ∧ Below w.heap.size w w' := by
 have HR0 := Aside0.mk hr0
 have HC0 := Aside0.mk hc0
 clear hr0 hc0
 have HR1 := Aside0.mk hr1
 have HC1 := Aside0.mk hc1
 clear hr1 hc1
 have HB := Aside0.mk (Below.refl w.heap.size w)
 have H : ((spec_SystemIn.f k l0).bind fun t277 => (if t277 = true then (if (l1.length : Int) = 7 then ((spec_l4Different.f k l1).bind fun t278 => (spec_TwinIn.j0 k l0 l1 (!t278))) else (spec_TwinIn.j0 k l0 l1 true)) else (spec_TwinIn.j0 k l0 l1 true))) = some r := h
 clear h
 have HC3 := Aside0.mk H
 clear H
 go_enter Try.func17, Try.ntmps17
 go_upto_region 1 with (fail)
 go_cut [21] (fun v21 wc => ∃ (kq : Nat) (x21_2 : Bool), v21 = .bool x21_2 ∧ Aside0 (spec_TwinIn.j0 kq l0 l1 x21_2 = some r) ∧ Aside0 (kq ≤ k) ∧ Aside0 (Below w.heap.size w wc))
 case first =>
  have H := HC3.out
  clear HC3
  replace H := Option.bind_eq_some_iff.mp H
  obtain ⟨t277, A40, H⟩ := H
  replace H : (if t277 = true then (if (l1.length : Int) = 7 then ((spec_l4Different.f k l1).bind fun t278 => (spec_TwinIn.j0 k l0 l1 (!t278))) else (spec_TwinIn.j0 k l0 l1 true)) else (spec_TwinIn.j0 k l0 l1 true)) = some r := H
  have A4 := Aside0.mk A40
  clear A40
  by_cases c5 : t277 = true
  ·subst c5
   have H1 : (if (l1.length : Int) = 7 then ((spec_l4Different.f k l1).bind fun t278 => (spec_TwinIn.j0 k l0 l1 (!t278))) else (spec_TwinIn.j0 k l0 l1 true)) = some r := by rw [if_pos rfl] at H; exact H
   clear H
   have H := H1
   clear H1
   by_cases c6 : (l1.length : Int) = 7
   ·rw [if_pos c6] at H
    have c6b0 : ((l1.length : Int) == 7) = true := beq_iff_eq.mpr c6
    have c6b1 : ((l1.length : Int) != 7) = false := bne_eq_false_iff_eq.mpr c6
    clear c6
    (first | rw [c6b0] | (simp only [i64_w, i32_w]; rw [c6b0]) | skip)
    replace H := Option.bind_eq_some_iff.mp H
    obtain ⟨t278, A70, H⟩ := H
    replace H : (spec_TwinIn.j0 k l0 l1 (!t278)) = some r := H
    have A7 := Aside0.mk A70
    clear A70
    have H' := Aside0.mk H
    clear H
    go_wp2_with (first | (refine goesL_ (some 10) rfl rfl Try.func63 (by kernel_rfl) rfl #[.slice A0 l0.length c0] rfl ll_ ?_; (with_reducible refine (spec_SystemIn.calls k _ _ l0 true _ ?side1 ?side2 A4.out).mono ?_); (case side1 => exact sb_ HR0 HB); (case side2 => exact HC0.out); rintro e w8 ⟨rfl, hb⟩; refine ⟨_, rfl, ?_⟩; have n0_ := Aside0.mk (below_step (bb_ HB) hb); clear HB; have HB := n0_; clear n0_; (try clear hb); (try clear hb2); (try clear hk); (try clear hi)) | (go_at_call 64; (with_reducible refine (spec_l4Different.calls k _ _ l1 t278 _ ?side1 ?side2 A7.out).mono ?_); (case side1 => exact sb_ HR1 HB); (case side2 => exact HC1.out); rintro e w' ⟨rfl, ⟨nd, rfl⟩⟩))
    go_meet
    case rel => exact ⟨_, (!t278), (by first | rfl | (simp; done) | (simp [*]; done)), H', ⟨by first | omega | exact Nat.le_refl _⟩, ⟨by repeat (first | (with_reducible first | exact HB.out | apply below_alloc | apply pw_below_drewN | apply below_drew1) | exact HB.out)⟩⟩
   ·rw [if_neg c6] at H
    have c6b0 : ((l1.length : Int) == 7) = false := beq_eq_false_iff_ne.mpr c6
    have c6b1 : ((l1.length : Int) != 7) = true := bne_iff_ne.mpr c6
    (first | rw [c6b0] | (simp only [i64_w, i32_w]; rw [c6b0]) | skip)
    have H' := Aside0.mk H
    clear H
    go_wp2_with (first | (refine goesL_ (some 10) rfl rfl Try.func63 (by kernel_rfl) rfl #[.slice A0 l0.length c0] rfl ll_ ?_; (with_reducible refine (spec_SystemIn.calls k _ _ l0 true _ ?side1 ?side2 A4.out).mono ?_); (case side1 => exact sb_ HR0 HB); (case side2 => exact HC0.out); rintro e w9 ⟨rfl, hb⟩; refine ⟨_, rfl, ?_⟩; have n0_ := Aside0.mk (below_step (bb_ HB) hb); clear HB; have HB := n0_; clear n0_; (try clear hb); (try clear hb2); (try clear hk); (try clear hi)))
    go_meet
    case rel => exact ⟨_, (true), (by first | rfl | (simp; done) | (simp [*]; done)), H', ⟨by first | omega | exact Nat.le_refl _⟩, ⟨by repeat (first | (with_reducible first | exact HB.out | apply below_alloc | apply pw_below_drewN | apply below_drew1) | exact HB.out)⟩⟩
  ·replace c5 := Bool.eq_false_iff.mpr c5
   subst c5
   have H1 : (spec_TwinIn.j0 k l0 l1 true) = some r := by rw [if_neg (show ¬ (false = true) by decide)] at H; exact H
   clear H
   have H := H1
   clear H1
   have H' := Aside0.mk H
   clear H
   go_wp2_with (first | (refine goesL_ (some 10) rfl rfl Try.func63 (by kernel_rfl) rfl #[.slice A0 l0.length c0] rfl ll_ ?_; (with_reducible refine (spec_SystemIn.calls k _ _ l0 false _ ?side1 ?side2 A4.out).mono ?_); (case side1 => exact sb_ HR0 HB); (case side2 => exact HC0.out); rintro e w10 ⟨rfl, hb⟩; refine ⟨_, rfl, ?_⟩; have n0_ := Aside0.mk (below_step (bb_ HB) hb); clear HB; have HB := n0_; clear n0_; (try clear hb); (try clear hb2); (try clear hk); (try clear hi)))
   go_meet
   case rel => exact ⟨_, (true), (by first | rfl | (simp; done) | (simp [*]; done)), H', ⟨by first | omega | exact Nat.le_refl _⟩, ⟨by repeat (first | (with_reducible first | exact HB.out | apply below_alloc | apply pw_below_drewN | apply below_drew1) | exact HB.out)⟩⟩
 case rest =>
  clear HC3
  try clear c1
  try clear p2
  try clear c5
  try clear c6
  try clear c6b0
  try clear c6b1
  obtain ⟨kq, x21_2, rfl, HA, HJ2, HB⟩ := hcut
  cases kq with
  | zero => exact absurd HA.out (by simp [spec_TwinIn.j0])
  | succ kj2 =>
   have H := HA.out
   clear HA
   simp only [spec_TwinIn.j0] at H
   by_cases c11 : x21_2 = true
   ·subst c11
    have H1 : (some false) = some r := by rw [if_pos rfl] at H; exact H
    clear H
    have H := H1
    clear H1
    obtain rfl := Option.some.inj H
    go_wp2
    go_ret
    exact ⟨ee_, bb_ HB⟩
   ·replace c11 := Bool.eq_false_iff.mpr c11
    subst c11
    have H1 : (spec_TwinIn.l0 kj2 l0 l1 1) = some r := by rw [if_neg (show ¬ (false = true) by decide)] at H; exact H
    clear H
    have H := H1
    clear H1
    have H' := Aside0.mk H
    clear H
    go_wp2
    go_loopg [5] kj2 (fun kq v5 w' => ∃ (x5_2 : Int), v5 = .int .i64 x5_2 ∧ Aside0 (spec_TwinIn.l0 kq l0 l1 x5_2 = some r) ∧ Aside0 (kq ≤ kj2) ∧ Aside0 (Below w.heap.size w w'))
    case atStart => exact ⟨(1), (by first | rfl | (simp; done) | (simp [*]; done)), H', ⟨Nat.le_refl _⟩, ⟨by repeat (first | (with_reducible first | exact HB.out | apply below_alloc | apply pw_below_drewN | apply below_drew1) | exact HB.out)⟩⟩
    case round =>
     clear H'
     try clear c1
     try clear p2
     try clear c5
     try clear c6
     try clear c6b0
     try clear c6b1
     try clear c11
     try clear p2
     obtain ⟨x5_2, rfl, HA, HK2, HB⟩ := hrel
     cases gk with
     | zero => exact absurd HA.out (by simp [spec_TwinIn.l0])
     | succ k2 =>
      have H := HA.out
      clear HA
      simp only [spec_TwinIn.l0] at H
      by_cases c12 : x5_2 ≤ 3
      ·rw [if_pos c12] at H
       have c12b0 : decide (x5_2 ≤ 3) = true := decide_eq_true c12
       clear c12
       by_cases c13 : 0 < (l1.length : Int)
       ·rw [if_pos c13] at H
        have c13b0 : decide (0 < (l1.length : Int)) = true := decide_eq_true c13
        have c13b1 : decide (0 < l1.length) = true := decide_eq_true (by omega)
        clear c13
        by_cases c14 : 0 ≤ x5_2
        ·rw [if_pos c14] at H
         have c14b0 : decide (0 ≤ x5_2) = true := decide_eq_true c14
         clear c14
         by_cases c15 : x5_2 < (l1.length : Int)
         ·rw [if_pos c15] at H
          have c15b0 : decide (x5_2 < (l1.length : Int)) = true := decide_eq_true c15
          clear c15
          obtain ⟨ji16, hji16⟩ : ∃ j_ : Int, (wrap64 (x5_2 + 3)) = j_ := ⟨_, rfl⟩
          replace H : (if 0 ≤ (ji16) then (if (ji16) < (l1.length : Int) then ((spec_l3Three.f k2 l0 (rd l1 0) (rd l1 x5_2) (rd l1 (ji16))).bind fun t282 => (if t282 = true then (spec_TwinIn.l0 k2 l0 l1 (wrap64 (x5_2 + 1))) else (some false))) else (none)) else (none)) = some r := by first | (rw [hji16] at H; exact H) | (simp only [hji16] at H ⊢; exact H)
          have hji16w : (IntKind.i64.wrap (x5_2 + 3)) = ji16 := (i64_w _).trans hji16
          by_cases c17 : 0 ≤ (ji16)
          ·rw [if_pos c17] at H
           have c17b0 : decide (0 ≤ (ji16)) = true := decide_eq_true c17
           clear c17
           by_cases c18 : (ji16) < (l1.length : Int)
           ·rw [if_pos c18] at H
            have c18b0 : decide ((ji16) < (l1.length : Int)) = true := decide_eq_true c18
            clear c18
            replace H := Option.bind_eq_some_iff.mp H
            obtain ⟨t282, A190, H⟩ := H
            replace H : (if t282 = true then (spec_TwinIn.l0 k2 l0 l1 (wrap64 (x5_2 + 1))) else (some false)) = some r := H
            have A19 := Aside0.mk A190
            clear A190
            by_cases c20 : t282 = true
            ·subst c20
             have H1 : (spec_TwinIn.l0 k2 l0 l1 (wrap64 (x5_2 + 1))) = some r := by rw [if_pos rfl] at H; exact H
             clear H
             have H := H1
             clear H1
             have H' := Aside0.mk H
             clear H
             try go_wp2
             have n0_ := Aside0.mk (below_drew1 HB.out)
             clear HB
             have HB := n0_
             clear n0_
             have p279 : 0 ≤ (0 : Int) := (by omega)
             have q279 : 0 < (l1.length : Int) := dd_
             obtain ⟨ad279, e279, hx279_0⟩ := Kd.at_int HR1.out 0 p279 q279
             have hw279_0 := hx279_0
             (try rw [show ((0 : Int)).toNat = 0 from rfl] at hw279_0)
             (try rw [show 0 * 1 = 0 from rfl] at hw279_0)
             (try rw [Addr.add_zero'] at hw279_0)
             cases e279
             have qi279 : (0 < l1.length) = True := eq_true (by omega)
             (try rw [show ((0 : Int)).toNat = 0 from rfl] at hx279_0)
             (try rw [Addr.add_zero'] at hx279_0)
             replace hx279_0 := hc_ HB hx279_0
             replace p279 := eq_true p279
             replace q279 := eq_true q279
             have p280 : 0 ≤ (x5_2 : Int) := dd_
             have q280 : x5_2 < (l1.length : Int) := dd_
             obtain ⟨ad280, e280, hx280_0⟩ := Kd.at_int HR1.out x5_2 p280 q280
             have hw280_0 := hx280_0
             obtain rfl : ad279 = ad280 := (by injection e280)
             replace hx280_0 := hc_ HB hx280_0
             replace p280 := eq_true p280
             replace q280 := eq_true q280
             have p281 : 0 ≤ ((ji16) : Int) := dd_
             have q281 : (ji16) < (l1.length : Int) := dd_
             obtain ⟨ad281, e281, hx281_0⟩ := Kd.at_int HR1.out (ji16) p281 q281
             have hw281_0 := hx281_0
             obtain rfl : ad279 = ad281 := (by injection e281)
             replace hx281_0 := hc_ HB hx281_0
             replace p281 := eq_true p281
             replace q281 := eq_true q281
             refine start_ (n := 15) (S := fun w' => w'.cell? ad279 = some (.int .i64 (rd l1 0)) ∧ w'.cell? (ad279.add (x5_2).toNat) = some (.int .i64 (rd l1 x5_2)) ∧ w'.cell? (ad279.add ((ji16)).toNat) = some (.int .i64 (rd l1 (ji16)))) (ds := []) #[F_,F_,F_,F_,F_,F_,F_,F_,F_,F_,F_,F_,F_,F_,F_] (by kernel_rfl) rfl rfl ⟨(hc_ HB hw279_0), (hc_ HB hw280_0), (hc_ HB hw281_0)⟩ (fun hHeld => ?_); refine with_tabW spec_TwinIn.tab6 spec_TwinIn.bits6 (fun HT_ HW_ => ?_)
             generalize wr.drew = w21 at HB hx279_0 hx280_0 hx281_0 hHeld ⊢
             refine p_ 0 26 (m_ 15 1) HT_.out ?_
             refine p_ 1 27 (m_ 15 3) HT_.out ?_
             refine p_ 2 28 (m_ 15 7) HT_.out ?_
             refine p_ 4 30 (m_ 15 23) HT_.out ?_
             refine p_ 5 31 (m_ 15 55) HT_.out ?_
             refine p_ 6 32 (m_ 15 119) HT_.out ?_
             refine p_ 8 34 (m_ 15 375) HT_.out ?_
             refine p_ 9 35 (m_ 15 887) HT_.out ?_
             refine p_ 10 36 (m_ 15 1911) HT_.out ?_
             refine p_ 11 37 (m_ 15 3959) HT_.out ?_
             refine t3_ 3 29 (m_ 15 3967) HT_.out HW_.out hHeld ?_
             refine t3_ 7 33 (m_ 15 4095) HT_.out HW_.out hHeld ?_
             refine t3_ 12 38 (m_ 15 8191) HT_.out HW_.out hHeld ?_
             refine one_ (i := 13) (N := some 39) (m_ 15 16383) rfl rfl (one_of HT_.out (by kernel_rfl)) (by decide) (fun K hK => ?_)
             refine goes_ Try.func65 (by kernel_rfl) rfl #[.slice A0 l0.length c0, .int .i64 (rd l1 0), .int .i64 (rd l1 x5_2), .int .i64 (rd l1 (ji16))] (by rfl) rfl rfl (by (try simp only [List.map_toArray, List.map_cons, List.map_nil]); first | done | (simp only [hji16]; rfl) | rfl | (simp only [List.length_drop, List.length_take]; rfl)) ?_
             with_reducible refine (spec_l3Three.calls k2 _ _ l0 (rd l1 0) (rd l1 x5_2) (rd l1 (ji16)) true _ ?side1 ?side2 A19.out).mono ?_
             (case side1 => exact sb_ HR0 HB)
             (case side2 => exact HC0.out)
             rintro e w' ⟨rfl, ⟨nd, rfl⟩⟩
             refine ⟨_, rfl, ?_⟩
             refine hK.out _ _ ⟨(hc_ HB hw279_0), (hc_ HB hw280_0), (hc_ HB hw281_0)⟩ (fun hHeld => ?_)
             clear hK K
             refine norm_ (a' := ?_) ?_ ?_; rotate_left; (show Act.put _ (some 39) _ = _; simp only [Act.put, List.setIfInBounds_toArray, List.set_cons_zero, List.set_cons_succ, i64_w, i32_w]; rfl)
             refine p_ 14 40 (m_ 15 32767) HT_.out ?_
             refine done_ (done_of HT_.out (by kernel_rfl)) ?_
             try go_wp2
             go_roundg k2
             case measure => have := HJ2.out; have := HK2.out; omega
             case rel => exact ⟨(wrap64 (x5_2 + 1)), (by first | rfl | (simp; done) | (simp [*]; done)), H', ⟨by have := HJ2.out; have := HK2.out; omega⟩, ⟨by repeat (first | (with_reducible first | exact HB.out | apply below_alloc | apply pw_below_drewN | apply below_drew1) | exact HB.out)⟩⟩
            ·replace c20 := Bool.eq_false_iff.mpr c20
             subst c20
             have H1 : (some false) = some r := by rw [if_neg (show ¬ (false = true) by decide)] at H; exact H
             clear H
             have H := H1
             clear H1
             obtain rfl := Option.some.inj H
             try go_wp2
             have n0_ := Aside0.mk (below_drew1 HB.out)
             clear HB
             have HB := n0_
             clear n0_
             have p279 : 0 ≤ (0 : Int) := (by omega)
             have q279 : 0 < (l1.length : Int) := dd_
             obtain ⟨ad279, e279, hx279_0⟩ := Kd.at_int HR1.out 0 p279 q279
             have hw279_0 := hx279_0
             (try rw [show ((0 : Int)).toNat = 0 from rfl] at hw279_0)
             (try rw [show 0 * 1 = 0 from rfl] at hw279_0)
             (try rw [Addr.add_zero'] at hw279_0)
             cases e279
             have qi279 : (0 < l1.length) = True := eq_true (by omega)
             (try rw [show ((0 : Int)).toNat = 0 from rfl] at hx279_0)
             (try rw [Addr.add_zero'] at hx279_0)
             replace hx279_0 := hc_ HB hx279_0
             replace p279 := eq_true p279
             replace q279 := eq_true q279
             have p280 : 0 ≤ (x5_2 : Int) := dd_
             have q280 : x5_2 < (l1.length : Int) := dd_
             obtain ⟨ad280, e280, hx280_0⟩ := Kd.at_int HR1.out x5_2 p280 q280
             have hw280_0 := hx280_0
             obtain rfl : ad279 = ad280 := (by injection e280)
             replace hx280_0 := hc_ HB hx280_0
             replace p280 := eq_true p280
             replace q280 := eq_true q280
             have p281 : 0 ≤ ((ji16) : Int) := dd_
             have q281 : (ji16) < (l1.length : Int) := dd_
             obtain ⟨ad281, e281, hx281_0⟩ := Kd.at_int HR1.out (ji16) p281 q281
             have hw281_0 := hx281_0
             obtain rfl : ad279 = ad281 := (by injection e281)
             replace hx281_0 := hc_ HB hx281_0
             replace p281 := eq_true p281
             replace q281 := eq_true q281
             refine start_ (n := 15) (S := fun w' => w'.cell? ad279 = some (.int .i64 (rd l1 0)) ∧ w'.cell? (ad279.add (x5_2).toNat) = some (.int .i64 (rd l1 x5_2)) ∧ w'.cell? (ad279.add ((ji16)).toNat) = some (.int .i64 (rd l1 (ji16)))) (ds := []) #[F_,F_,F_,F_,F_,F_,F_,F_,F_,F_,F_,F_,F_,F_,F_] (by kernel_rfl) rfl rfl ⟨(hc_ HB hw279_0), (hc_ HB hw280_0), (hc_ HB hw281_0)⟩ (fun hHeld => ?_); refine with_tabW spec_TwinIn.tab6 spec_TwinIn.bits6 (fun HT_ HW_ => ?_)
             generalize wr.drew = w22 at HB hx279_0 hx280_0 hx281_0 hHeld ⊢
             refine p_ 0 26 (m_ 15 1) HT_.out ?_
             refine p_ 1 27 (m_ 15 3) HT_.out ?_
             refine p_ 2 28 (m_ 15 7) HT_.out ?_
             refine p_ 4 30 (m_ 15 23) HT_.out ?_
             refine p_ 5 31 (m_ 15 55) HT_.out ?_
             refine p_ 6 32 (m_ 15 119) HT_.out ?_
             refine p_ 8 34 (m_ 15 375) HT_.out ?_
             refine p_ 9 35 (m_ 15 887) HT_.out ?_
             refine p_ 10 36 (m_ 15 1911) HT_.out ?_
             refine p_ 11 37 (m_ 15 3959) HT_.out ?_
             refine t3_ 3 29 (m_ 15 3967) HT_.out HW_.out hHeld ?_
             refine t3_ 7 33 (m_ 15 4095) HT_.out HW_.out hHeld ?_
             refine t3_ 12 38 (m_ 15 8191) HT_.out HW_.out hHeld ?_
             refine one_ (i := 13) (N := some 39) (m_ 15 16383) rfl rfl (one_of HT_.out (by kernel_rfl)) (by decide) (fun K hK => ?_)
             refine goes_ Try.func65 (by kernel_rfl) rfl #[.slice A0 l0.length c0, .int .i64 (rd l1 0), .int .i64 (rd l1 x5_2), .int .i64 (rd l1 (ji16))] (by rfl) rfl rfl (by (try simp only [List.map_toArray, List.map_cons, List.map_nil]); first | done | (simp only [hji16]; rfl) | rfl | (simp only [List.length_drop, List.length_take]; rfl)) ?_
             with_reducible refine (spec_l3Three.calls k2 _ _ l0 (rd l1 0) (rd l1 x5_2) (rd l1 (ji16)) false _ ?side1 ?side2 A19.out).mono ?_
             (case side1 => exact sb_ HR0 HB)
             (case side2 => exact HC0.out)
             rintro e w' ⟨rfl, ⟨nd, rfl⟩⟩
             refine ⟨_, rfl, ?_⟩
             refine hK.out _ _ ⟨(hc_ HB hw279_0), (hc_ HB hw280_0), (hc_ HB hw281_0)⟩ (fun hHeld => ?_)
             clear hK K
             refine norm_ (a' := ?_) ?_ ?_; rotate_left; (show Act.put _ (some 39) _ = _; simp only [Act.put, List.setIfInBounds_toArray, List.set_cons_zero, List.set_cons_succ, i64_w, i32_w]; rfl)
             refine p_ 14 40 (m_ 15 32767) HT_.out ?_
             refine done_ (done_of HT_.out (by kernel_rfl)) ?_
             try go_wp2
             go_ret
             exact ⟨by first | rfl | (simp [errW_none, errW_some] <;> rfl) | (simp only [← hji16]; first | rfl | (simp [errW_none, errW_some] <;> rfl)) | (simp [*, errW_none, errW_some] <;> rfl), bb_ HB⟩
           ·rw [if_neg c18] at H
            exact absurd H (by simp)
          ·rw [if_neg c17] at H
           exact absurd H (by simp)
         ·rw [if_neg c15] at H
          exact absurd H (by simp)
        ·rw [if_neg c14] at H
         exact absurd H (by simp)
       ·rw [if_neg c13] at H
        exact absurd H (by simp)
      ·rw [if_neg c12] at H
       have c12b0 : decide (x5_2 ≤ 3) = false := decide_eq_false c12
       clear c12
       by_cases c23 : 0 < (l1.length : Int)
       ·rw [if_pos c23] at H
        have c23b0 : decide (0 < (l1.length : Int)) = true := decide_eq_true c23
        have c23b1 : decide (0 < l1.length) = true := decide_eq_true (by omega)
        clear c23
        by_cases c24 : 1 < (l1.length : Int)
        ·rw [if_pos c24] at H
         have c24b0 : decide (1 < (l1.length : Int)) = true := decide_eq_true c24
         have c24b1 : decide (1 < l1.length) = true := decide_eq_true (by omega)
         clear c24
         replace H := Option.bind_eq_some_iff.mp H
         obtain ⟨t285, A250, H⟩ := H
         replace H : (if 2 < (l1.length : Int) then ((spec_l3Join.f k2 l0 (rd l1 0) (rd l1 2)).bind fun t288 => (if 3 < (l1.length : Int) then ((spec_l3Join.f k2 l0 (rd l1 0) (rd l1 3)).bind fun t291 => (if t285 = t288 then (some false) else (if t285 = t291 then (some false) else (if t288 = t291 then (some false) else ((spec_l3Three.f k2 l0 (rd l1 1) (rd l1 2) (rd l1 3)).bind fun t295 => (if t295 = true then (some false) else (if 4 < (l1.length : Int) then (if 5 < (l1.length : Int) then (if 6 < (l1.length : Int) then ((spec_l3Three.f k2 l0 (rd l1 4) (rd l1 5) (rd l1 6)).bind fun t299 => (some (!t299))) else (none)) else (none)) else (none)))))))) else (none))) else (none)) = some r := H
         have A25 := Aside0.mk A250
         clear A250
         by_cases c26 : 2 < (l1.length : Int)
         ·rw [if_pos c26] at H
          have c26b0 : decide (2 < (l1.length : Int)) = true := decide_eq_true c26
          have c26b1 : decide (2 < l1.length) = true := decide_eq_true (by omega)
          clear c26
          replace H := Option.bind_eq_some_iff.mp H
          obtain ⟨t288, A270, H⟩ := H
          replace H : (if 3 < (l1.length : Int) then ((spec_l3Join.f k2 l0 (rd l1 0) (rd l1 3)).bind fun t291 => (if t285 = t288 then (some false) else (if t285 = t291 then (some false) else (if t288 = t291 then (some false) else ((spec_l3Three.f k2 l0 (rd l1 1) (rd l1 2) (rd l1 3)).bind fun t295 => (if t295 = true then (some false) else (if 4 < (l1.length : Int) then (if 5 < (l1.length : Int) then (if 6 < (l1.length : Int) then ((spec_l3Three.f k2 l0 (rd l1 4) (rd l1 5) (rd l1 6)).bind fun t299 => (some (!t299))) else (none)) else (none)) else (none)))))))) else (none)) = some r := H
          have A27 := Aside0.mk A270
          clear A270
          by_cases c28 : 3 < (l1.length : Int)
          ·rw [if_pos c28] at H
           have c28b0 : decide (3 < (l1.length : Int)) = true := decide_eq_true c28
           have c28b1 : decide (3 < l1.length) = true := decide_eq_true (by omega)
           clear c28
           replace H := Option.bind_eq_some_iff.mp H
           obtain ⟨t291, A290, H⟩ := H
           replace H : (if t285 = t288 then (some false) else (if t285 = t291 then (some false) else (if t288 = t291 then (some false) else ((spec_l3Three.f k2 l0 (rd l1 1) (rd l1 2) (rd l1 3)).bind fun t295 => (if t295 = true then (some false) else (if 4 < (l1.length : Int) then (if 5 < (l1.length : Int) then (if 6 < (l1.length : Int) then ((spec_l3Three.f k2 l0 (rd l1 4) (rd l1 5) (rd l1 6)).bind fun t299 => (some (!t299))) else (none)) else (none)) else (none))))))) = some r := H
           have A29 := Aside0.mk A290
           clear A290
           by_cases c30 : t285 = t288
           ·rw [if_pos c30] at H
            have c30b0 : (t285 == t288) = true := beq_iff_eq.mpr c30
            have c30b1 : (t285 != t288) = false := bne_eq_false_iff_eq.mpr c30
            clear c30
            obtain rfl := Option.some.inj H
            try go_wp2
            have n0_ := Aside0.mk (below_drew1 HB.out)
            clear HB
            have HB := n0_
            clear n0_
            have p283 : 0 ≤ (0 : Int) := (by omega)
            have q283 : 0 < (l1.length : Int) := dd_
            obtain ⟨ad283, e283, hx283_0⟩ := Kd.at_int HR1.out 0 p283 q283
            have hw283_0 := hx283_0
            (try rw [show ((0 : Int)).toNat = 0 from rfl] at hw283_0)
            (try rw [show 0 * 1 = 0 from rfl] at hw283_0)
            (try rw [Addr.add_zero'] at hw283_0)
            cases e283
            have qi283 : (0 < l1.length) = True := eq_true (by omega)
            (try rw [show ((0 : Int)).toNat = 0 from rfl] at hx283_0)
            (try rw [Addr.add_zero'] at hx283_0)
            replace hx283_0 := hc_ HB hx283_0
            replace p283 := eq_true p283
            replace q283 := eq_true q283
            have p284 : 0 ≤ (1 : Int) := (by omega)
            have q284 : 1 < (l1.length : Int) := dd_
            obtain ⟨ad284, e284, hx284_0⟩ := Kd.at_int HR1.out 1 p284 q284
            have hw284_0 := hx284_0
            (try rw [show ((1 : Int)).toNat = 1 from rfl] at hw284_0)
            (try rw [show 1 * 1 = 1 from rfl] at hw284_0)
            (try simp only [Nat.reduceMul, Nat.reduceEqDiff, Go.Addr.add, ↓reduceIte] at hw284_0)
            obtain rfl : ad283 = ad284 := (by injection e284)
            (try simp only [show (1 : Int).toNat = 1 from rfl, Nat.reduceMul, Nat.reduceEqDiff, Go.Addr.add, ↓reduceIte] at hx284_0)
            have qi284 : (1 < l1.length) = True := eq_true (by omega)
            (try rw [show ((1 : Int)).toNat = 1 from rfl] at hx284_0)
            replace hx284_0 := hc_ HB hx284_0
            replace p284 := eq_true p284
            replace q284 := eq_true q284
            refine start_ (n := 9) (S := fun w' => w'.cell? ad283 = some (.int .i64 (rd l1 0)) ∧ w'.cell? ⟨ad283.block, ad283.off + 1, none⟩ = some (.int .i64 (rd l1 1))) (ds := []) #[F_,F_,F_,F_,F_,F_,F_,F_,F_] (by kernel_rfl) rfl rfl ⟨(hc_ HB hw283_0), (hc_ HB hw284_0)⟩ (fun hHeld => ?_); refine with_tabW spec_TwinIn.tab8 spec_TwinIn.bits8 (fun HT_ HW_ => ?_)
            generalize wr.drew = w31 at HB hx283_0 hx284_0 hHeld ⊢
            refine p_ 0 41 (m_ 9 1) HT_.out ?_
            refine p_ 1 42 (m_ 9 3) HT_.out ?_
            refine p_ 2 43 (m_ 9 7) HT_.out ?_
            refine p_ 4 45 (m_ 9 23) HT_.out ?_
            refine p_ 5 46 (m_ 9 55) HT_.out ?_
            refine t2_ 3 44 (m_ 9 63) HT_.out HW_.out hHeld ?_
            refine t2_ 6 47 (m_ 9 127) HT_.out HW_.out hHeld ?_
            refine one_ (i := 7) (N := some 48) (m_ 9 255) rfl rfl (one_of HT_.out (by kernel_rfl)) (by decide) (fun K hK => ?_)
            refine goes_ Try.func66 (by kernel_rfl) rfl #[.slice A0 l0.length c0, .int .i64 (rd l1 0), .int .i64 (rd l1 1)] (by rfl) rfl rfl ll_ ?_
            with_reducible refine (spec_l3Join.calls k2 _ _ l0 (rd l1 0) (rd l1 1) t285 _ ?side1 ?side2 A25.out).mono ?_
            (case side1 => exact sb_ HR0 HB)
            (case side2 => exact HC0.out)
            rintro e w' ⟨rfl, ⟨nd, rfl⟩⟩
            refine ⟨_, rfl, ?_⟩
            refine hK.out _ _ ⟨(hc_ HB hw283_0), (hc_ HB hw284_0)⟩ (fun hHeld => ?_)
            clear hK K
            refine norm_ (a' := ?_) ?_ ?_; rotate_left; (show Act.put _ (some 48) _ = _; simp only [Act.put, List.setIfInBounds_toArray, List.set_cons_zero, List.set_cons_succ, i64_w, i32_w]; rfl)
            refine p_ 8 6 (m_ 9 511) HT_.out ?_
            refine done_ (done_of HT_.out (by kernel_rfl)) ?_
            try go_wp2
            (try (rw [dself_ w31]; generalize hq_ : World.drewN w31 _ = w31; have n0_ : Aside0 (Below w.heap.size w w31) := ⟨by rw [← hq_]; exact (bb_ HB)⟩; clear HB hq_; have HB := n0_; clear n0_))
            have n0_ := Aside0.mk (below_drew1 HB.out)
            clear HB
            have HB := n0_
            clear n0_
            have p286 : 0 ≤ (0 : Int) := (by omega)
            have q286 : 0 < (l1.length : Int) := dd_
            obtain ⟨ad286, e286, hx286_0⟩ := Kd.at_int HR1.out 0 p286 q286
            have hw286_0 := hx286_0
            (try rw [show ((0 : Int)).toNat = 0 from rfl] at hw286_0)
            (try rw [show 0 * 1 = 0 from rfl] at hw286_0)
            (try rw [Addr.add_zero'] at hw286_0)
            obtain rfl : ad283 = ad286 := (by injection e286)
            have qi286 : (0 < l1.length) = True := eq_true (by omega)
            (try rw [show ((0 : Int)).toNat = 0 from rfl] at hx286_0)
            (try rw [Addr.add_zero'] at hx286_0)
            replace hx286_0 := hc_ HB hx286_0
            replace p286 := eq_true p286
            replace q286 := eq_true q286
            have p287 : 0 ≤ (2 : Int) := (by omega)
            have q287 : 2 < (l1.length : Int) := dd_
            obtain ⟨ad287, e287, hx287_0⟩ := Kd.at_int HR1.out 2 p287 q287
            have hw287_0 := hx287_0
            (try rw [show ((2 : Int)).toNat = 2 from rfl] at hw287_0)
            (try rw [show 2 * 1 = 2 from rfl] at hw287_0)
            (try simp only [Nat.reduceMul, Nat.reduceEqDiff, Go.Addr.add, ↓reduceIte] at hw287_0)
            obtain rfl : ad283 = ad287 := (by injection e287)
            (try simp only [show (2 : Int).toNat = 2 from rfl, Nat.reduceMul, Nat.reduceEqDiff, Go.Addr.add, ↓reduceIte] at hx287_0)
            have qi287 : (2 < l1.length) = True := eq_true (by omega)
            (try rw [show ((2 : Int)).toNat = 2 from rfl] at hx287_0)
            replace hx287_0 := hc_ HB hx287_0
            replace p287 := eq_true p287
            replace q287 := eq_true q287
            refine start_ (n := 9) (S := fun w' => w'.cell? ad283 = some (.int .i64 (rd l1 0)) ∧ w'.cell? ⟨ad283.block, ad283.off + 2, none⟩ = some (.int .i64 (rd l1 2))) (ds := []) #[F_,F_,F_,F_,F_,F_,F_,F_,F_] (by kernel_rfl) rfl rfl ⟨(hc_ HB hw286_0), (hc_ HB hw287_0)⟩ (fun hHeld => ?_); refine with_tabW spec_TwinIn.tab9 spec_TwinIn.bits9 (fun HT_ HW_ => ?_)
            generalize w31.drew = w32 at HB hx286_0 hx287_0 hHeld ⊢
            refine p_ 0 49 (m_ 9 1) HT_.out ?_
            refine p_ 1 50 (m_ 9 3) HT_.out ?_
            refine p_ 2 51 (m_ 9 7) HT_.out ?_
            refine p_ 4 53 (m_ 9 23) HT_.out ?_
            refine p_ 5 54 (m_ 9 55) HT_.out ?_
            refine t2_ 3 52 (m_ 9 63) HT_.out HW_.out hHeld ?_
            refine t2_ 6 55 (m_ 9 127) HT_.out HW_.out hHeld ?_
            refine one_ (i := 7) (N := some 56) (m_ 9 255) rfl rfl (one_of HT_.out (by kernel_rfl)) (by decide) (fun K hK => ?_)
            refine goes_ Try.func66 (by kernel_rfl) rfl #[.slice A0 l0.length c0, .int .i64 (rd l1 0), .int .i64 (rd l1 2)] (by rfl) rfl rfl ll_ ?_
            with_reducible refine (spec_l3Join.calls k2 _ _ l0 (rd l1 0) (rd l1 2) t288 _ ?side1 ?side2 A27.out).mono ?_
            (case side1 => exact sb_ HR0 HB)
            (case side2 => exact HC0.out)
            rintro e w' ⟨rfl, ⟨nd, rfl⟩⟩
            refine ⟨_, rfl, ?_⟩
            refine hK.out _ _ ⟨(hc_ HB hw286_0), (hc_ HB hw287_0)⟩ (fun hHeld => ?_)
            clear hK K
            refine norm_ (a' := ?_) ?_ ?_; rotate_left; (show Act.put _ (some 56) _ = _; simp only [Act.put, List.setIfInBounds_toArray, List.set_cons_zero, List.set_cons_succ, i64_w, i32_w]; rfl)
            refine p_ 8 7 (m_ 9 511) HT_.out ?_
            refine done_ (done_of HT_.out (by kernel_rfl)) ?_
            try go_wp2
            (try (rw [dself_ w32]; generalize hq_ : World.drewN w32 _ = w32; have n0_ : Aside0 (Below w.heap.size w w32) := ⟨by rw [← hq_]; exact (bb_ HB)⟩; clear HB hq_; have HB := n0_; clear n0_))
            have n0_ := Aside0.mk (below_drew1 HB.out)
            clear HB
            have HB := n0_
            clear n0_
            have p289 : 0 ≤ (0 : Int) := (by omega)
            have q289 : 0 < (l1.length : Int) := dd_
            obtain ⟨ad289, e289, hx289_0⟩ := Kd.at_int HR1.out 0 p289 q289
            have hw289_0 := hx289_0
            (try rw [show ((0 : Int)).toNat = 0 from rfl] at hw289_0)
            (try rw [show 0 * 1 = 0 from rfl] at hw289_0)
            (try rw [Addr.add_zero'] at hw289_0)
            obtain rfl : ad283 = ad289 := (by injection e289)
            have qi289 : (0 < l1.length) = True := eq_true (by omega)
            (try rw [show ((0 : Int)).toNat = 0 from rfl] at hx289_0)
            (try rw [Addr.add_zero'] at hx289_0)
            replace hx289_0 := hc_ HB hx289_0
            replace p289 := eq_true p289
            replace q289 := eq_true q289
            have p290 : 0 ≤ (3 : Int) := (by omega)
            have q290 : 3 < (l1.length : Int) := dd_
            obtain ⟨ad290, e290, hx290_0⟩ := Kd.at_int HR1.out 3 p290 q290
            have hw290_0 := hx290_0
            (try rw [show ((3 : Int)).toNat = 3 from rfl] at hw290_0)
            (try rw [show 3 * 1 = 3 from rfl] at hw290_0)
            (try simp only [Nat.reduceMul, Nat.reduceEqDiff, Go.Addr.add, ↓reduceIte] at hw290_0)
            obtain rfl : ad283 = ad290 := (by injection e290)
            (try simp only [show (3 : Int).toNat = 3 from rfl, Nat.reduceMul, Nat.reduceEqDiff, Go.Addr.add, ↓reduceIte] at hx290_0)
            have qi290 : (3 < l1.length) = True := eq_true (by omega)
            (try rw [show ((3 : Int)).toNat = 3 from rfl] at hx290_0)
            replace hx290_0 := hc_ HB hx290_0
            replace p290 := eq_true p290
            replace q290 := eq_true q290
            refine start_ (n := 9) (S := fun w' => w'.cell? ad283 = some (.int .i64 (rd l1 0)) ∧ w'.cell? ⟨ad283.block, ad283.off + 3, none⟩ = some (.int .i64 (rd l1 3))) (ds := []) #[F_,F_,F_,F_,F_,F_,F_,F_,F_] (by kernel_rfl) rfl rfl ⟨(hc_ HB hw289_0), (hc_ HB hw290_0)⟩ (fun hHeld => ?_); refine with_tabW spec_TwinIn.tab10 spec_TwinIn.bits10 (fun HT_ HW_ => ?_)
            generalize w32.drew = w33 at HB hx289_0 hx290_0 hHeld ⊢
            refine p_ 0 57 (m_ 9 1) HT_.out ?_
            refine p_ 1 58 (m_ 9 3) HT_.out ?_
            refine p_ 2 59 (m_ 9 7) HT_.out ?_
            refine p_ 4 61 (m_ 9 23) HT_.out ?_
            refine p_ 5 62 (m_ 9 55) HT_.out ?_
            refine t2_ 3 60 (m_ 9 63) HT_.out HW_.out hHeld ?_
            refine t2_ 6 63 (m_ 9 127) HT_.out HW_.out hHeld ?_
            refine one_ (i := 7) (N := some 64) (m_ 9 255) rfl rfl (one_of HT_.out (by kernel_rfl)) (by decide) (fun K hK => ?_)
            refine goes_ Try.func66 (by kernel_rfl) rfl #[.slice A0 l0.length c0, .int .i64 (rd l1 0), .int .i64 (rd l1 3)] (by rfl) rfl rfl ll_ ?_
            with_reducible refine (spec_l3Join.calls k2 _ _ l0 (rd l1 0) (rd l1 3) t291 _ ?side1 ?side2 A29.out).mono ?_
            (case side1 => exact sb_ HR0 HB)
            (case side2 => exact HC0.out)
            rintro e w' ⟨rfl, ⟨nd, rfl⟩⟩
            refine ⟨_, rfl, ?_⟩
            refine hK.out _ _ ⟨(hc_ HB hw289_0), (hc_ HB hw290_0)⟩ (fun hHeld => ?_)
            clear hK K
            refine norm_ (a' := ?_) ?_ ?_; rotate_left; (show Act.put _ (some 64) _ = _; simp only [Act.put, List.setIfInBounds_toArray, List.set_cons_zero, List.set_cons_succ, i64_w, i32_w]; rfl)
            refine p_ 8 8 (m_ 9 511) HT_.out ?_
            refine done_ (done_of HT_.out (by kernel_rfl)) ?_
            try go_wp2
            (try (rw [dself_ w33]; generalize hq_ : World.drewN w33 _ = w33; have n0_ : Aside0 (Below w.heap.size w w33) := ⟨by rw [← hq_]; exact (bb_ HB)⟩; clear HB hq_; have HB := n0_; clear n0_))
            have n0_ := Aside0.mk (below_drew1 HB.out)
            clear HB
            have HB := n0_
            clear n0_
            refine start_ (n := 42) (S := fun w' => True) (ds := []) #[F_,F_,F_,F_,F_,F_,F_,F_,F_,F_,F_,F_,F_,F_,F_,F_,F_,F_,F_,F_,F_,F_,F_,F_,F_,F_,F_,F_,F_,F_,F_,F_,F_,F_,F_,F_,F_,F_,F_,F_,F_,F_] (by kernel_rfl) rfl rfl trivial (fun hHeld => ?_); refine with_tabW spec_TwinIn.tab11 spec_TwinIn.bits11 (fun HT_ HW_ => ?_)
            generalize w33.drew = w34 at HB hHeld ⊢
            refine p_ 0 65 (m_ 42 1) HT_.out ?_
            refine p_ 1 66 (m_ 42 3) HT_.out ?_
            refine p_ 2 67 (m_ 42 7) HT_.out ?_
            refine p_ 3 68 (m_ 42 15) HT_.out ?_
            refine u_ 4 69 (m_ 42 31) HT_.out ?_
            refine u_ 5 70 (m_ 42 63) HT_.out ?_
            refine u_ 6 71 (m_ 42 127) HT_.out ?_
            refine p_ 7 72 (m_ 42 255) HT_.out ?_
            refine p_ 8 73 (m_ 42 511) HT_.out ?_
            refine u_ 9 74 (m_ 42 1023) HT_.out ?_
            refine u_ 10 75 (m_ 42 2047) HT_.out ?_
            refine u_ 11 76 (m_ 42 4095) HT_.out ?_
            refine p_ 12 77 (m_ 42 8191) HT_.out ?_
            refine p_ 13 78 (m_ 42 16383) HT_.out ?_
            refine u_ 14 79 (m_ 42 32767) HT_.out ?_
            refine u_ 15 80 (m_ 42 65535) HT_.out ?_
            refine u_ 16 81 (m_ 42 131071) HT_.out ?_
            refine u_ 17 82 (m_ 42 262143) HT_.out ?_
            refine u_ 18 83 (m_ 42 524287) HT_.out ?_
            refine u_ 19 84 (m_ 42 1048575) HT_.out ?_
            refine u_ 20 85 (m_ 42 2097151) HT_.out ?_
            refine u_ 21 86 (m_ 42 4194303) HT_.out ?_
            refine u_ 22 87 (m_ 42 8388607) HT_.out ?_
            refine u_ 23 88 (m_ 42 16777215) HT_.out ?_
            refine u_ 24 89 (m_ 42 33554431) HT_.out ?_
            refine u_ 25 90 (m_ 42 67108863) HT_.out ?_
            refine p_ 26 91 (m_ 42 134217727) HT_.out ?_
            refine p_ 27 92 (m_ 42 268435455) HT_.out ?_
            refine u_ 28 93 (m_ 42 536870911) HT_.out ?_
            refine u_ 29 94 (m_ 42 1073741823) HT_.out ?_
            refine u_ 30 95 (m_ 42 2147483647) HT_.out ?_
            refine u_ 31 96 (m_ 42 4294967295) HT_.out ?_
            refine u_ 32 97 (m_ 42 8589934591) HT_.out ?_
            refine u_ 33 98 (m_ 42 17179869183) HT_.out ?_
            refine u_ 34 99 (m_ 42 34359738367) HT_.out ?_
            refine u_ 35 100 (m_ 42 68719476735) HT_.out ?_
            refine u_ 36 101 (m_ 42 137438953471) HT_.out ?_
            refine u_ 37 102 (m_ 42 274877906943) HT_.out ?_
            refine u_ 38 103 (m_ 42 549755813887) HT_.out ?_
            refine u_ 39 104 (m_ 42 1099511627775) HT_.out ?_
            refine p_ 40 105 (m_ 42 2199023255551) HT_.out ?_
            refine p_ 41 4 (m_ 42 4398046511103) HT_.out ?_
            refine done_ (done_of HT_.out (by kernel_rfl)) ?_
            try go_wp2
            go_ret
            exact ⟨ee_, bb_ HB⟩
           ·rw [if_neg c30] at H
            have c30b0 : (t285 == t288) = false := beq_eq_false_iff_ne.mpr c30
            have c30b1 : (t285 != t288) = true := bne_iff_ne.mpr c30
            by_cases c35 : t285 = t291
            ·rw [if_pos c35] at H
             have c35b0 : (t285 == t291) = true := beq_iff_eq.mpr c35
             have c35b1 : (t285 != t291) = false := bne_eq_false_iff_eq.mpr c35
             clear c35
             obtain rfl := Option.some.inj H
             try go_wp2
             have n0_ := Aside0.mk (below_drew1 HB.out)
             clear HB
             have HB := n0_
             clear n0_
             have p283 : 0 ≤ (0 : Int) := (by omega)
             have q283 : 0 < (l1.length : Int) := dd_
             obtain ⟨ad283, e283, hx283_0⟩ := Kd.at_int HR1.out 0 p283 q283
             have hw283_0 := hx283_0
             (try rw [show ((0 : Int)).toNat = 0 from rfl] at hw283_0)
             (try rw [show 0 * 1 = 0 from rfl] at hw283_0)
             (try rw [Addr.add_zero'] at hw283_0)
             cases e283
             have qi283 : (0 < l1.length) = True := eq_true (by omega)
             (try rw [show ((0 : Int)).toNat = 0 from rfl] at hx283_0)
             (try rw [Addr.add_zero'] at hx283_0)
             replace hx283_0 := hc_ HB hx283_0
             replace p283 := eq_true p283
             replace q283 := eq_true q283
             have p284 : 0 ≤ (1 : Int) := (by omega)
             have q284 : 1 < (l1.length : Int) := dd_
             obtain ⟨ad284, e284, hx284_0⟩ := Kd.at_int HR1.out 1 p284 q284
             have hw284_0 := hx284_0
             (try rw [show ((1 : Int)).toNat = 1 from rfl] at hw284_0)
             (try rw [show 1 * 1 = 1 from rfl] at hw284_0)
             (try simp only [Nat.reduceMul, Nat.reduceEqDiff, Go.Addr.add, ↓reduceIte] at hw284_0)
             obtain rfl : ad283 = ad284 := (by injection e284)
             (try simp only [show (1 : Int).toNat = 1 from rfl, Nat.reduceMul, Nat.reduceEqDiff, Go.Addr.add, ↓reduceIte] at hx284_0)
             have qi284 : (1 < l1.length) = True := eq_true (by omega)
             (try rw [show ((1 : Int)).toNat = 1 from rfl] at hx284_0)
             replace hx284_0 := hc_ HB hx284_0
             replace p284 := eq_true p284
             replace q284 := eq_true q284
             refine start_ (n := 9) (S := fun w' => w'.cell? ad283 = some (.int .i64 (rd l1 0)) ∧ w'.cell? ⟨ad283.block, ad283.off + 1, none⟩ = some (.int .i64 (rd l1 1))) (ds := []) #[F_,F_,F_,F_,F_,F_,F_,F_,F_] (by kernel_rfl) rfl rfl ⟨(hc_ HB hw283_0), (hc_ HB hw284_0)⟩ (fun hHeld => ?_); refine with_tabW spec_TwinIn.tab8 spec_TwinIn.bits8 (fun HT_ HW_ => ?_)
             generalize wr.drew = w36 at HB hx283_0 hx284_0 hHeld ⊢
             refine p_ 0 41 (m_ 9 1) HT_.out ?_
             refine p_ 1 42 (m_ 9 3) HT_.out ?_
             refine p_ 2 43 (m_ 9 7) HT_.out ?_
             refine p_ 4 45 (m_ 9 23) HT_.out ?_
             refine p_ 5 46 (m_ 9 55) HT_.out ?_
             refine t2_ 3 44 (m_ 9 63) HT_.out HW_.out hHeld ?_
             refine t2_ 6 47 (m_ 9 127) HT_.out HW_.out hHeld ?_
             refine one_ (i := 7) (N := some 48) (m_ 9 255) rfl rfl (one_of HT_.out (by kernel_rfl)) (by decide) (fun K hK => ?_)
             refine goes_ Try.func66 (by kernel_rfl) rfl #[.slice A0 l0.length c0, .int .i64 (rd l1 0), .int .i64 (rd l1 1)] (by rfl) rfl rfl ll_ ?_
             with_reducible refine (spec_l3Join.calls k2 _ _ l0 (rd l1 0) (rd l1 1) t285 _ ?side1 ?side2 A25.out).mono ?_
             (case side1 => exact sb_ HR0 HB)
             (case side2 => exact HC0.out)
             rintro e w' ⟨rfl, ⟨nd, rfl⟩⟩
             refine ⟨_, rfl, ?_⟩
             refine hK.out _ _ ⟨(hc_ HB hw283_0), (hc_ HB hw284_0)⟩ (fun hHeld => ?_)
             clear hK K
             refine norm_ (a' := ?_) ?_ ?_; rotate_left; (show Act.put _ (some 48) _ = _; simp only [Act.put, List.setIfInBounds_toArray, List.set_cons_zero, List.set_cons_succ, i64_w, i32_w]; rfl)
             refine p_ 8 6 (m_ 9 511) HT_.out ?_
             refine done_ (done_of HT_.out (by kernel_rfl)) ?_
             try go_wp2
             (try (rw [dself_ w36]; generalize hq_ : World.drewN w36 _ = w36; have n0_ : Aside0 (Below w.heap.size w w36) := ⟨by rw [← hq_]; exact (bb_ HB)⟩; clear HB hq_; have HB := n0_; clear n0_))
             have n0_ := Aside0.mk (below_drew1 HB.out)
             clear HB
             have HB := n0_
             clear n0_
             have p286 : 0 ≤ (0 : Int) := (by omega)
             have q286 : 0 < (l1.length : Int) := dd_
             obtain ⟨ad286, e286, hx286_0⟩ := Kd.at_int HR1.out 0 p286 q286
             have hw286_0 := hx286_0
             (try rw [show ((0 : Int)).toNat = 0 from rfl] at hw286_0)
             (try rw [show 0 * 1 = 0 from rfl] at hw286_0)
             (try rw [Addr.add_zero'] at hw286_0)
             obtain rfl : ad283 = ad286 := (by injection e286)
             have qi286 : (0 < l1.length) = True := eq_true (by omega)
             (try rw [show ((0 : Int)).toNat = 0 from rfl] at hx286_0)
             (try rw [Addr.add_zero'] at hx286_0)
             replace hx286_0 := hc_ HB hx286_0
             replace p286 := eq_true p286
             replace q286 := eq_true q286
             have p287 : 0 ≤ (2 : Int) := (by omega)
             have q287 : 2 < (l1.length : Int) := dd_
             obtain ⟨ad287, e287, hx287_0⟩ := Kd.at_int HR1.out 2 p287 q287
             have hw287_0 := hx287_0
             (try rw [show ((2 : Int)).toNat = 2 from rfl] at hw287_0)
             (try rw [show 2 * 1 = 2 from rfl] at hw287_0)
             (try simp only [Nat.reduceMul, Nat.reduceEqDiff, Go.Addr.add, ↓reduceIte] at hw287_0)
             obtain rfl : ad283 = ad287 := (by injection e287)
             (try simp only [show (2 : Int).toNat = 2 from rfl, Nat.reduceMul, Nat.reduceEqDiff, Go.Addr.add, ↓reduceIte] at hx287_0)
             have qi287 : (2 < l1.length) = True := eq_true (by omega)
             (try rw [show ((2 : Int)).toNat = 2 from rfl] at hx287_0)
             replace hx287_0 := hc_ HB hx287_0
             replace p287 := eq_true p287
             replace q287 := eq_true q287
             refine start_ (n := 9) (S := fun w' => w'.cell? ad283 = some (.int .i64 (rd l1 0)) ∧ w'.cell? ⟨ad283.block, ad283.off + 2, none⟩ = some (.int .i64 (rd l1 2))) (ds := []) #[F_,F_,F_,F_,F_,F_,F_,F_,F_] (by kernel_rfl) rfl rfl ⟨(hc_ HB hw286_0), (hc_ HB hw287_0)⟩ (fun hHeld => ?_); refine with_tabW spec_TwinIn.tab9 spec_TwinIn.bits9 (fun HT_ HW_ => ?_)
             generalize w36.drew = w37 at HB hx286_0 hx287_0 hHeld ⊢
             refine p_ 0 49 (m_ 9 1) HT_.out ?_
             refine p_ 1 50 (m_ 9 3) HT_.out ?_
             refine p_ 2 51 (m_ 9 7) HT_.out ?_
             refine p_ 4 53 (m_ 9 23) HT_.out ?_
             refine p_ 5 54 (m_ 9 55) HT_.out ?_
             refine t2_ 3 52 (m_ 9 63) HT_.out HW_.out hHeld ?_
             refine t2_ 6 55 (m_ 9 127) HT_.out HW_.out hHeld ?_
             refine one_ (i := 7) (N := some 56) (m_ 9 255) rfl rfl (one_of HT_.out (by kernel_rfl)) (by decide) (fun K hK => ?_)
             refine goes_ Try.func66 (by kernel_rfl) rfl #[.slice A0 l0.length c0, .int .i64 (rd l1 0), .int .i64 (rd l1 2)] (by rfl) rfl rfl ll_ ?_
             with_reducible refine (spec_l3Join.calls k2 _ _ l0 (rd l1 0) (rd l1 2) t288 _ ?side1 ?side2 A27.out).mono ?_
             (case side1 => exact sb_ HR0 HB)
             (case side2 => exact HC0.out)
             rintro e w' ⟨rfl, ⟨nd, rfl⟩⟩
             refine ⟨_, rfl, ?_⟩
             refine hK.out _ _ ⟨(hc_ HB hw286_0), (hc_ HB hw287_0)⟩ (fun hHeld => ?_)
             clear hK K
             refine norm_ (a' := ?_) ?_ ?_; rotate_left; (show Act.put _ (some 56) _ = _; simp only [Act.put, List.setIfInBounds_toArray, List.set_cons_zero, List.set_cons_succ, i64_w, i32_w]; rfl)
             refine p_ 8 7 (m_ 9 511) HT_.out ?_
             refine done_ (done_of HT_.out (by kernel_rfl)) ?_
             try go_wp2
             (try (rw [dself_ w37]; generalize hq_ : World.drewN w37 _ = w37; have n0_ : Aside0 (Below w.heap.size w w37) := ⟨by rw [← hq_]; exact (bb_ HB)⟩; clear HB hq_; have HB := n0_; clear n0_))
             have n0_ := Aside0.mk (below_drew1 HB.out)
             clear HB
             have HB := n0_
             clear n0_
             have p289 : 0 ≤ (0 : Int) := (by omega)
             have q289 : 0 < (l1.length : Int) := dd_
             obtain ⟨ad289, e289, hx289_0⟩ := Kd.at_int HR1.out 0 p289 q289
             have hw289_0 := hx289_0
             (try rw [show ((0 : Int)).toNat = 0 from rfl] at hw289_0)
             (try rw [show 0 * 1 = 0 from rfl] at hw289_0)
             (try rw [Addr.add_zero'] at hw289_0)
             obtain rfl : ad283 = ad289 := (by injection e289)
             have qi289 : (0 < l1.length) = True := eq_true (by omega)
             (try rw [show ((0 : Int)).toNat = 0 from rfl] at hx289_0)
             (try rw [Addr.add_zero'] at hx289_0)
             replace hx289_0 := hc_ HB hx289_0
             replace p289 := eq_true p289
             replace q289 := eq_true q289
             have p290 : 0 ≤ (3 : Int) := (by omega)
             have q290 : 3 < (l1.length : Int) := dd_
             obtain ⟨ad290, e290, hx290_0⟩ := Kd.at_int HR1.out 3 p290 q290
             have hw290_0 := hx290_0
             (try rw [show ((3 : Int)).toNat = 3 from rfl] at hw290_0)
             (try rw [show 3 * 1 = 3 from rfl] at hw290_0)
             (try simp only [Nat.reduceMul, Nat.reduceEqDiff, Go.Addr.add, ↓reduceIte] at hw290_0)
             obtain rfl : ad283 = ad290 := (by injection e290)
             (try simp only [show (3 : Int).toNat = 3 from rfl, Nat.reduceMul, Nat.reduceEqDiff, Go.Addr.add, ↓reduceIte] at hx290_0)
             have qi290 : (3 < l1.length) = True := eq_true (by omega)
             (try rw [show ((3 : Int)).toNat = 3 from rfl] at hx290_0)
             replace hx290_0 := hc_ HB hx290_0
             replace p290 := eq_true p290
             replace q290 := eq_true q290
             refine start_ (n := 9) (S := fun w' => w'.cell? ad283 = some (.int .i64 (rd l1 0)) ∧ w'.cell? ⟨ad283.block, ad283.off + 3, none⟩ = some (.int .i64 (rd l1 3))) (ds := []) #[F_,F_,F_,F_,F_,F_,F_,F_,F_] (by kernel_rfl) rfl rfl ⟨(hc_ HB hw289_0), (hc_ HB hw290_0)⟩ (fun hHeld => ?_); refine with_tabW spec_TwinIn.tab10 spec_TwinIn.bits10 (fun HT_ HW_ => ?_)
             generalize w37.drew = w38 at HB hx289_0 hx290_0 hHeld ⊢
             refine p_ 0 57 (m_ 9 1) HT_.out ?_
             refine p_ 1 58 (m_ 9 3) HT_.out ?_
             refine p_ 2 59 (m_ 9 7) HT_.out ?_
             refine p_ 4 61 (m_ 9 23) HT_.out ?_
             refine p_ 5 62 (m_ 9 55) HT_.out ?_
             refine t2_ 3 60 (m_ 9 63) HT_.out HW_.out hHeld ?_
             refine t2_ 6 63 (m_ 9 127) HT_.out HW_.out hHeld ?_
             refine one_ (i := 7) (N := some 64) (m_ 9 255) rfl rfl (one_of HT_.out (by kernel_rfl)) (by decide) (fun K hK => ?_)
             refine goes_ Try.func66 (by kernel_rfl) rfl #[.slice A0 l0.length c0, .int .i64 (rd l1 0), .int .i64 (rd l1 3)] (by rfl) rfl rfl ll_ ?_
             with_reducible refine (spec_l3Join.calls k2 _ _ l0 (rd l1 0) (rd l1 3) t291 _ ?side1 ?side2 A29.out).mono ?_
             (case side1 => exact sb_ HR0 HB)
             (case side2 => exact HC0.out)
             rintro e w' ⟨rfl, ⟨nd, rfl⟩⟩
             refine ⟨_, rfl, ?_⟩
             refine hK.out _ _ ⟨(hc_ HB hw289_0), (hc_ HB hw290_0)⟩ (fun hHeld => ?_)
             clear hK K
             refine norm_ (a' := ?_) ?_ ?_; rotate_left; (show Act.put _ (some 64) _ = _; simp only [Act.put, List.setIfInBounds_toArray, List.set_cons_zero, List.set_cons_succ, i64_w, i32_w]; rfl)
             refine p_ 8 8 (m_ 9 511) HT_.out ?_
             refine done_ (done_of HT_.out (by kernel_rfl)) ?_
             try go_wp2
             (try (rw [dself_ w38]; generalize hq_ : World.drewN w38 _ = w38; have n0_ : Aside0 (Below w.heap.size w w38) := ⟨by rw [← hq_]; exact (bb_ HB)⟩; clear HB hq_; have HB := n0_; clear n0_))
             have n0_ := Aside0.mk (below_drew1 HB.out)
             clear HB
             have HB := n0_
             clear n0_
             refine start_ (n := 42) (S := fun w' => True) (ds := []) #[F_,F_,F_,F_,F_,F_,F_,F_,F_,F_,F_,F_,F_,F_,F_,F_,F_,F_,F_,F_,F_,F_,F_,F_,F_,F_,F_,F_,F_,F_,F_,F_,F_,F_,F_,F_,F_,F_,F_,F_,F_,F_] (by kernel_rfl) rfl rfl trivial (fun hHeld => ?_); refine with_tabW spec_TwinIn.tab11 spec_TwinIn.bits11 (fun HT_ HW_ => ?_)
             generalize w38.drew = w39 at HB hHeld ⊢
             refine p_ 0 65 (m_ 42 1) HT_.out ?_
             refine p_ 1 66 (m_ 42 3) HT_.out ?_
             refine p_ 2 67 (m_ 42 7) HT_.out ?_
             refine p_ 3 68 (m_ 42 15) HT_.out ?_
             refine p_ 4 69 (m_ 42 31) HT_.out ?_
             refine p_ 5 70 (m_ 42 63) HT_.out ?_
             refine p_ 6 71 (m_ 42 127) HT_.out ?_
             refine p_ 7 72 (m_ 42 255) HT_.out ?_
             refine p_ 8 73 (m_ 42 511) HT_.out ?_
             refine u_ 9 74 (m_ 42 1023) HT_.out ?_
             refine u_ 10 75 (m_ 42 2047) HT_.out ?_
             refine u_ 11 76 (m_ 42 4095) HT_.out ?_
             refine p_ 12 77 (m_ 42 8191) HT_.out ?_
             refine p_ 13 78 (m_ 42 16383) HT_.out ?_
             refine u_ 14 79 (m_ 42 32767) HT_.out ?_
             refine u_ 15 80 (m_ 42 65535) HT_.out ?_
             refine u_ 16 81 (m_ 42 131071) HT_.out ?_
             refine u_ 17 82 (m_ 42 262143) HT_.out ?_
             refine u_ 18 83 (m_ 42 524287) HT_.out ?_
             refine u_ 19 84 (m_ 42 1048575) HT_.out ?_
             refine u_ 20 85 (m_ 42 2097151) HT_.out ?_
             refine u_ 21 86 (m_ 42 4194303) HT_.out ?_
             refine u_ 22 87 (m_ 42 8388607) HT_.out ?_
             refine u_ 23 88 (m_ 42 16777215) HT_.out ?_
             refine u_ 24 89 (m_ 42 33554431) HT_.out ?_
             refine u_ 25 90 (m_ 42 67108863) HT_.out ?_
             refine p_ 26 91 (m_ 42 134217727) HT_.out ?_
             refine p_ 27 92 (m_ 42 268435455) HT_.out ?_
             refine u_ 28 93 (m_ 42 536870911) HT_.out ?_
             refine u_ 29 94 (m_ 42 1073741823) HT_.out ?_
             refine u_ 30 95 (m_ 42 2147483647) HT_.out ?_
             refine u_ 31 96 (m_ 42 4294967295) HT_.out ?_
             refine u_ 32 97 (m_ 42 8589934591) HT_.out ?_
             refine u_ 33 98 (m_ 42 17179869183) HT_.out ?_
             refine u_ 34 99 (m_ 42 34359738367) HT_.out ?_
             refine u_ 35 100 (m_ 42 68719476735) HT_.out ?_
             refine u_ 36 101 (m_ 42 137438953471) HT_.out ?_
             refine u_ 37 102 (m_ 42 274877906943) HT_.out ?_
             refine u_ 38 103 (m_ 42 549755813887) HT_.out ?_
             refine u_ 39 104 (m_ 42 1099511627775) HT_.out ?_
             refine p_ 40 105 (m_ 42 2199023255551) HT_.out ?_
             refine p_ 41 4 (m_ 42 4398046511103) HT_.out ?_
             refine done_ (done_of HT_.out (by kernel_rfl)) ?_
             try go_wp2
             go_ret
             exact ⟨ee_, bb_ HB⟩
            ·rw [if_neg c35] at H
             have c35b0 : (t285 == t291) = false := beq_eq_false_iff_ne.mpr c35
             have c35b1 : (t285 != t291) = true := bne_iff_ne.mpr c35
             by_cases c40 : t288 = t291
             ·rw [if_pos c40] at H
              have c40b0 : (t288 == t291) = true := beq_iff_eq.mpr c40
              have c40b1 : (t288 != t291) = false := bne_eq_false_iff_eq.mpr c40
              clear c40
              obtain rfl := Option.some.inj H
              try go_wp2
              have n0_ := Aside0.mk (below_drew1 HB.out)
              clear HB
              have HB := n0_
              clear n0_
              have p283 : 0 ≤ (0 : Int) := (by omega)
              have q283 : 0 < (l1.length : Int) := dd_
              obtain ⟨ad283, e283, hx283_0⟩ := Kd.at_int HR1.out 0 p283 q283
              have hw283_0 := hx283_0
              (try rw [show ((0 : Int)).toNat = 0 from rfl] at hw283_0)
              (try rw [show 0 * 1 = 0 from rfl] at hw283_0)
              (try rw [Addr.add_zero'] at hw283_0)
              cases e283
              have qi283 : (0 < l1.length) = True := eq_true (by omega)
              (try rw [show ((0 : Int)).toNat = 0 from rfl] at hx283_0)
              (try rw [Addr.add_zero'] at hx283_0)
              replace hx283_0 := hc_ HB hx283_0
              replace p283 := eq_true p283
              replace q283 := eq_true q283
              have p284 : 0 ≤ (1 : Int) := (by omega)
              have q284 : 1 < (l1.length : Int) := dd_
              obtain ⟨ad284, e284, hx284_0⟩ := Kd.at_int HR1.out 1 p284 q284
              have hw284_0 := hx284_0
              (try rw [show ((1 : Int)).toNat = 1 from rfl] at hw284_0)
              (try rw [show 1 * 1 = 1 from rfl] at hw284_0)
              (try simp only [Nat.reduceMul, Nat.reduceEqDiff, Go.Addr.add, ↓reduceIte] at hw284_0)
              obtain rfl : ad283 = ad284 := (by injection e284)
              (try simp only [show (1 : Int).toNat = 1 from rfl, Nat.reduceMul, Nat.reduceEqDiff, Go.Addr.add, ↓reduceIte] at hx284_0)
              have qi284 : (1 < l1.length) = True := eq_true (by omega)
              (try rw [show ((1 : Int)).toNat = 1 from rfl] at hx284_0)
              replace hx284_0 := hc_ HB hx284_0
              replace p284 := eq_true p284
              replace q284 := eq_true q284
              refine start_ (n := 9) (S := fun w' => w'.cell? ad283 = some (.int .i64 (rd l1 0)) ∧ w'.cell? ⟨ad283.block, ad283.off + 1, none⟩ = some (.int .i64 (rd l1 1))) (ds := []) #[F_,F_,F_,F_,F_,F_,F_,F_,F_] (by kernel_rfl) rfl rfl ⟨(hc_ HB hw283_0), (hc_ HB hw284_0)⟩ (fun hHeld => ?_); refine with_tabW spec_TwinIn.tab8 spec_TwinIn.bits8 (fun HT_ HW_ => ?_)
              generalize wr.drew = w41 at HB hx283_0 hx284_0 hHeld ⊢
              refine p_ 0 41 (m_ 9 1) HT_.out ?_
              refine p_ 1 42 (m_ 9 3) HT_.out ?_
              refine p_ 2 43 (m_ 9 7) HT_.out ?_
              refine p_ 4 45 (m_ 9 23) HT_.out ?_
              refine p_ 5 46 (m_ 9 55) HT_.out ?_
              refine t2_ 3 44 (m_ 9 63) HT_.out HW_.out hHeld ?_
              refine t2_ 6 47 (m_ 9 127) HT_.out HW_.out hHeld ?_
              refine one_ (i := 7) (N := some 48) (m_ 9 255) rfl rfl (one_of HT_.out (by kernel_rfl)) (by decide) (fun K hK => ?_)
              refine goes_ Try.func66 (by kernel_rfl) rfl #[.slice A0 l0.length c0, .int .i64 (rd l1 0), .int .i64 (rd l1 1)] (by rfl) rfl rfl ll_ ?_
              with_reducible refine (spec_l3Join.calls k2 _ _ l0 (rd l1 0) (rd l1 1) t285 _ ?side1 ?side2 A25.out).mono ?_
              (case side1 => exact sb_ HR0 HB)
              (case side2 => exact HC0.out)
              rintro e w' ⟨rfl, ⟨nd, rfl⟩⟩
              refine ⟨_, rfl, ?_⟩
              refine hK.out _ _ ⟨(hc_ HB hw283_0), (hc_ HB hw284_0)⟩ (fun hHeld => ?_)
              clear hK K
              refine norm_ (a' := ?_) ?_ ?_; rotate_left; (show Act.put _ (some 48) _ = _; simp only [Act.put, List.setIfInBounds_toArray, List.set_cons_zero, List.set_cons_succ, i64_w, i32_w]; rfl)
              refine p_ 8 6 (m_ 9 511) HT_.out ?_
              refine done_ (done_of HT_.out (by kernel_rfl)) ?_
              try go_wp2
              (try (rw [dself_ w41]; generalize hq_ : World.drewN w41 _ = w41; have n0_ : Aside0 (Below w.heap.size w w41) := ⟨by rw [← hq_]; exact (bb_ HB)⟩; clear HB hq_; have HB := n0_; clear n0_))
              have n0_ := Aside0.mk (below_drew1 HB.out)
              clear HB
              have HB := n0_
              clear n0_
              have p286 : 0 ≤ (0 : Int) := (by omega)
              have q286 : 0 < (l1.length : Int) := dd_
              obtain ⟨ad286, e286, hx286_0⟩ := Kd.at_int HR1.out 0 p286 q286
              have hw286_0 := hx286_0
              (try rw [show ((0 : Int)).toNat = 0 from rfl] at hw286_0)
              (try rw [show 0 * 1 = 0 from rfl] at hw286_0)
              (try rw [Addr.add_zero'] at hw286_0)
              obtain rfl : ad283 = ad286 := (by injection e286)
              have qi286 : (0 < l1.length) = True := eq_true (by omega)
              (try rw [show ((0 : Int)).toNat = 0 from rfl] at hx286_0)
              (try rw [Addr.add_zero'] at hx286_0)
              replace hx286_0 := hc_ HB hx286_0
              replace p286 := eq_true p286
              replace q286 := eq_true q286
              have p287 : 0 ≤ (2 : Int) := (by omega)
              have q287 : 2 < (l1.length : Int) := dd_
              obtain ⟨ad287, e287, hx287_0⟩ := Kd.at_int HR1.out 2 p287 q287
              have hw287_0 := hx287_0
              (try rw [show ((2 : Int)).toNat = 2 from rfl] at hw287_0)
              (try rw [show 2 * 1 = 2 from rfl] at hw287_0)
              (try simp only [Nat.reduceMul, Nat.reduceEqDiff, Go.Addr.add, ↓reduceIte] at hw287_0)
              obtain rfl : ad283 = ad287 := (by injection e287)
              (try simp only [show (2 : Int).toNat = 2 from rfl, Nat.reduceMul, Nat.reduceEqDiff, Go.Addr.add, ↓reduceIte] at hx287_0)
              have qi287 : (2 < l1.length) = True := eq_true (by omega)
              (try rw [show ((2 : Int)).toNat = 2 from rfl] at hx287_0)
              replace hx287_0 := hc_ HB hx287_0
              replace p287 := eq_true p287
              replace q287 := eq_true q287
              refine start_ (n := 9) (S := fun w' => w'.cell? ad283 = some (.int .i64 (rd l1 0)) ∧ w'.cell? ⟨ad283.block, ad283.off + 2, none⟩ = some (.int .i64 (rd l1 2))) (ds := []) #[F_,F_,F_,F_,F_,F_,F_,F_,F_] (by kernel_rfl) rfl rfl ⟨(hc_ HB hw286_0), (hc_ HB hw287_0)⟩ (fun hHeld => ?_); refine with_tabW spec_TwinIn.tab9 spec_TwinIn.bits9 (fun HT_ HW_ => ?_)
              generalize w41.drew = w42 at HB hx286_0 hx287_0 hHeld ⊢
              refine p_ 0 49 (m_ 9 1) HT_.out ?_
              refine p_ 1 50 (m_ 9 3) HT_.out ?_
              refine p_ 2 51 (m_ 9 7) HT_.out ?_
              refine p_ 4 53 (m_ 9 23) HT_.out ?_
              refine p_ 5 54 (m_ 9 55) HT_.out ?_
              refine t2_ 3 52 (m_ 9 63) HT_.out HW_.out hHeld ?_
              refine t2_ 6 55 (m_ 9 127) HT_.out HW_.out hHeld ?_
              refine one_ (i := 7) (N := some 56) (m_ 9 255) rfl rfl (one_of HT_.out (by kernel_rfl)) (by decide) (fun K hK => ?_)
              refine goes_ Try.func66 (by kernel_rfl) rfl #[.slice A0 l0.length c0, .int .i64 (rd l1 0), .int .i64 (rd l1 2)] (by rfl) rfl rfl ll_ ?_
              with_reducible refine (spec_l3Join.calls k2 _ _ l0 (rd l1 0) (rd l1 2) t288 _ ?side1 ?side2 A27.out).mono ?_
              (case side1 => exact sb_ HR0 HB)
              (case side2 => exact HC0.out)
              rintro e w' ⟨rfl, ⟨nd, rfl⟩⟩
              refine ⟨_, rfl, ?_⟩
              refine hK.out _ _ ⟨(hc_ HB hw286_0), (hc_ HB hw287_0)⟩ (fun hHeld => ?_)
              clear hK K
              refine norm_ (a' := ?_) ?_ ?_; rotate_left; (show Act.put _ (some 56) _ = _; simp only [Act.put, List.setIfInBounds_toArray, List.set_cons_zero, List.set_cons_succ, i64_w, i32_w]; rfl)
              refine p_ 8 7 (m_ 9 511) HT_.out ?_
              refine done_ (done_of HT_.out (by kernel_rfl)) ?_
              try go_wp2
              (try (rw [dself_ w42]; generalize hq_ : World.drewN w42 _ = w42; have n0_ : Aside0 (Below w.heap.size w w42) := ⟨by rw [← hq_]; exact (bb_ HB)⟩; clear HB hq_; have HB := n0_; clear n0_))
              have n0_ := Aside0.mk (below_drew1 HB.out)
              clear HB
              have HB := n0_
              clear n0_
              have p289 : 0 ≤ (0 : Int) := (by omega)
              have q289 : 0 < (l1.length : Int) := dd_
              obtain ⟨ad289, e289, hx289_0⟩ := Kd.at_int HR1.out 0 p289 q289
              have hw289_0 := hx289_0
              (try rw [show ((0 : Int)).toNat = 0 from rfl] at hw289_0)
              (try rw [show 0 * 1 = 0 from rfl] at hw289_0)
              (try rw [Addr.add_zero'] at hw289_0)
              obtain rfl : ad283 = ad289 := (by injection e289)
              have qi289 : (0 < l1.length) = True := eq_true (by omega)
              (try rw [show ((0 : Int)).toNat = 0 from rfl] at hx289_0)
              (try rw [Addr.add_zero'] at hx289_0)
              replace hx289_0 := hc_ HB hx289_0
              replace p289 := eq_true p289
              replace q289 := eq_true q289
              have p290 : 0 ≤ (3 : Int) := (by omega)
              have q290 : 3 < (l1.length : Int) := dd_
              obtain ⟨ad290, e290, hx290_0⟩ := Kd.at_int HR1.out 3 p290 q290
              have hw290_0 := hx290_0
              (try rw [show ((3 : Int)).toNat = 3 from rfl] at hw290_0)
              (try rw [show 3 * 1 = 3 from rfl] at hw290_0)
              (try simp only [Nat.reduceMul, Nat.reduceEqDiff, Go.Addr.add, ↓reduceIte] at hw290_0)
              obtain rfl : ad283 = ad290 := (by injection e290)
              (try simp only [show (3 : Int).toNat = 3 from rfl, Nat.reduceMul, Nat.reduceEqDiff, Go.Addr.add, ↓reduceIte] at hx290_0)
              have qi290 : (3 < l1.length) = True := eq_true (by omega)
              (try rw [show ((3 : Int)).toNat = 3 from rfl] at hx290_0)
              replace hx290_0 := hc_ HB hx290_0
              replace p290 := eq_true p290
              replace q290 := eq_true q290
              refine start_ (n := 9) (S := fun w' => w'.cell? ad283 = some (.int .i64 (rd l1 0)) ∧ w'.cell? ⟨ad283.block, ad283.off + 3, none⟩ = some (.int .i64 (rd l1 3))) (ds := []) #[F_,F_,F_,F_,F_,F_,F_,F_,F_] (by kernel_rfl) rfl rfl ⟨(hc_ HB hw289_0), (hc_ HB hw290_0)⟩ (fun hHeld => ?_); refine with_tabW spec_TwinIn.tab10 spec_TwinIn.bits10 (fun HT_ HW_ => ?_)
              generalize w42.drew = w43 at HB hx289_0 hx290_0 hHeld ⊢
              refine p_ 0 57 (m_ 9 1) HT_.out ?_
              refine p_ 1 58 (m_ 9 3) HT_.out ?_
              refine p_ 2 59 (m_ 9 7) HT_.out ?_
              refine p_ 4 61 (m_ 9 23) HT_.out ?_
              refine p_ 5 62 (m_ 9 55) HT_.out ?_
              refine t2_ 3 60 (m_ 9 63) HT_.out HW_.out hHeld ?_
              refine t2_ 6 63 (m_ 9 127) HT_.out HW_.out hHeld ?_
              refine one_ (i := 7) (N := some 64) (m_ 9 255) rfl rfl (one_of HT_.out (by kernel_rfl)) (by decide) (fun K hK => ?_)
              refine goes_ Try.func66 (by kernel_rfl) rfl #[.slice A0 l0.length c0, .int .i64 (rd l1 0), .int .i64 (rd l1 3)] (by rfl) rfl rfl ll_ ?_
              with_reducible refine (spec_l3Join.calls k2 _ _ l0 (rd l1 0) (rd l1 3) t291 _ ?side1 ?side2 A29.out).mono ?_
              (case side1 => exact sb_ HR0 HB)
              (case side2 => exact HC0.out)
              rintro e w' ⟨rfl, ⟨nd, rfl⟩⟩
              refine ⟨_, rfl, ?_⟩
              refine hK.out _ _ ⟨(hc_ HB hw289_0), (hc_ HB hw290_0)⟩ (fun hHeld => ?_)
              clear hK K
              refine norm_ (a' := ?_) ?_ ?_; rotate_left; (show Act.put _ (some 64) _ = _; simp only [Act.put, List.setIfInBounds_toArray, List.set_cons_zero, List.set_cons_succ, i64_w, i32_w]; rfl)
              refine p_ 8 8 (m_ 9 511) HT_.out ?_
              refine done_ (done_of HT_.out (by kernel_rfl)) ?_
              try go_wp2
              (try (rw [dself_ w43]; generalize hq_ : World.drewN w43 _ = w43; have n0_ : Aside0 (Below w.heap.size w w43) := ⟨by rw [← hq_]; exact (bb_ HB)⟩; clear HB hq_; have HB := n0_; clear n0_))
              have n0_ := Aside0.mk (below_drew1 HB.out)
              clear HB
              have HB := n0_
              clear n0_
              refine start_ (n := 42) (S := fun w' => True) (ds := []) #[F_,F_,F_,F_,F_,F_,F_,F_,F_,F_,F_,F_,F_,F_,F_,F_,F_,F_,F_,F_,F_,F_,F_,F_,F_,F_,F_,F_,F_,F_,F_,F_,F_,F_,F_,F_,F_,F_,F_,F_,F_,F_] (by kernel_rfl) rfl rfl trivial (fun hHeld => ?_); refine with_tabW spec_TwinIn.tab11 spec_TwinIn.bits11 (fun HT_ HW_ => ?_)
              generalize w43.drew = w44 at HB hHeld ⊢
              refine p_ 0 65 (m_ 42 1) HT_.out ?_
              refine p_ 1 66 (m_ 42 3) HT_.out ?_
              refine p_ 2 67 (m_ 42 7) HT_.out ?_
              refine p_ 3 68 (m_ 42 15) HT_.out ?_
              refine p_ 4 69 (m_ 42 31) HT_.out ?_
              refine p_ 5 70 (m_ 42 63) HT_.out ?_
              refine p_ 6 71 (m_ 42 127) HT_.out ?_
              refine p_ 7 72 (m_ 42 255) HT_.out ?_
              refine p_ 8 73 (m_ 42 511) HT_.out ?_
              refine p_ 9 74 (m_ 42 1023) HT_.out ?_
              refine p_ 10 75 (m_ 42 2047) HT_.out ?_
              refine p_ 11 76 (m_ 42 4095) HT_.out ?_
              refine p_ 12 77 (m_ 42 8191) HT_.out ?_
              refine p_ 13 78 (m_ 42 16383) HT_.out ?_
              refine u_ 14 79 (m_ 42 32767) HT_.out ?_
              refine u_ 15 80 (m_ 42 65535) HT_.out ?_
              refine u_ 16 81 (m_ 42 131071) HT_.out ?_
              refine u_ 17 82 (m_ 42 262143) HT_.out ?_
              refine u_ 18 83 (m_ 42 524287) HT_.out ?_
              refine u_ 19 84 (m_ 42 1048575) HT_.out ?_
              refine u_ 20 85 (m_ 42 2097151) HT_.out ?_
              refine u_ 21 86 (m_ 42 4194303) HT_.out ?_
              refine u_ 22 87 (m_ 42 8388607) HT_.out ?_
              refine u_ 23 88 (m_ 42 16777215) HT_.out ?_
              refine u_ 24 89 (m_ 42 33554431) HT_.out ?_
              refine u_ 25 90 (m_ 42 67108863) HT_.out ?_
              refine p_ 26 91 (m_ 42 134217727) HT_.out ?_
              refine p_ 27 92 (m_ 42 268435455) HT_.out ?_
              refine u_ 28 93 (m_ 42 536870911) HT_.out ?_
              refine u_ 29 94 (m_ 42 1073741823) HT_.out ?_
              refine u_ 30 95 (m_ 42 2147483647) HT_.out ?_
              refine u_ 31 96 (m_ 42 4294967295) HT_.out ?_
              refine u_ 32 97 (m_ 42 8589934591) HT_.out ?_
              refine u_ 33 98 (m_ 42 17179869183) HT_.out ?_
              refine u_ 34 99 (m_ 42 34359738367) HT_.out ?_
              refine u_ 35 100 (m_ 42 68719476735) HT_.out ?_
              refine u_ 36 101 (m_ 42 137438953471) HT_.out ?_
              refine u_ 37 102 (m_ 42 274877906943) HT_.out ?_
              refine u_ 38 103 (m_ 42 549755813887) HT_.out ?_
              refine u_ 39 104 (m_ 42 1099511627775) HT_.out ?_
              refine p_ 40 105 (m_ 42 2199023255551) HT_.out ?_
              refine p_ 41 4 (m_ 42 4398046511103) HT_.out ?_
              refine done_ (done_of HT_.out (by kernel_rfl)) ?_
              try go_wp2
              go_ret
              exact ⟨ee_, bb_ HB⟩
             ·rw [if_neg c40] at H
              have c40b0 : (t288 == t291) = false := beq_eq_false_iff_ne.mpr c40
              have c40b1 : (t288 != t291) = true := bne_iff_ne.mpr c40
              replace H := Option.bind_eq_some_iff.mp H
              obtain ⟨t295, A450, H⟩ := H
              replace H : (if t295 = true then (some false) else (if 4 < (l1.length : Int) then (if 5 < (l1.length : Int) then (if 6 < (l1.length : Int) then ((spec_l3Three.f k2 l0 (rd l1 4) (rd l1 5) (rd l1 6)).bind fun t299 => (some (!t299))) else (none)) else (none)) else (none))) = some r := H
              have A45 := Aside0.mk A450
              clear A450
              by_cases c46 : t295 = true
              ·subst c46
               have H1 : (some false) = some r := by rw [if_pos rfl] at H; exact H
               clear H
               have H := H1
               clear H1
               obtain rfl := Option.some.inj H
               try go_wp2
               have n0_ := Aside0.mk (below_drew1 HB.out)
               clear HB
               have HB := n0_
               clear n0_
               have p283 : 0 ≤ (0 : Int) := (by omega)
               have q283 : 0 < (l1.length : Int) := dd_
               obtain ⟨ad283, e283, hx283_0⟩ := Kd.at_int HR1.out 0 p283 q283
               have hw283_0 := hx283_0
               (try rw [show ((0 : Int)).toNat = 0 from rfl] at hw283_0)
               (try rw [show 0 * 1 = 0 from rfl] at hw283_0)
               (try rw [Addr.add_zero'] at hw283_0)
               cases e283
               have qi283 : (0 < l1.length) = True := eq_true (by omega)
               (try rw [show ((0 : Int)).toNat = 0 from rfl] at hx283_0)
               (try rw [Addr.add_zero'] at hx283_0)
               replace hx283_0 := hc_ HB hx283_0
               replace p283 := eq_true p283
               replace q283 := eq_true q283
               have p284 : 0 ≤ (1 : Int) := (by omega)
               have q284 : 1 < (l1.length : Int) := dd_
               obtain ⟨ad284, e284, hx284_0⟩ := Kd.at_int HR1.out 1 p284 q284
               have hw284_0 := hx284_0
               (try rw [show ((1 : Int)).toNat = 1 from rfl] at hw284_0)
               (try rw [show 1 * 1 = 1 from rfl] at hw284_0)
               (try simp only [Nat.reduceMul, Nat.reduceEqDiff, Go.Addr.add, ↓reduceIte] at hw284_0)
               obtain rfl : ad283 = ad284 := (by injection e284)
               (try simp only [show (1 : Int).toNat = 1 from rfl, Nat.reduceMul, Nat.reduceEqDiff, Go.Addr.add, ↓reduceIte] at hx284_0)
               have qi284 : (1 < l1.length) = True := eq_true (by omega)
               (try rw [show ((1 : Int)).toNat = 1 from rfl] at hx284_0)
               replace hx284_0 := hc_ HB hx284_0
               replace p284 := eq_true p284
               replace q284 := eq_true q284
               refine start_ (n := 9) (S := fun w' => w'.cell? ad283 = some (.int .i64 (rd l1 0)) ∧ w'.cell? ⟨ad283.block, ad283.off + 1, none⟩ = some (.int .i64 (rd l1 1))) (ds := []) #[F_,F_,F_,F_,F_,F_,F_,F_,F_] (by kernel_rfl) rfl rfl ⟨(hc_ HB hw283_0), (hc_ HB hw284_0)⟩ (fun hHeld => ?_); refine with_tabW spec_TwinIn.tab8 spec_TwinIn.bits8 (fun HT_ HW_ => ?_)
               generalize wr.drew = w47 at HB hx283_0 hx284_0 hHeld ⊢
               refine p_ 0 41 (m_ 9 1) HT_.out ?_
               refine p_ 1 42 (m_ 9 3) HT_.out ?_
               refine p_ 2 43 (m_ 9 7) HT_.out ?_
               refine p_ 4 45 (m_ 9 23) HT_.out ?_
               refine p_ 5 46 (m_ 9 55) HT_.out ?_
               refine t2_ 3 44 (m_ 9 63) HT_.out HW_.out hHeld ?_
               refine t2_ 6 47 (m_ 9 127) HT_.out HW_.out hHeld ?_
               refine one_ (i := 7) (N := some 48) (m_ 9 255) rfl rfl (one_of HT_.out (by kernel_rfl)) (by decide) (fun K hK => ?_)
               refine goes_ Try.func66 (by kernel_rfl) rfl #[.slice A0 l0.length c0, .int .i64 (rd l1 0), .int .i64 (rd l1 1)] (by rfl) rfl rfl ll_ ?_
               with_reducible refine (spec_l3Join.calls k2 _ _ l0 (rd l1 0) (rd l1 1) t285 _ ?side1 ?side2 A25.out).mono ?_
               (case side1 => exact sb_ HR0 HB)
               (case side2 => exact HC0.out)
               rintro e w' ⟨rfl, ⟨nd, rfl⟩⟩
               refine ⟨_, rfl, ?_⟩
               refine hK.out _ _ ⟨(hc_ HB hw283_0), (hc_ HB hw284_0)⟩ (fun hHeld => ?_)
               clear hK K
               refine norm_ (a' := ?_) ?_ ?_; rotate_left; (show Act.put _ (some 48) _ = _; simp only [Act.put, List.setIfInBounds_toArray, List.set_cons_zero, List.set_cons_succ, i64_w, i32_w]; rfl)
               refine p_ 8 6 (m_ 9 511) HT_.out ?_
               refine done_ (done_of HT_.out (by kernel_rfl)) ?_
               try go_wp2
               (try (rw [dself_ w47]; generalize hq_ : World.drewN w47 _ = w47; have n0_ : Aside0 (Below w.heap.size w w47) := ⟨by rw [← hq_]; exact (bb_ HB)⟩; clear HB hq_; have HB := n0_; clear n0_))
               have n0_ := Aside0.mk (below_drew1 HB.out)
               clear HB
               have HB := n0_
               clear n0_
               have p286 : 0 ≤ (0 : Int) := (by omega)
               have q286 : 0 < (l1.length : Int) := dd_
               obtain ⟨ad286, e286, hx286_0⟩ := Kd.at_int HR1.out 0 p286 q286
               have hw286_0 := hx286_0
               (try rw [show ((0 : Int)).toNat = 0 from rfl] at hw286_0)
               (try rw [show 0 * 1 = 0 from rfl] at hw286_0)
               (try rw [Addr.add_zero'] at hw286_0)
               obtain rfl : ad283 = ad286 := (by injection e286)
               have qi286 : (0 < l1.length) = True := eq_true (by omega)
               (try rw [show ((0 : Int)).toNat = 0 from rfl] at hx286_0)
               (try rw [Addr.add_zero'] at hx286_0)
               replace hx286_0 := hc_ HB hx286_0
               replace p286 := eq_true p286
               replace q286 := eq_true q286
               have p287 : 0 ≤ (2 : Int) := (by omega)
               have q287 : 2 < (l1.length : Int) := dd_
               obtain ⟨ad287, e287, hx287_0⟩ := Kd.at_int HR1.out 2 p287 q287
               have hw287_0 := hx287_0
               (try rw [show ((2 : Int)).toNat = 2 from rfl] at hw287_0)
               (try rw [show 2 * 1 = 2 from rfl] at hw287_0)
               (try simp only [Nat.reduceMul, Nat.reduceEqDiff, Go.Addr.add, ↓reduceIte] at hw287_0)
               obtain rfl : ad283 = ad287 := (by injection e287)
               (try simp only [show (2 : Int).toNat = 2 from rfl, Nat.reduceMul, Nat.reduceEqDiff, Go.Addr.add, ↓reduceIte] at hx287_0)
               have qi287 : (2 < l1.length) = True := eq_true (by omega)
               (try rw [show ((2 : Int)).toNat = 2 from rfl] at hx287_0)
               replace hx287_0 := hc_ HB hx287_0
               replace p287 := eq_true p287
               replace q287 := eq_true q287
               refine start_ (n := 9) (S := fun w' => w'.cell? ad283 = some (.int .i64 (rd l1 0)) ∧ w'.cell? ⟨ad283.block, ad283.off + 2, none⟩ = some (.int .i64 (rd l1 2))) (ds := []) #[F_,F_,F_,F_,F_,F_,F_,F_,F_] (by kernel_rfl) rfl rfl ⟨(hc_ HB hw286_0), (hc_ HB hw287_0)⟩ (fun hHeld => ?_); refine with_tabW spec_TwinIn.tab9 spec_TwinIn.bits9 (fun HT_ HW_ => ?_)
               generalize w47.drew = w48 at HB hx286_0 hx287_0 hHeld ⊢
               refine p_ 0 49 (m_ 9 1) HT_.out ?_
               refine p_ 1 50 (m_ 9 3) HT_.out ?_
               refine p_ 2 51 (m_ 9 7) HT_.out ?_
               refine p_ 4 53 (m_ 9 23) HT_.out ?_
               refine p_ 5 54 (m_ 9 55) HT_.out ?_
               refine t2_ 3 52 (m_ 9 63) HT_.out HW_.out hHeld ?_
               refine t2_ 6 55 (m_ 9 127) HT_.out HW_.out hHeld ?_
               refine one_ (i := 7) (N := some 56) (m_ 9 255) rfl rfl (one_of HT_.out (by kernel_rfl)) (by decide) (fun K hK => ?_)
               refine goes_ Try.func66 (by kernel_rfl) rfl #[.slice A0 l0.length c0, .int .i64 (rd l1 0), .int .i64 (rd l1 2)] (by rfl) rfl rfl ll_ ?_
               with_reducible refine (spec_l3Join.calls k2 _ _ l0 (rd l1 0) (rd l1 2) t288 _ ?side1 ?side2 A27.out).mono ?_
               (case side1 => exact sb_ HR0 HB)
               (case side2 => exact HC0.out)
               rintro e w' ⟨rfl, ⟨nd, rfl⟩⟩
               refine ⟨_, rfl, ?_⟩
               refine hK.out _ _ ⟨(hc_ HB hw286_0), (hc_ HB hw287_0)⟩ (fun hHeld => ?_)
               clear hK K
               refine norm_ (a' := ?_) ?_ ?_; rotate_left; (show Act.put _ (some 56) _ = _; simp only [Act.put, List.setIfInBounds_toArray, List.set_cons_zero, List.set_cons_succ, i64_w, i32_w]; rfl)
               refine p_ 8 7 (m_ 9 511) HT_.out ?_
               refine done_ (done_of HT_.out (by kernel_rfl)) ?_
               try go_wp2
               (try (rw [dself_ w48]; generalize hq_ : World.drewN w48 _ = w48; have n0_ : Aside0 (Below w.heap.size w w48) := ⟨by rw [← hq_]; exact (bb_ HB)⟩; clear HB hq_; have HB := n0_; clear n0_))
               have n0_ := Aside0.mk (below_drew1 HB.out)
               clear HB
               have HB := n0_
               clear n0_
               have p289 : 0 ≤ (0 : Int) := (by omega)
               have q289 : 0 < (l1.length : Int) := dd_
               obtain ⟨ad289, e289, hx289_0⟩ := Kd.at_int HR1.out 0 p289 q289
               have hw289_0 := hx289_0
               (try rw [show ((0 : Int)).toNat = 0 from rfl] at hw289_0)
               (try rw [show 0 * 1 = 0 from rfl] at hw289_0)
               (try rw [Addr.add_zero'] at hw289_0)
               obtain rfl : ad283 = ad289 := (by injection e289)
               have qi289 : (0 < l1.length) = True := eq_true (by omega)
               (try rw [show ((0 : Int)).toNat = 0 from rfl] at hx289_0)
               (try rw [Addr.add_zero'] at hx289_0)
               replace hx289_0 := hc_ HB hx289_0
               replace p289 := eq_true p289
               replace q289 := eq_true q289
               have p290 : 0 ≤ (3 : Int) := (by omega)
               have q290 : 3 < (l1.length : Int) := dd_
               obtain ⟨ad290, e290, hx290_0⟩ := Kd.at_int HR1.out 3 p290 q290
               have hw290_0 := hx290_0
               (try rw [show ((3 : Int)).toNat = 3 from rfl] at hw290_0)
               (try rw [show 3 * 1 = 3 from rfl] at hw290_0)
               (try simp only [Nat.reduceMul, Nat.reduceEqDiff, Go.Addr.add, ↓reduceIte] at hw290_0)
               obtain rfl : ad283 = ad290 := (by injection e290)
               (try simp only [show (3 : Int).toNat = 3 from rfl, Nat.reduceMul, Nat.reduceEqDiff, Go.Addr.add, ↓reduceIte] at hx290_0)
               have qi290 : (3 < l1.length) = True := eq_true (by omega)
               (try rw [show ((3 : Int)).toNat = 3 from rfl] at hx290_0)
               replace hx290_0 := hc_ HB hx290_0
               replace p290 := eq_true p290
               replace q290 := eq_true q290
               refine start_ (n := 9) (S := fun w' => w'.cell? ad283 = some (.int .i64 (rd l1 0)) ∧ w'.cell? ⟨ad283.block, ad283.off + 3, none⟩ = some (.int .i64 (rd l1 3))) (ds := []) #[F_,F_,F_,F_,F_,F_,F_,F_,F_] (by kernel_rfl) rfl rfl ⟨(hc_ HB hw289_0), (hc_ HB hw290_0)⟩ (fun hHeld => ?_); refine with_tabW spec_TwinIn.tab10 spec_TwinIn.bits10 (fun HT_ HW_ => ?_)
               generalize w48.drew = w49 at HB hx289_0 hx290_0 hHeld ⊢
               refine p_ 0 57 (m_ 9 1) HT_.out ?_
               refine p_ 1 58 (m_ 9 3) HT_.out ?_
               refine p_ 2 59 (m_ 9 7) HT_.out ?_
               refine p_ 4 61 (m_ 9 23) HT_.out ?_
               refine p_ 5 62 (m_ 9 55) HT_.out ?_
               refine t2_ 3 60 (m_ 9 63) HT_.out HW_.out hHeld ?_
               refine t2_ 6 63 (m_ 9 127) HT_.out HW_.out hHeld ?_
               refine one_ (i := 7) (N := some 64) (m_ 9 255) rfl rfl (one_of HT_.out (by kernel_rfl)) (by decide) (fun K hK => ?_)
               refine goes_ Try.func66 (by kernel_rfl) rfl #[.slice A0 l0.length c0, .int .i64 (rd l1 0), .int .i64 (rd l1 3)] (by rfl) rfl rfl ll_ ?_
               with_reducible refine (spec_l3Join.calls k2 _ _ l0 (rd l1 0) (rd l1 3) t291 _ ?side1 ?side2 A29.out).mono ?_
               (case side1 => exact sb_ HR0 HB)
               (case side2 => exact HC0.out)
               rintro e w' ⟨rfl, ⟨nd, rfl⟩⟩
               refine ⟨_, rfl, ?_⟩
               refine hK.out _ _ ⟨(hc_ HB hw289_0), (hc_ HB hw290_0)⟩ (fun hHeld => ?_)
               clear hK K
               refine norm_ (a' := ?_) ?_ ?_; rotate_left; (show Act.put _ (some 64) _ = _; simp only [Act.put, List.setIfInBounds_toArray, List.set_cons_zero, List.set_cons_succ, i64_w, i32_w]; rfl)
               refine p_ 8 8 (m_ 9 511) HT_.out ?_
               refine done_ (done_of HT_.out (by kernel_rfl)) ?_
               try go_wp2
               (try (rw [dself_ w49]; generalize hq_ : World.drewN w49 _ = w49; have n0_ : Aside0 (Below w.heap.size w w49) := ⟨by rw [← hq_]; exact (bb_ HB)⟩; clear HB hq_; have HB := n0_; clear n0_))
               have n0_ := Aside0.mk (below_drew1 HB.out)
               clear HB
               have HB := n0_
               clear n0_
               have p292 : 0 ≤ (1 : Int) := (by omega)
               have q292 : 1 < (l1.length : Int) := dd_
               obtain ⟨ad292, e292, hx292_0⟩ := Kd.at_int HR1.out 1 p292 q292
               have hw292_0 := hx292_0
               (try rw [show ((1 : Int)).toNat = 1 from rfl] at hw292_0)
               (try rw [show 1 * 1 = 1 from rfl] at hw292_0)
               (try simp only [Nat.reduceMul, Nat.reduceEqDiff, Go.Addr.add, ↓reduceIte] at hw292_0)
               obtain rfl : ad283 = ad292 := (by injection e292)
               (try simp only [show (1 : Int).toNat = 1 from rfl, Nat.reduceMul, Nat.reduceEqDiff, Go.Addr.add, ↓reduceIte] at hx292_0)
               have qi292 : (1 < l1.length) = True := eq_true (by omega)
               (try rw [show ((1 : Int)).toNat = 1 from rfl] at hx292_0)
               replace hx292_0 := hc_ HB hx292_0
               replace p292 := eq_true p292
               replace q292 := eq_true q292
               have p293 : 0 ≤ (2 : Int) := (by omega)
               have q293 : 2 < (l1.length : Int) := dd_
               obtain ⟨ad293, e293, hx293_0⟩ := Kd.at_int HR1.out 2 p293 q293
               have hw293_0 := hx293_0
               (try rw [show ((2 : Int)).toNat = 2 from rfl] at hw293_0)
               (try rw [show 2 * 1 = 2 from rfl] at hw293_0)
               (try simp only [Nat.reduceMul, Nat.reduceEqDiff, Go.Addr.add, ↓reduceIte] at hw293_0)
               obtain rfl : ad283 = ad293 := (by injection e293)
               (try simp only [show (2 : Int).toNat = 2 from rfl, Nat.reduceMul, Nat.reduceEqDiff, Go.Addr.add, ↓reduceIte] at hx293_0)
               have qi293 : (2 < l1.length) = True := eq_true (by omega)
               (try rw [show ((2 : Int)).toNat = 2 from rfl] at hx293_0)
               replace hx293_0 := hc_ HB hx293_0
               replace p293 := eq_true p293
               replace q293 := eq_true q293
               have p294 : 0 ≤ (3 : Int) := (by omega)
               have q294 : 3 < (l1.length : Int) := dd_
               obtain ⟨ad294, e294, hx294_0⟩ := Kd.at_int HR1.out 3 p294 q294
               have hw294_0 := hx294_0
               (try rw [show ((3 : Int)).toNat = 3 from rfl] at hw294_0)
               (try rw [show 3 * 1 = 3 from rfl] at hw294_0)
               (try simp only [Nat.reduceMul, Nat.reduceEqDiff, Go.Addr.add, ↓reduceIte] at hw294_0)
               obtain rfl : ad283 = ad294 := (by injection e294)
               (try simp only [show (3 : Int).toNat = 3 from rfl, Nat.reduceMul, Nat.reduceEqDiff, Go.Addr.add, ↓reduceIte] at hx294_0)
               have qi294 : (3 < l1.length) = True := eq_true (by omega)
               (try rw [show ((3 : Int)).toNat = 3 from rfl] at hx294_0)
               replace hx294_0 := hc_ HB hx294_0
               replace p294 := eq_true p294
               replace q294 := eq_true q294
               refine start_ (n := 42) (S := fun w' => w'.cell? ⟨ad283.block, ad283.off + 1, none⟩ = some (.int .i64 (rd l1 1)) ∧ w'.cell? ⟨ad283.block, ad283.off + 2, none⟩ = some (.int .i64 (rd l1 2)) ∧ w'.cell? ⟨ad283.block, ad283.off + 3, none⟩ = some (.int .i64 (rd l1 3))) (ds := []) #[F_,F_,F_,F_,F_,F_,F_,F_,F_,F_,F_,F_,F_,F_,F_,F_,F_,F_,F_,F_,F_,F_,F_,F_,F_,F_,F_,F_,F_,F_,F_,F_,F_,F_,F_,F_,F_,F_,F_,F_,F_,F_] (by kernel_rfl) rfl rfl ⟨(hc_ HB hw292_0), (hc_ HB hw293_0), (hc_ HB hw294_0)⟩ (fun hHeld => ?_); refine with_tabW spec_TwinIn.tab11 spec_TwinIn.bits11 (fun HT_ HW_ => ?_)
               generalize w49.drew = w50 at HB hx292_0 hx293_0 hx294_0 hHeld ⊢
               refine p_ 0 65 (m_ 42 1) HT_.out ?_
               refine p_ 1 66 (m_ 42 3) HT_.out ?_
               refine p_ 2 67 (m_ 42 7) HT_.out ?_
               refine p_ 3 68 (m_ 42 15) HT_.out ?_
               refine p_ 4 69 (m_ 42 31) HT_.out ?_
               refine p_ 5 70 (m_ 42 63) HT_.out ?_
               refine p_ 6 71 (m_ 42 127) HT_.out ?_
               refine p_ 7 72 (m_ 42 255) HT_.out ?_
               refine p_ 8 73 (m_ 42 511) HT_.out ?_
               refine p_ 9 74 (m_ 42 1023) HT_.out ?_
               refine p_ 10 75 (m_ 42 2047) HT_.out ?_
               refine p_ 11 76 (m_ 42 4095) HT_.out ?_
               refine p_ 12 77 (m_ 42 8191) HT_.out ?_
               refine p_ 13 78 (m_ 42 16383) HT_.out ?_
               refine p_ 14 79 (m_ 42 32767) HT_.out ?_
               refine p_ 15 80 (m_ 42 65535) HT_.out ?_
               refine p_ 16 81 (m_ 42 131071) HT_.out ?_
               refine p_ 18 83 (m_ 42 393215) HT_.out ?_
               refine p_ 19 84 (m_ 42 917503) HT_.out ?_
               refine p_ 21 86 (m_ 42 3014655) HT_.out ?_
               refine p_ 22 87 (m_ 42 7208959) HT_.out ?_
               refine t3_ 17 82 (m_ 42 7340031) HT_.out HW_.out hHeld ?_
               refine t3_ 20 85 (m_ 42 8388607) HT_.out HW_.out hHeld ?_
               refine t3_ 23 88 (m_ 42 16777215) HT_.out HW_.out hHeld ?_
               refine one_ (i := 24) (N := some 89) (m_ 42 33554431) rfl rfl (one_of HT_.out (by kernel_rfl)) (by decide) (fun K hK => ?_)
               refine goes_ Try.func65 (by kernel_rfl) rfl #[.slice A0 l0.length c0, .int .i64 (rd l1 1), .int .i64 (rd l1 2), .int .i64 (rd l1 3)] (by rfl) rfl rfl ll_ ?_
               with_reducible refine (spec_l3Three.calls k2 _ _ l0 (rd l1 1) (rd l1 2) (rd l1 3) true _ ?side1 ?side2 A45.out).mono ?_
               (case side1 => exact sb_ HR0 HB)
               (case side2 => exact HC0.out)
               rintro e w' ⟨rfl, ⟨nd, rfl⟩⟩
               refine ⟨_, rfl, ?_⟩
               refine hK.out _ _ ⟨(hc_ HB hw292_0), (hc_ HB hw293_0), (hc_ HB hw294_0)⟩ (fun hHeld => ?_)
               clear hK K
               refine norm_ (a' := ?_) ?_ ?_; rotate_left; (show Act.put _ (some 89) _ = _; simp only [Act.put, List.setIfInBounds_toArray, List.set_cons_zero, List.set_cons_succ, i64_w, i32_w]; rfl)
               refine p_ 25 90 (m_ 42 67108863) HT_.out ?_
               refine p_ 26 91 (m_ 42 134217727) HT_.out ?_
               refine p_ 27 92 (m_ 42 268435455) HT_.out ?_
               refine u_ 28 93 (m_ 42 536870911) HT_.out ?_
               refine u_ 29 94 (m_ 42 1073741823) HT_.out ?_
               refine u_ 30 95 (m_ 42 2147483647) HT_.out ?_
               refine u_ 31 96 (m_ 42 4294967295) HT_.out ?_
               refine u_ 32 97 (m_ 42 8589934591) HT_.out ?_
               refine u_ 33 98 (m_ 42 17179869183) HT_.out ?_
               refine u_ 34 99 (m_ 42 34359738367) HT_.out ?_
               refine u_ 35 100 (m_ 42 68719476735) HT_.out ?_
               refine u_ 36 101 (m_ 42 137438953471) HT_.out ?_
               refine u_ 37 102 (m_ 42 274877906943) HT_.out ?_
               refine u_ 38 103 (m_ 42 549755813887) HT_.out ?_
               refine u_ 39 104 (m_ 42 1099511627775) HT_.out ?_
               refine p_ 40 105 (m_ 42 2199023255551) HT_.out ?_
               refine p_ 41 4 (m_ 42 4398046511103) HT_.out ?_
               refine done_ (done_of HT_.out (by kernel_rfl)) ?_
               try go_wp2
               go_ret
               exact ⟨ee_, bb_ HB⟩
              ·replace c46 := Bool.eq_false_iff.mpr c46
               subst c46
               have H1 : (if 4 < (l1.length : Int) then (if 5 < (l1.length : Int) then (if 6 < (l1.length : Int) then ((spec_l3Three.f k2 l0 (rd l1 4) (rd l1 5) (rd l1 6)).bind fun t299 => (some (!t299))) else (none)) else (none)) else (none)) = some r := by rw [if_neg (show ¬ (false = true) by decide)] at H; exact H
               clear H
               have H := H1
               clear H1
               by_cases c51 : 4 < (l1.length : Int)
               ·rw [if_pos c51] at H
                have c51b0 : decide (4 < (l1.length : Int)) = true := decide_eq_true c51
                have c51b1 : decide (4 < l1.length) = true := decide_eq_true (by omega)
                clear c51
                by_cases c52 : 5 < (l1.length : Int)
                ·rw [if_pos c52] at H
                 have c52b0 : decide (5 < (l1.length : Int)) = true := decide_eq_true c52
                 have c52b1 : decide (5 < l1.length) = true := decide_eq_true (by omega)
                 clear c52
                 by_cases c53 : 6 < (l1.length : Int)
                 ·rw [if_pos c53] at H
                  have c53b0 : decide (6 < (l1.length : Int)) = true := decide_eq_true c53
                  have c53b1 : decide (6 < l1.length) = true := decide_eq_true (by omega)
                  clear c53
                  replace H := Option.bind_eq_some_iff.mp H
                  obtain ⟨t299, A540, H⟩ := H
                  replace H : (some (!t299)) = some r := H
                  have A54 := Aside0.mk A540
                  clear A540
                  obtain rfl := Option.some.inj H
                  try go_wp2
                  have n0_ := Aside0.mk (below_drew1 HB.out)
                  clear HB
                  have HB := n0_
                  clear n0_
                  have p283 : 0 ≤ (0 : Int) := (by omega)
                  have q283 : 0 < (l1.length : Int) := dd_
                  obtain ⟨ad283, e283, hx283_0⟩ := Kd.at_int HR1.out 0 p283 q283
                  have hw283_0 := hx283_0
                  (try rw [show ((0 : Int)).toNat = 0 from rfl] at hw283_0)
                  (try rw [show 0 * 1 = 0 from rfl] at hw283_0)
                  (try rw [Addr.add_zero'] at hw283_0)
                  cases e283
                  have qi283 : (0 < l1.length) = True := eq_true (by omega)
                  (try rw [show ((0 : Int)).toNat = 0 from rfl] at hx283_0)
                  (try rw [Addr.add_zero'] at hx283_0)
                  replace hx283_0 := hc_ HB hx283_0
                  replace p283 := eq_true p283
                  replace q283 := eq_true q283
                  have p284 : 0 ≤ (1 : Int) := (by omega)
                  have q284 : 1 < (l1.length : Int) := dd_
                  obtain ⟨ad284, e284, hx284_0⟩ := Kd.at_int HR1.out 1 p284 q284
                  have hw284_0 := hx284_0
                  (try rw [show ((1 : Int)).toNat = 1 from rfl] at hw284_0)
                  (try rw [show 1 * 1 = 1 from rfl] at hw284_0)
                  (try simp only [Nat.reduceMul, Nat.reduceEqDiff, Go.Addr.add, ↓reduceIte] at hw284_0)
                  obtain rfl : ad283 = ad284 := (by injection e284)
                  (try simp only [show (1 : Int).toNat = 1 from rfl, Nat.reduceMul, Nat.reduceEqDiff, Go.Addr.add, ↓reduceIte] at hx284_0)
                  have qi284 : (1 < l1.length) = True := eq_true (by omega)
                  (try rw [show ((1 : Int)).toNat = 1 from rfl] at hx284_0)
                  replace hx284_0 := hc_ HB hx284_0
                  replace p284 := eq_true p284
                  replace q284 := eq_true q284
                  refine start_ (n := 9) (S := fun w' => w'.cell? ad283 = some (.int .i64 (rd l1 0)) ∧ w'.cell? ⟨ad283.block, ad283.off + 1, none⟩ = some (.int .i64 (rd l1 1))) (ds := []) #[F_,F_,F_,F_,F_,F_,F_,F_,F_] (by kernel_rfl) rfl rfl ⟨(hc_ HB hw283_0), (hc_ HB hw284_0)⟩ (fun hHeld => ?_); refine with_tabW spec_TwinIn.tab8 spec_TwinIn.bits8 (fun HT_ HW_ => ?_)
                  generalize wr.drew = w55 at HB hx283_0 hx284_0 hHeld ⊢
                  refine p_ 0 41 (m_ 9 1) HT_.out ?_
                  refine p_ 1 42 (m_ 9 3) HT_.out ?_
                  refine p_ 2 43 (m_ 9 7) HT_.out ?_
                  refine p_ 4 45 (m_ 9 23) HT_.out ?_
                  refine p_ 5 46 (m_ 9 55) HT_.out ?_
                  refine t2_ 3 44 (m_ 9 63) HT_.out HW_.out hHeld ?_
                  refine t2_ 6 47 (m_ 9 127) HT_.out HW_.out hHeld ?_
                  refine one_ (i := 7) (N := some 48) (m_ 9 255) rfl rfl (one_of HT_.out (by kernel_rfl)) (by decide) (fun K hK => ?_)
                  refine goes_ Try.func66 (by kernel_rfl) rfl #[.slice A0 l0.length c0, .int .i64 (rd l1 0), .int .i64 (rd l1 1)] (by rfl) rfl rfl ll_ ?_
                  with_reducible refine (spec_l3Join.calls k2 _ _ l0 (rd l1 0) (rd l1 1) t285 _ ?side1 ?side2 A25.out).mono ?_
                  (case side1 => exact sb_ HR0 HB)
                  (case side2 => exact HC0.out)
                  rintro e w' ⟨rfl, ⟨nd, rfl⟩⟩
                  refine ⟨_, rfl, ?_⟩
                  refine hK.out _ _ ⟨(hc_ HB hw283_0), (hc_ HB hw284_0)⟩ (fun hHeld => ?_)
                  clear hK K
                  refine norm_ (a' := ?_) ?_ ?_; rotate_left; (show Act.put _ (some 48) _ = _; simp only [Act.put, List.setIfInBounds_toArray, List.set_cons_zero, List.set_cons_succ, i64_w, i32_w]; rfl)
                  refine p_ 8 6 (m_ 9 511) HT_.out ?_
                  refine done_ (done_of HT_.out (by kernel_rfl)) ?_
                  try go_wp2
                  (try (rw [dself_ w55]; generalize hq_ : World.drewN w55 _ = w55; have n0_ : Aside0 (Below w.heap.size w w55) := ⟨by rw [← hq_]; exact (bb_ HB)⟩; clear HB hq_; have HB := n0_; clear n0_))
                  have n0_ := Aside0.mk (below_drew1 HB.out)
                  clear HB
                  have HB := n0_
                  clear n0_
                  have p286 : 0 ≤ (0 : Int) := (by omega)
                  have q286 : 0 < (l1.length : Int) := dd_
                  obtain ⟨ad286, e286, hx286_0⟩ := Kd.at_int HR1.out 0 p286 q286
                  have hw286_0 := hx286_0
                  (try rw [show ((0 : Int)).toNat = 0 from rfl] at hw286_0)
                  (try rw [show 0 * 1 = 0 from rfl] at hw286_0)
                  (try rw [Addr.add_zero'] at hw286_0)
                  obtain rfl : ad283 = ad286 := (by injection e286)
                  have qi286 : (0 < l1.length) = True := eq_true (by omega)
                  (try rw [show ((0 : Int)).toNat = 0 from rfl] at hx286_0)
                  (try rw [Addr.add_zero'] at hx286_0)
                  replace hx286_0 := hc_ HB hx286_0
                  replace p286 := eq_true p286
                  replace q286 := eq_true q286
                  have p287 : 0 ≤ (2 : Int) := (by omega)
                  have q287 : 2 < (l1.length : Int) := dd_
                  obtain ⟨ad287, e287, hx287_0⟩ := Kd.at_int HR1.out 2 p287 q287
                  have hw287_0 := hx287_0
                  (try rw [show ((2 : Int)).toNat = 2 from rfl] at hw287_0)
                  (try rw [show 2 * 1 = 2 from rfl] at hw287_0)
                  (try simp only [Nat.reduceMul, Nat.reduceEqDiff, Go.Addr.add, ↓reduceIte] at hw287_0)
                  obtain rfl : ad283 = ad287 := (by injection e287)
                  (try simp only [show (2 : Int).toNat = 2 from rfl, Nat.reduceMul, Nat.reduceEqDiff, Go.Addr.add, ↓reduceIte] at hx287_0)
                  have qi287 : (2 < l1.length) = True := eq_true (by omega)
                  (try rw [show ((2 : Int)).toNat = 2 from rfl] at hx287_0)
                  replace hx287_0 := hc_ HB hx287_0
                  replace p287 := eq_true p287
                  replace q287 := eq_true q287
                  refine start_ (n := 9) (S := fun w' => w'.cell? ad283 = some (.int .i64 (rd l1 0)) ∧ w'.cell? ⟨ad283.block, ad283.off + 2, none⟩ = some (.int .i64 (rd l1 2))) (ds := []) #[F_,F_,F_,F_,F_,F_,F_,F_,F_] (by kernel_rfl) rfl rfl ⟨(hc_ HB hw286_0), (hc_ HB hw287_0)⟩ (fun hHeld => ?_); refine with_tabW spec_TwinIn.tab9 spec_TwinIn.bits9 (fun HT_ HW_ => ?_)
                  generalize w55.drew = w56 at HB hx286_0 hx287_0 hHeld ⊢
                  refine p_ 0 49 (m_ 9 1) HT_.out ?_
                  refine p_ 1 50 (m_ 9 3) HT_.out ?_
                  refine p_ 2 51 (m_ 9 7) HT_.out ?_
                  refine p_ 4 53 (m_ 9 23) HT_.out ?_
                  refine p_ 5 54 (m_ 9 55) HT_.out ?_
                  refine t2_ 3 52 (m_ 9 63) HT_.out HW_.out hHeld ?_
                  refine t2_ 6 55 (m_ 9 127) HT_.out HW_.out hHeld ?_
                  refine one_ (i := 7) (N := some 56) (m_ 9 255) rfl rfl (one_of HT_.out (by kernel_rfl)) (by decide) (fun K hK => ?_)
                  refine goes_ Try.func66 (by kernel_rfl) rfl #[.slice A0 l0.length c0, .int .i64 (rd l1 0), .int .i64 (rd l1 2)] (by rfl) rfl rfl ll_ ?_
                  with_reducible refine (spec_l3Join.calls k2 _ _ l0 (rd l1 0) (rd l1 2) t288 _ ?side1 ?side2 A27.out).mono ?_
                  (case side1 => exact sb_ HR0 HB)
                  (case side2 => exact HC0.out)
                  rintro e w' ⟨rfl, ⟨nd, rfl⟩⟩
                  refine ⟨_, rfl, ?_⟩
                  refine hK.out _ _ ⟨(hc_ HB hw286_0), (hc_ HB hw287_0)⟩ (fun hHeld => ?_)
                  clear hK K
                  refine norm_ (a' := ?_) ?_ ?_; rotate_left; (show Act.put _ (some 56) _ = _; simp only [Act.put, List.setIfInBounds_toArray, List.set_cons_zero, List.set_cons_succ, i64_w, i32_w]; rfl)
                  refine p_ 8 7 (m_ 9 511) HT_.out ?_
                  refine done_ (done_of HT_.out (by kernel_rfl)) ?_
                  try go_wp2
                  (try (rw [dself_ w56]; generalize hq_ : World.drewN w56 _ = w56; have n0_ : Aside0 (Below w.heap.size w w56) := ⟨by rw [← hq_]; exact (bb_ HB)⟩; clear HB hq_; have HB := n0_; clear n0_))
                  have n0_ := Aside0.mk (below_drew1 HB.out)
                  clear HB
                  have HB := n0_
                  clear n0_
                  have p289 : 0 ≤ (0 : Int) := (by omega)
                  have q289 : 0 < (l1.length : Int) := dd_
                  obtain ⟨ad289, e289, hx289_0⟩ := Kd.at_int HR1.out 0 p289 q289
                  have hw289_0 := hx289_0
                  (try rw [show ((0 : Int)).toNat = 0 from rfl] at hw289_0)
                  (try rw [show 0 * 1 = 0 from rfl] at hw289_0)
                  (try rw [Addr.add_zero'] at hw289_0)
                  obtain rfl : ad283 = ad289 := (by injection e289)
                  have qi289 : (0 < l1.length) = True := eq_true (by omega)
                  (try rw [show ((0 : Int)).toNat = 0 from rfl] at hx289_0)
                  (try rw [Addr.add_zero'] at hx289_0)
                  replace hx289_0 := hc_ HB hx289_0
                  replace p289 := eq_true p289
                  replace q289 := eq_true q289
                  have p290 : 0 ≤ (3 : Int) := (by omega)
                  have q290 : 3 < (l1.length : Int) := dd_
                  obtain ⟨ad290, e290, hx290_0⟩ := Kd.at_int HR1.out 3 p290 q290
                  have hw290_0 := hx290_0
                  (try rw [show ((3 : Int)).toNat = 3 from rfl] at hw290_0)
                  (try rw [show 3 * 1 = 3 from rfl] at hw290_0)
                  (try simp only [Nat.reduceMul, Nat.reduceEqDiff, Go.Addr.add, ↓reduceIte] at hw290_0)
                  obtain rfl : ad283 = ad290 := (by injection e290)
                  (try simp only [show (3 : Int).toNat = 3 from rfl, Nat.reduceMul, Nat.reduceEqDiff, Go.Addr.add, ↓reduceIte] at hx290_0)
                  have qi290 : (3 < l1.length) = True := eq_true (by omega)
                  (try rw [show ((3 : Int)).toNat = 3 from rfl] at hx290_0)
                  replace hx290_0 := hc_ HB hx290_0
                  replace p290 := eq_true p290
                  replace q290 := eq_true q290
                  refine start_ (n := 9) (S := fun w' => w'.cell? ad283 = some (.int .i64 (rd l1 0)) ∧ w'.cell? ⟨ad283.block, ad283.off + 3, none⟩ = some (.int .i64 (rd l1 3))) (ds := []) #[F_,F_,F_,F_,F_,F_,F_,F_,F_] (by kernel_rfl) rfl rfl ⟨(hc_ HB hw289_0), (hc_ HB hw290_0)⟩ (fun hHeld => ?_); refine with_tabW spec_TwinIn.tab10 spec_TwinIn.bits10 (fun HT_ HW_ => ?_)
                  generalize w56.drew = w57 at HB hx289_0 hx290_0 hHeld ⊢
                  refine p_ 0 57 (m_ 9 1) HT_.out ?_
                  refine p_ 1 58 (m_ 9 3) HT_.out ?_
                  refine p_ 2 59 (m_ 9 7) HT_.out ?_
                  refine p_ 4 61 (m_ 9 23) HT_.out ?_
                  refine p_ 5 62 (m_ 9 55) HT_.out ?_
                  refine t2_ 3 60 (m_ 9 63) HT_.out HW_.out hHeld ?_
                  refine t2_ 6 63 (m_ 9 127) HT_.out HW_.out hHeld ?_
                  refine one_ (i := 7) (N := some 64) (m_ 9 255) rfl rfl (one_of HT_.out (by kernel_rfl)) (by decide) (fun K hK => ?_)
                  refine goes_ Try.func66 (by kernel_rfl) rfl #[.slice A0 l0.length c0, .int .i64 (rd l1 0), .int .i64 (rd l1 3)] (by rfl) rfl rfl ll_ ?_
                  with_reducible refine (spec_l3Join.calls k2 _ _ l0 (rd l1 0) (rd l1 3) t291 _ ?side1 ?side2 A29.out).mono ?_
                  (case side1 => exact sb_ HR0 HB)
                  (case side2 => exact HC0.out)
                  rintro e w' ⟨rfl, ⟨nd, rfl⟩⟩
                  refine ⟨_, rfl, ?_⟩
                  refine hK.out _ _ ⟨(hc_ HB hw289_0), (hc_ HB hw290_0)⟩ (fun hHeld => ?_)
                  clear hK K
                  refine norm_ (a' := ?_) ?_ ?_; rotate_left; (show Act.put _ (some 64) _ = _; simp only [Act.put, List.setIfInBounds_toArray, List.set_cons_zero, List.set_cons_succ, i64_w, i32_w]; rfl)
                  refine p_ 8 8 (m_ 9 511) HT_.out ?_
                  refine done_ (done_of HT_.out (by kernel_rfl)) ?_
                  try go_wp2
                  (try (rw [dself_ w57]; generalize hq_ : World.drewN w57 _ = w57; have n0_ : Aside0 (Below w.heap.size w w57) := ⟨by rw [← hq_]; exact (bb_ HB)⟩; clear HB hq_; have HB := n0_; clear n0_))
                  have n0_ := Aside0.mk (below_drew1 HB.out)
                  clear HB
                  have HB := n0_
                  clear n0_
                  have p292 : 0 ≤ (1 : Int) := (by omega)
                  have q292 : 1 < (l1.length : Int) := dd_
                  obtain ⟨ad292, e292, hx292_0⟩ := Kd.at_int HR1.out 1 p292 q292
                  have hw292_0 := hx292_0
                  (try rw [show ((1 : Int)).toNat = 1 from rfl] at hw292_0)
                  (try rw [show 1 * 1 = 1 from rfl] at hw292_0)
                  (try simp only [Nat.reduceMul, Nat.reduceEqDiff, Go.Addr.add, ↓reduceIte] at hw292_0)
                  obtain rfl : ad283 = ad292 := (by injection e292)
                  (try simp only [show (1 : Int).toNat = 1 from rfl, Nat.reduceMul, Nat.reduceEqDiff, Go.Addr.add, ↓reduceIte] at hx292_0)
                  have qi292 : (1 < l1.length) = True := eq_true (by omega)
                  (try rw [show ((1 : Int)).toNat = 1 from rfl] at hx292_0)
                  replace hx292_0 := hc_ HB hx292_0
                  replace p292 := eq_true p292
                  replace q292 := eq_true q292
                  have p293 : 0 ≤ (2 : Int) := (by omega)
                  have q293 : 2 < (l1.length : Int) := dd_
                  obtain ⟨ad293, e293, hx293_0⟩ := Kd.at_int HR1.out 2 p293 q293
                  have hw293_0 := hx293_0
                  (try rw [show ((2 : Int)).toNat = 2 from rfl] at hw293_0)
                  (try rw [show 2 * 1 = 2 from rfl] at hw293_0)
                  (try simp only [Nat.reduceMul, Nat.reduceEqDiff, Go.Addr.add, ↓reduceIte] at hw293_0)
                  obtain rfl : ad283 = ad293 := (by injection e293)
                  (try simp only [show (2 : Int).toNat = 2 from rfl, Nat.reduceMul, Nat.reduceEqDiff, Go.Addr.add, ↓reduceIte] at hx293_0)
                  have qi293 : (2 < l1.length) = True := eq_true (by omega)
                  (try rw [show ((2 : Int)).toNat = 2 from rfl] at hx293_0)
                  replace hx293_0 := hc_ HB hx293_0
                  replace p293 := eq_true p293
                  replace q293 := eq_true q293
                  have p294 : 0 ≤ (3 : Int) := (by omega)
                  have q294 : 3 < (l1.length : Int) := dd_
                  obtain ⟨ad294, e294, hx294_0⟩ := Kd.at_int HR1.out 3 p294 q294
                  have hw294_0 := hx294_0
                  (try rw [show ((3 : Int)).toNat = 3 from rfl] at hw294_0)
                  (try rw [show 3 * 1 = 3 from rfl] at hw294_0)
                  (try simp only [Nat.reduceMul, Nat.reduceEqDiff, Go.Addr.add, ↓reduceIte] at hw294_0)
                  obtain rfl : ad283 = ad294 := (by injection e294)
                  (try simp only [show (3 : Int).toNat = 3 from rfl, Nat.reduceMul, Nat.reduceEqDiff, Go.Addr.add, ↓reduceIte] at hx294_0)
                  have qi294 : (3 < l1.length) = True := eq_true (by omega)
                  (try rw [show ((3 : Int)).toNat = 3 from rfl] at hx294_0)
                  replace hx294_0 := hc_ HB hx294_0
                  replace p294 := eq_true p294
                  replace q294 := eq_true q294
                  have p296 : 0 ≤ (4 : Int) := (by omega)
                  have q296 : 4 < (l1.length : Int) := dd_
                  obtain ⟨ad296, e296, hx296_0⟩ := Kd.at_int HR1.out 4 p296 q296
                  have hw296_0 := hx296_0
                  (try rw [show ((4 : Int)).toNat = 4 from rfl] at hw296_0)
                  (try rw [show 4 * 1 = 4 from rfl] at hw296_0)
                  (try simp only [Nat.reduceMul, Nat.reduceEqDiff, Go.Addr.add, ↓reduceIte] at hw296_0)
                  obtain rfl : ad283 = ad296 := (by injection e296)
                  (try simp only [show (4 : Int).toNat = 4 from rfl, Nat.reduceMul, Nat.reduceEqDiff, Go.Addr.add, ↓reduceIte] at hx296_0)
                  have qi296 : (4 < l1.length) = True := eq_true (by omega)
                  (try rw [show ((4 : Int)).toNat = 4 from rfl] at hx296_0)
                  replace hx296_0 := hc_ HB hx296_0
                  replace p296 := eq_true p296
                  replace q296 := eq_true q296
                  have p297 : 0 ≤ (5 : Int) := (by omega)
                  have q297 : 5 < (l1.length : Int) := dd_
                  obtain ⟨ad297, e297, hx297_0⟩ := Kd.at_int HR1.out 5 p297 q297
                  have hw297_0 := hx297_0
                  (try rw [show ((5 : Int)).toNat = 5 from rfl] at hw297_0)
                  (try rw [show 5 * 1 = 5 from rfl] at hw297_0)
                  (try simp only [Nat.reduceMul, Nat.reduceEqDiff, Go.Addr.add, ↓reduceIte] at hw297_0)
                  obtain rfl : ad283 = ad297 := (by injection e297)
                  (try simp only [show (5 : Int).toNat = 5 from rfl, Nat.reduceMul, Nat.reduceEqDiff, Go.Addr.add, ↓reduceIte] at hx297_0)
                  have qi297 : (5 < l1.length) = True := eq_true (by omega)
                  (try rw [show ((5 : Int)).toNat = 5 from rfl] at hx297_0)
                  replace hx297_0 := hc_ HB hx297_0
                  replace p297 := eq_true p297
                  replace q297 := eq_true q297
                  have p298 : 0 ≤ (6 : Int) := (by omega)
                  have q298 : 6 < (l1.length : Int) := dd_
                  obtain ⟨ad298, e298, hx298_0⟩ := Kd.at_int HR1.out 6 p298 q298
                  have hw298_0 := hx298_0
                  (try rw [show ((6 : Int)).toNat = 6 from rfl] at hw298_0)
                  (try rw [show 6 * 1 = 6 from rfl] at hw298_0)
                  (try simp only [Nat.reduceMul, Nat.reduceEqDiff, Go.Addr.add, ↓reduceIte] at hw298_0)
                  obtain rfl : ad283 = ad298 := (by injection e298)
                  (try simp only [show (6 : Int).toNat = 6 from rfl, Nat.reduceMul, Nat.reduceEqDiff, Go.Addr.add, ↓reduceIte] at hx298_0)
                  have qi298 : (6 < l1.length) = True := eq_true (by omega)
                  (try rw [show ((6 : Int)).toNat = 6 from rfl] at hx298_0)
                  replace hx298_0 := hc_ HB hx298_0
                  replace p298 := eq_true p298
                  replace q298 := eq_true q298
                  refine start_ (n := 42) (S := fun w' => w'.cell? ⟨ad283.block, ad283.off + 1, none⟩ = some (.int .i64 (rd l1 1)) ∧ w'.cell? ⟨ad283.block, ad283.off + 2, none⟩ = some (.int .i64 (rd l1 2)) ∧ w'.cell? ⟨ad283.block, ad283.off + 3, none⟩ = some (.int .i64 (rd l1 3)) ∧ w'.cell? ⟨ad283.block, ad283.off + 4, none⟩ = some (.int .i64 (rd l1 4)) ∧ w'.cell? ⟨ad283.block, ad283.off + 5, none⟩ = some (.int .i64 (rd l1 5)) ∧ w'.cell? ⟨ad283.block, ad283.off + 6, none⟩ = some (.int .i64 (rd l1 6))) (ds := []) #[F_,F_,F_,F_,F_,F_,F_,F_,F_,F_,F_,F_,F_,F_,F_,F_,F_,F_,F_,F_,F_,F_,F_,F_,F_,F_,F_,F_,F_,F_,F_,F_,F_,F_,F_,F_,F_,F_,F_,F_,F_,F_] (by kernel_rfl) rfl rfl ⟨(hc_ HB hw292_0), (hc_ HB hw293_0), (hc_ HB hw294_0), (hc_ HB hw296_0), (hc_ HB hw297_0), (hc_ HB hw298_0)⟩ (fun hHeld => ?_); refine with_tabW spec_TwinIn.tab11 spec_TwinIn.bits11 (fun HT_ HW_ => ?_)
                  generalize w57.drew = w58 at HB hx292_0 hx293_0 hx294_0 hx296_0 hx297_0 hx298_0 hHeld ⊢
                  refine p_ 0 65 (m_ 42 1) HT_.out ?_
                  refine p_ 1 66 (m_ 42 3) HT_.out ?_
                  refine p_ 2 67 (m_ 42 7) HT_.out ?_
                  refine p_ 3 68 (m_ 42 15) HT_.out ?_
                  refine p_ 4 69 (m_ 42 31) HT_.out ?_
                  refine p_ 5 70 (m_ 42 63) HT_.out ?_
                  refine p_ 6 71 (m_ 42 127) HT_.out ?_
                  refine p_ 7 72 (m_ 42 255) HT_.out ?_
                  refine p_ 8 73 (m_ 42 511) HT_.out ?_
                  refine p_ 9 74 (m_ 42 1023) HT_.out ?_
                  refine p_ 10 75 (m_ 42 2047) HT_.out ?_
                  refine p_ 11 76 (m_ 42 4095) HT_.out ?_
                  refine p_ 12 77 (m_ 42 8191) HT_.out ?_
                  refine p_ 13 78 (m_ 42 16383) HT_.out ?_
                  refine p_ 14 79 (m_ 42 32767) HT_.out ?_
                  refine p_ 15 80 (m_ 42 65535) HT_.out ?_
                  refine p_ 16 81 (m_ 42 131071) HT_.out ?_
                  refine p_ 18 83 (m_ 42 393215) HT_.out ?_
                  refine p_ 19 84 (m_ 42 917503) HT_.out ?_
                  refine p_ 21 86 (m_ 42 3014655) HT_.out ?_
                  refine p_ 22 87 (m_ 42 7208959) HT_.out ?_
                  refine t6_ 17 82 (m_ 42 7340031) HT_.out HW_.out hHeld ?_
                  refine t6_ 20 85 (m_ 42 8388607) HT_.out HW_.out hHeld ?_
                  refine t6_ 23 88 (m_ 42 16777215) HT_.out HW_.out hHeld ?_
                  refine one_ (i := 24) (N := some 89) (m_ 42 33554431) rfl rfl (one_of HT_.out (by kernel_rfl)) (by decide) (fun K hK => ?_)
                  refine goes_ Try.func65 (by kernel_rfl) rfl #[.slice A0 l0.length c0, .int .i64 (rd l1 1), .int .i64 (rd l1 2), .int .i64 (rd l1 3)] (by rfl) rfl rfl ll_ ?_
                  with_reducible refine (spec_l3Three.calls k2 _ _ l0 (rd l1 1) (rd l1 2) (rd l1 3) false _ ?side1 ?side2 A45.out).mono ?_
                  (case side1 => exact sb_ HR0 HB)
                  (case side2 => exact HC0.out)
                  rintro e w' ⟨rfl, ⟨nd, rfl⟩⟩
                  refine ⟨_, rfl, ?_⟩
                  refine hK.out _ _ ⟨(hc_ HB hw292_0), (hc_ HB hw293_0), (hc_ HB hw294_0), (hc_ HB hw296_0), (hc_ HB hw297_0), (hc_ HB hw298_0)⟩ (fun hHeld => ?_)
                  clear hK K
                  refine norm_ (a' := ?_) ?_ ?_; rotate_left; (show Act.put _ (some 89) _ = _; simp only [Act.put, List.setIfInBounds_toArray, List.set_cons_zero, List.set_cons_succ, i64_w, i32_w]; rfl)
                  refine p_ 25 90 (m_ 42 67108863) HT_.out ?_
                  refine p_ 26 91 (m_ 42 134217727) HT_.out ?_
                  refine p_ 27 92 (m_ 42 268435455) HT_.out ?_
                  refine p_ 28 93 (m_ 42 536870911) HT_.out ?_
                  refine p_ 29 94 (m_ 42 1073741823) HT_.out ?_
                  refine p_ 30 95 (m_ 42 2147483647) HT_.out ?_
                  refine p_ 32 97 (m_ 42 6442450943) HT_.out ?_
                  refine p_ 33 98 (m_ 42 15032385535) HT_.out ?_
                  refine p_ 35 100 (m_ 42 49392123903) HT_.out ?_
                  refine p_ 36 101 (m_ 42 118111600639) HT_.out ?_
                  refine t6_ 31 96 (m_ 42 120259084287) HT_.out HW_.out hHeld ?_
                  refine t6_ 34 99 (m_ 42 137438953471) HT_.out HW_.out hHeld ?_
                  refine t6_ 37 102 (m_ 42 274877906943) HT_.out HW_.out hHeld ?_
                  refine one_ (i := 38) (N := some 103) (m_ 42 549755813887) rfl rfl (one_of HT_.out (by kernel_rfl)) (by decide) (fun K hK => ?_)
                  refine goes_ Try.func65 (by kernel_rfl) rfl #[.slice A0 l0.length c0, .int .i64 (rd l1 4), .int .i64 (rd l1 5), .int .i64 (rd l1 6)] (by rfl) rfl rfl ll_ ?_
                  with_reducible refine (spec_l3Three.calls k2 _ _ l0 (rd l1 4) (rd l1 5) (rd l1 6) t299 _ ?side1 ?side2 A54.out).mono ?_
                  (case side1 => repeat (first | exact (Kd.C_below HR0.out (bb_ HB)) | (with_reducible refine Kd.C_alloc ?_ _) | (with_reducible refine Kd.C_drewN ?_ _) | (with_reducible refine Kd.C_drew ?_)))
                  (case side2 => exact HC0.out)
                  rintro e w' ⟨rfl, ⟨nd, rfl⟩⟩
                  refine ⟨_, rfl, ?_⟩
                  refine hK.out _ _ ⟨(hc_ HB hw292_0), (hc_ HB hw293_0), (hc_ HB hw294_0), (hc_ HB hw296_0), (hc_ HB hw297_0), (hc_ HB hw298_0)⟩ (fun hHeld => ?_)
                  clear hK K
                  refine norm_ (a' := ?_) ?_ ?_; rotate_left; (show Act.put _ (some 103) _ = _; simp only [Act.put, List.setIfInBounds_toArray, List.set_cons_zero, List.set_cons_succ, i64_w, i32_w]; rfl)
                  refine p_ 39 104 (m_ 42 1099511627775) HT_.out ?_
                  refine p_ 40 105 (m_ 42 2199023255551) HT_.out ?_
                  refine p_ 41 4 (m_ 42 4398046511103) HT_.out ?_
                  refine done_ (done_of HT_.out (by kernel_rfl)) ?_
                  try go_wp2
                  go_ret
                  exact ⟨ee_, bb_ HB⟩
                 ·rw [if_neg c53] at H
                  exact absurd H (by simp)
                ·rw [if_neg c52] at H
                 exact absurd H (by simp)
               ·rw [if_neg c51] at H
                exact absurd H (by simp)
          ·rw [if_neg c28] at H
           exact absurd H (by simp)
         ·rw [if_neg c26] at H
          exact absurd H (by simp)
        ·rw [if_neg c24] at H
         exact absurd H (by simp)
       ·rw [if_neg c23] at H
        exact absurd H (by simp)
end Go.Proofs.Ytcbkoecanldlpaa.P

namespace Go.Proofs.Ytcbkoecanldlpaa.P
open Go.RowKit Go.Proofs.YtcbkoecanldlpaaW.PrintWords Go.Proofs.YtcbkoecanldlpaaW.PrintLast
set_option linter.unusedVariables false
set_option linter.unusedSimpArgs false

def spec_l3Meet.l0 : Nat → List Int → Int → Int → Int → Option (Int)
 | 0, _, _, _, _ => none
 | k + 1, x0, x1, x2, x7 => if x7 < 91 then ((spec_l3On.f x0 x7 x1).bind fun t381 => (if t381 = true then ((spec_l3On.f x0 x7 x2).bind fun t382 => (if t382 = true then (some x7) else (spec_l3Meet.l0 k x0 x1 x2 (wrap64 (x7 + 1))))) else (spec_l3Meet.l0 k x0 x1 x2 (wrap64 (x7 + 1))))) else (some 0)
def spec_l3Meet.f (k : Nat) (l0 : List Int) (a1 : Int) (a2 : Int) : Option (Int) := spec_l3Meet.l0 k l0 a1 a2 0
set_option maxHeartbeats 8000000 in
set_option maxRecDepth 100000 in
theorem spec_l3Meet.calls (k : Nat) (A0 : Option Addr) (c0 : Nat) (l0 : List Int) (a1 : Int) (a2 : Int) (r : Int) (w : World) (hr0 : Kd.C (Kd.int .i64) w A0 l0.length l0) (hc0 : l0.length ≤ c0) (h : spec_l3Meet.f k l0 a1 a2 = some r) :
  Calls Try.prog 144 #[.slice A0 l0.length c0, .int .i64 a1, .int .i64 a2] w fun e w' => e = .returned (.int .i64 r) ∧ Drawn0 w w' := by
 have HR0 := Aside0.mk hr0
 have HC0 := Aside0.mk hc0
 clear hr0 hc0
 have H : (spec_l3Meet.l0 k l0 a1 a2 0) = some r := h
 clear h
 have H' := Aside0.mk H
 clear H
 go_enter Try.func144, Try.ntmps144
 go_wp2
 go_loopg [7] k (fun kq v7 w' => ∃ (x7_1 : Int), v7 = .int .i64 x7_1 ∧ Aside0 (spec_l3Meet.l0 kq l0 a1 a2 x7_1 = some r) ∧ Aside0 (kq ≤ k) ∧ Drawn0 w w')
 case atStart => exact ⟨(0), (by first | rfl | (simp; done) | (simp [*]; done)), H', ⟨Nat.le_refl _⟩, by repeat (first | exact Drawn0.refl _ | apply Drawn0.step)⟩
 case round =>
  clear H'
  try clear c1
  try clear p2
  obtain ⟨x7_1, rfl, HA, HK1, ⟨m1, rfl⟩⟩ := hrel
  cases gk with
  | zero => exact absurd HA.out (by simp [spec_l3Meet.l0])
  | succ k1 =>
   have H := HA.out
   clear HA
   simp only [spec_l3Meet.l0] at H
   by_cases c4 : x7_1 < 91
   ·rw [if_pos c4] at H
    have c4b0 : decide (x7_1 < 91) = true := decide_eq_true c4
    clear c4
    replace H := Option.bind_eq_some_iff.mp H
    obtain ⟨t381, A50, H⟩ := H
    replace H : (if t381 = true then ((spec_l3On.f l0 x7_1 a2).bind fun t382 => (if t382 = true then (some x7_1) else (spec_l3Meet.l0 k1 l0 a1 a2 (wrap64 (x7_1 + 1))))) else (spec_l3Meet.l0 k1 l0 a1 a2 (wrap64 (x7_1 + 1)))) = some r := H
    have A5 := Aside0.mk A50
    clear A50
    by_cases c6 : t381 = true
    ·subst c6
     have H1 : ((spec_l3On.f l0 x7_1 a2).bind fun t382 => (if t382 = true then (some x7_1) else (spec_l3Meet.l0 k1 l0 a1 a2 (wrap64 (x7_1 + 1))))) = some r := by rw [if_pos rfl] at H; exact H
     clear H
     have H := H1
     clear H1
     replace H := Option.bind_eq_some_iff.mp H
     obtain ⟨t382, A70, H⟩ := H
     replace H : (if t382 = true then (some x7_1) else (spec_l3Meet.l0 k1 l0 a1 a2 (wrap64 (x7_1 + 1)))) = some r := H
     have A7 := Aside0.mk A70
     clear A70
     by_cases c8 : t382 = true
     ·subst c8
      have H1 : (some x7_1) = some r := by rw [if_pos rfl] at H; exact H
      clear H
      have H := H1
      clear H1
      obtain rfl := Option.some.inj H
      go_wp2_with (first | (refine goesL_ (some 15) rfl rfl Try.func106 (by kernel_rfl) rfl #[.slice A0 l0.length c0, .int .i64 x7_1, .int .i64 a1] rfl ll_ ?_; (with_reducible refine (spec_l3On.calls _ _ l0 x7_1 a1 true _ ?side1 ?side2 A5.out).mono ?_); (case side1 => exact ss_ HR0); (case side2 => exact HC0.out); rintro e w' ⟨rfl, ⟨nd, rfl⟩⟩; refine ⟨_, rfl, ?_⟩) | (go_at_call 106; (with_reducible refine (spec_l3On.calls _ _ l0 x7_1 a2 true _ ?side1 ?side2 A7.out).mono ?_); (case side1 => exact ss_ HR0); (case side2 => exact HC0.out); rintro e w' ⟨rfl, ⟨nd, rfl⟩⟩))
      go_ret
      exact ⟨by first | rfl | (simp; done) | (simp [*]; done), by repeat (first | exact Drawn0.refl _ | apply Drawn0.step)⟩
     ·replace c8 := Bool.eq_false_iff.mpr c8
      subst c8
      have H1 : (spec_l3Meet.l0 k1 l0 a1 a2 (wrap64 (x7_1 + 1))) = some r := by rw [if_neg (show ¬ (false = true) by decide)] at H; exact H
      clear H
      have H := H1
      clear H1
      have H' := Aside0.mk H
      clear H
      go_wp2_with (first | (refine goesL_ (some 15) rfl rfl Try.func106 (by kernel_rfl) rfl #[.slice A0 l0.length c0, .int .i64 x7_1, .int .i64 a1] rfl ll_ ?_; (with_reducible refine (spec_l3On.calls _ _ l0 x7_1 a1 true _ ?side1 ?side2 A5.out).mono ?_); (case side1 => exact ss_ HR0); (case side2 => exact HC0.out); rintro e w' ⟨rfl, ⟨nd, rfl⟩⟩; refine ⟨_, rfl, ?_⟩) | (go_at_call 106; (with_reducible refine (spec_l3On.calls _ _ l0 x7_1 a2 false _ ?side1 ?side2 A7.out).mono ?_); (case side1 => exact ss_ HR0); (case side2 => exact HC0.out); rintro e w' ⟨rfl, ⟨nd, rfl⟩⟩))
      go_roundg k1
      case measure => have := HK1.out; omega
      case rel => exact ⟨(wrap64 (x7_1 + 1)), (by first | rfl | (simp; done) | (simp [*]; done)), H', ⟨by have := HK1.out; omega⟩, by repeat (first | exact Drawn0.refl _ | apply Drawn0.step)⟩
    ·replace c6 := Bool.eq_false_iff.mpr c6
     subst c6
     have H1 : (spec_l3Meet.l0 k1 l0 a1 a2 (wrap64 (x7_1 + 1))) = some r := by rw [if_neg (show ¬ (false = true) by decide)] at H; exact H
     clear H
     have H := H1
     clear H1
     have H' := Aside0.mk H
     clear H
     go_wp2_with (first | (refine goesL_ (some 15) rfl rfl Try.func106 (by kernel_rfl) rfl #[.slice A0 l0.length c0, .int .i64 x7_1, .int .i64 a1] rfl ll_ ?_; (with_reducible refine (spec_l3On.calls _ _ l0 x7_1 a1 false _ ?side1 ?side2 A5.out).mono ?_); (case side1 => exact ss_ HR0); (case side2 => exact HC0.out); rintro e w' ⟨rfl, ⟨nd, rfl⟩⟩; refine ⟨_, rfl, ?_⟩))
     go_roundg k1
     case measure => have := HK1.out; omega
     case rel => exact ⟨(wrap64 (x7_1 + 1)), (by first | rfl | (simp; done) | (simp [*]; done)), H', ⟨by have := HK1.out; omega⟩, by repeat (first | exact Drawn0.refl _ | apply Drawn0.step)⟩
   ·rw [if_neg c4] at H
    have c4b0 : decide (x7_1 < 91) = false := decide_eq_false c4
    clear c4
    obtain rfl := Option.some.inj H
    go_wp2
    go_ret
    exact ⟨by first | rfl | (simp; done) | (simp [*]; done), by repeat (first | exact Drawn0.refl _ | apply Drawn0.step)⟩
end Go.Proofs.Ytcbkoecanldlpaa.P

namespace Go.Proofs.Ytcbkoecanldlpaa.P
open Go.RowKit Go.Proofs.YtcbkoecanldlpaaW.PrintWords Go.Proofs.YtcbkoecanldlpaaW.PrintLast
set_option linter.unusedVariables false
set_option linter.unusedSimpArgs false

def spec_l4Cross.f (k : Nat) (l0 : List Int) (a1 : Int) (a2 : Int) (a3 : Int) (a4 : Int) : Option (Int) := (spec_l3Join.f k l0 a1 a2).bind fun t383 => ((spec_l3Join.f k l0 a3 a4).bind fun t384 => ((spec_l3Meet.f k l0 t383 t384).bind fun t385 => (some t385)))
set_option maxHeartbeats 8000000 in
set_option maxRecDepth 100000 in
theorem spec_l4Cross.calls (k : Nat) (A0 : Option Addr) (c0 : Nat) (l0 : List Int) (a1 : Int) (a2 : Int) (a3 : Int) (a4 : Int) (r : Int) (w : World) (hr0 : Kd.C (Kd.int .i64) w A0 l0.length l0) (hc0 : l0.length ≤ c0) (h : spec_l4Cross.f k l0 a1 a2 a3 a4 = some r) :
  Calls Try.prog 135 #[.slice A0 l0.length c0, .int .i64 a1, .int .i64 a2, .int .i64 a3, .int .i64 a4] w fun e w' => e = .returned (.int .i64 r) ∧ Drawn0 w w' := by
 have HR0 := Aside0.mk hr0
 have HC0 := Aside0.mk hc0
 clear hr0 hc0
 have H : ((spec_l3Join.f k l0 a1 a2).bind fun t383 => ((spec_l3Join.f k l0 a3 a4).bind fun t384 => ((spec_l3Meet.f k l0 t383 t384).bind fun t385 => (some t385)))) = some r := h
 clear h
 replace H := Option.bind_eq_some_iff.mp H
 obtain ⟨t383, A60, H⟩ := H
 replace H : ((spec_l3Join.f k l0 a3 a4).bind fun t384 => ((spec_l3Meet.f k l0 t383 t384).bind fun t385 => (some t385))) = some r := H
 have A6 := Aside0.mk A60
 clear A60
 replace H := Option.bind_eq_some_iff.mp H
 obtain ⟨t384, A70, H⟩ := H
 replace H : ((spec_l3Meet.f k l0 t383 t384).bind fun t385 => (some t385)) = some r := H
 have A7 := Aside0.mk A70
 clear A70
 replace H := Option.bind_eq_some_iff.mp H
 obtain ⟨t385, A80, H⟩ := H
 replace H : (some t385) = some r := H
 have A8 := Aside0.mk A80
 clear A80
 obtain rfl := Option.some.inj H
 go_enter Try.func135, Try.ntmps135
 go_wp2_with (first | (refine goesL_ (some 15) rfl rfl Try.func66 (by kernel_rfl) rfl #[.slice A0 l0.length c0, .int .i64 a1, .int .i64 a2] rfl ll_ ?_; (with_reducible refine (spec_l3Join.calls k _ _ l0 a1 a2 t383 _ ?side1 ?side2 A6.out).mono ?_); (case side1 => exact ss_ HR0); (case side2 => exact HC0.out); rintro e w' ⟨rfl, ⟨nd, rfl⟩⟩; refine ⟨_, rfl, ?_⟩) | (refine goesL_ (some 19) rfl rfl Try.func66 (by kernel_rfl) rfl #[.slice A0 l0.length c0, .int .i64 a3, .int .i64 a4] rfl ll_ ?_; (with_reducible refine (spec_l3Join.calls k _ _ l0 a3 a4 t384 _ ?side1 ?side2 A7.out).mono ?_); (case side1 => exact ss_ HR0); (case side2 => exact HC0.out); rintro e w' ⟨rfl, ⟨nd, rfl⟩⟩; refine ⟨_, rfl, ?_⟩) | (refine goesL_ (some 20) rfl rfl Try.func144 (by kernel_rfl) rfl #[.slice A0 l0.length c0, .int .i64 t383, .int .i64 t384] rfl ll_ ?_; (with_reducible refine (spec_l3Meet.calls k _ _ l0 t383 t384 t385 _ ?side1 ?side2 A8.out).mono ?_); (case side1 => exact ss_ HR0); (case side2 => exact HC0.out); rintro e w' ⟨rfl, ⟨nd, rfl⟩⟩; refine ⟨_, rfl, ?_⟩))
 go_ret
 exact ⟨by first | rfl | (simp; done) | (simp [*]; done), by repeat (first | exact Drawn0.refl _ | apply Drawn0.step)⟩
end Go.Proofs.Ytcbkoecanldlpaa.P
