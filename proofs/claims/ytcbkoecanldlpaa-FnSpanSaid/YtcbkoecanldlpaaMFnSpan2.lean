/- The law FnSpan of the given program: for every input the call returns true, and each argument reads afterwards as it read before. No conditions. (Part 3 of 4; the last part holds the theorem.) -/
import Derived.Test.YtcbkoecanldlpaaMFnSpan0
import Derived.Test.YtcbkoecanldlpaaMFnSpan1
import Derived.Deep.RegionHeld
import Derived.Test.YtcbkoecanldlpaaWAt
namespace Go.Proofs.Ytcbkoecanldlpaa.P
open Go.RowKit Go.Proofs.YtcbkoecanldlpaaW.PrintWords Go.Proofs.YtcbkoecanldlpaaW.PrintLast
set_option linter.unusedVariables false
set_option linter.unusedSimpArgs false

/-! ### spec_l7Span: function 84 -/
mutual
def spec_l7Span.l0 : Nat → List Int → List Int → List Bool → Int → Int → Option (List Int)
 | 0, _, _, _, _, _ => none
 | k + 1, x0, x1, x5, x6, x7 => if x7 < (x1.length : Int) then (if 0 ≤ x7 then (if 0 ≤ (rd x1 x7) then (if (rd x1 x7) < (x5.length : Int) then (spec_l7Span.l0 k x0 x1 (x5.set ((rd x1 x7) : Int).toNat true) x6 (wrap64 (x7 + 1))) else (none)) else (none)) else (none)) else (spec_l7Span.l1 k x0 x5 x6)
def spec_l7Span.l1 : Nat → List Int → List Bool → Int → Option (List Int)
 | 0, _, _, _ => none
 | k + 1, x0, x5, x6 => (spec_l7Lines.f k x0 x5).bind fun t507 => (spec_l7Span.l2 k x0 x5 x6 t507 0)
def spec_l7Span.l2 : Nat → List Int → List Bool → Int → List Int → Int → Option (List Int)
 | 0, _, _, _, _, _ => none
 | k + 1, x0, x5, x6, x8, x9 => if x9 < (x8.length : Int) then (spec_l7Span.l3 k x0 x5 x6 x8 x9 0) else (spec_l7Span.l4 k x0 x5 x6 (([] : List Int)) 0)
def spec_l7Span.l3 : Nat → List Int → List Bool → Int → List Int → Int → Int → Option (List Int)
 | 0, _, _, _, _, _, _ => none
 | k + 1, x0, x5, x6, x8, x9, x10 => if x10 < x9 then (if 0 ≤ x9 then (if x9 < (x8.length : Int) then (if 0 ≤ x10 then (if x10 < (x8.length : Int) then ((spec_l3Meet.f k x0 (rd x8 x9) (rd x8 x10)).bind fun t512 => (if 0 ≤ t512 then (if t512 < (x5.length : Int) then (spec_l7Span.l3 k x0 (x5.set (t512 : Int).toNat true) x6 x8 x9 (wrap64 (x10 + 1))) else (none)) else (none))) else (none)) else (none)) else (none)) else (none)) else (spec_l7Span.l2 k x0 x5 x6 x8 (wrap64 (x9 + 1)))
def spec_l7Span.l4 : Nat → List Int → List Bool → Int → List Int → Int → Option (List Int)
 | 0, _, _, _, _, _ => none
 | k + 1, x0, x5, x6, x11, x12 => if x12 < 91 then (if 0 ≤ x12 then (if x12 < (x5.length : Int) then (if rdOf false x5 x12 = true then (if x11.length < 17592186044416 then (spec_l7Span.l4 k x0 x5 x6 (x11 ++ [x12]) (wrap64 (x12 + 1))) else (none)) else (spec_l7Span.l4 k x0 x5 x6 x11 (wrap64 (x12 + 1)))) else (none)) else (none)) else (if (x11.length : Int) = x6 then (some x11) else (spec_l7Span.l1 k x0 x5 (x11.length : Int)))
end
def spec_l7Span.f (k : Nat) (l0 : List Int) (l1 : List Int) : Option (List Int) := if 91 ≤ 281474976710656 then (spec_l7Span.l0 k l0 l1 (List.replicate 91 false) 0 0) else (none)
def spec_l7Span.T14 : Bool × List (List Nat × List Nat) := (true, [([], []), ([], []), ([], []), ([], []), ([2, 3], [2, 3]), ([4], [4]), ([], []), ([], []), ([6, 7], [6, 7]), ([8], [8]), ([1, 5, 9], [1, 5, 9]), ([0, 10, 0, 1, 2, 3, 4, 5, 6, 7, 8, 9, 10], [0, 10]), ([11, 10, 0, 1, 2, 3, 4, 5, 6, 7, 8, 9, 10], [11])])
def spec_l7Span.B14 : List Nat := [0, 0, 0, 0, 12, 28, 0, 0, 192, 448, 1022, 2047, 4095]
theorem spec_l7Span.tab14 : rtab .any (opsOf Try.f84 14) = spec_l7Span.T14 := by kernel_rfl
theorem spec_l7Span.bits14 : waitsOk spec_l7Span.T14.2 spec_l7Span.B14 = true := by kernel_rfl
set_option maxHeartbeats 8000000 in
set_option maxRecDepth 100000 in
theorem spec_l7Span.calls (k : Nat) (A0 : Option Addr) (c0 : Nat) (l0 : List Int) (A1 : Option Addr) (c1 : Nat) (l1 : List Int) (r : List Int) (w : World) (hr0 : Kd.C (Kd.int .i64) w A0 l0.length l0) (hc0 : l0.length ≤ c0) (hr1 : Kd.C (Kd.int .i64) w A1 l1.length l1) (hc1 : l1.length ≤ c1) (h : spec_l7Span.f k l0 l1 = some r) :
  Calls Try.prog 84 #[.slice A0 l0.length c0, .slice A1 l1.length c1] w fun e w' => ∃ v0_ : Value, e = .returned (v0_) ∧ Kd.R (Kd.int .i64) 3 w' w.heap.size (fun _ => True) v0_ r ∧ Below w.heap.size w w' := by
 have HR0 := Aside0.mk hr0
 have HC0 := Aside0.mk hc0
 clear hr0 hc0
 have HR1 := Aside0.mk hr1
 have HC1 := Aside0.mk hc1
 clear hr1 hc1
 have HB := Aside0.mk (Below.refl w.heap.size w)
 have H : (if 91 ≤ 281474976710656 then (spec_l7Span.l0 k l0 l1 (List.replicate 91 false) 0 0) else (none)) = some r := h
 clear h
 by_cases c3 : 91 ≤ 281474976710656
 ·rw [if_pos c3] at H
  have c3b0 := eq_true c3
  have c3b1 : decide (91 ≤ 281474976710656) = true := decide_eq_true c3
  clear c3
  obtain ⟨y502, hy502⟩ : ∃ y_ : List Bool, y_ = (List.replicate 91 false) := ⟨_, rfl⟩
  replace H : (spec_l7Span.l0 k l0 l1 y502 0 0) = some r := by first | (rw [hy502]; with_reducible exact H) | (have H2_ := (Option.bind_some _ _).symm.trans H; rw [hy502]; with_reducible exact H2_) | (have H2_ := (Option.bind_some _ _).symm.trans H; with_reducible exact H2_) | with_reducible exact H | (rw [hy502]; exact H) | exact H
  have Ny502 := Aside0.mk hy502
  clear hy502
  have H' := Aside0.mk H
  clear H
  go_enter Try.func84, Try.ntmps84
  go_wp2_with (first | ((with_reducible refine gate_dst (N := 13) rfl ?_); refine Kd.R_make Kd.bool _ 4 rfl (N := 13) rfl 34 _ _ rfl 91 rfl rfl Try.underlying34 (.bool false) 1 info4 rfl (by decide) (by omega) false (ok := fun _ => True) (okp := fun _ => True) rfl (fun _ hk => hk) trivial (by omega) (by omega) (Below.refl _ _) (Nat.le_refl _) ?_; intro v503 w4 ho5 hb hg_ hnew_; clear hg_ hnew_; (first | rw [← Ny502.out] at ho5 | (simp only [Int.reduceToNat] at ho5; rw [← Ny502.out] at ho5)); have n0_ := Aside0.mk (Kd.R_lower ho5 (below_size (by repeat (first | (with_reducible first | exact HB.out | apply below_alloc | apply pw_below_drewN | apply below_drew1) | exact HB.out)))); have n1_ := Aside0.mk (below_step (by repeat (first | (with_reducible first | exact HB.out | apply below_alloc | apply pw_below_drewN | apply below_drew1) | exact HB.out)) hb); clear HB; have HO504 := n0_; have HB := n1_; clear n0_ n1_; clear hb ho5))
  go_loopg [7] k (fun kq v7 w' => ∃ (x5_1 : List Bool) (x7_1 : Int), v7 = .int .i64 x7_1 ∧ Aside0 (spec_l7Span.l0 kq l0 l1 x5_1 0 x7_1 = some r) ∧ Aside0 (kq ≤ k) ∧ Aside0 (Kd.R Kd.bool 4 w' w.heap.size (fun _ => True) v503 x5_1) ∧ Aside0 (Below w.heap.size w w'))
  case atStart => exact ⟨(y502), (0), (by first | rfl | (simp; done) | (simp [*]; done)), H', ⟨Nat.le_refl _⟩, ⟨by (with_reducible repeat (first | apply Kd.R_alloc | apply Kd.R_drewN | apply Kd.R_drew)); exact HO504.out⟩, ⟨by repeat (first | (with_reducible first | exact HB.out | apply below_alloc | apply pw_below_drewN | apply below_drew1) | exact HB.out)⟩⟩
  case round =>
   clear H'
   try clear c1
   try clear p2
   try clear c3
   try clear c3b0
   try clear c3b1
   obtain ⟨x5_1, x7_1, rfl, HA, HK1, HO_5, HB⟩ := hrel
   cases gk with
   | zero => exact absurd HA.out (by simp [spec_l7Span.l0])
   | succ k1 =>
    have H := HA.out
    clear HA
    simp only [spec_l7Span.l0] at H
    by_cases c6 : x7_1 < (l1.length : Int)
    ·rw [if_pos c6] at H
     have c6b0 : decide (x7_1 < (l1.length : Int)) = true := decide_eq_true c6
     clear c6
     by_cases c7 : 0 ≤ x7_1
     ·rw [if_pos c7] at H
      have c7b0 : decide (0 ≤ x7_1) = true := decide_eq_true c7
      clear c7
      by_cases c8 : 0 ≤ (rd l1 x7_1)
      ·rw [if_pos c8] at H
       have c8b0 : decide (0 ≤ (rd l1 x7_1)) = true := decide_eq_true c8
       clear c8
       by_cases c9 : (rd l1 x7_1) < (x5_1.length : Int)
       ·rw [if_pos c9] at H
        have c9b0 : decide ((rd l1 x7_1) < (x5_1.length : Int)) = true := decide_eq_true c9
        clear c9
        obtain ⟨y506, hy506⟩ : ∃ y_ : List Bool, y_ = (x5_1.set ((rd l1 x7_1) : Int).toNat true) := ⟨_, rfl⟩
        replace H : (spec_l7Span.l0 k1 l0 l1 y506 0 (wrap64 (x7_1 + 1))) = some r := by first | (rw [hy506]; with_reducible exact H) | (have H2_ := (Option.bind_some _ _).symm.trans H; rw [hy506]; with_reducible exact H2_) | (have H2_ := (Option.bind_some _ _).symm.trans H; with_reducible exact H2_) | with_reducible exact H | (rw [hy506]; exact H) | exact H
        have Ny506 := Aside0.mk hy506
        clear hy506
        have H' := Aside0.mk H
        clear H
        have p505 : 0 ≤ (x7_1 : Int) := of_decide_eq_true (by first | (with_reducible assumption) | assumption)
        have q505 : x7_1 < (l1.length : Int) := of_decide_eq_true (by first | (with_reducible assumption) | assumption)
        obtain ⟨ad505, e505, hx505_0⟩ := Kd.at_int HR1.out x7_1 p505 q505
        cases e505
        replace hx505_0 := (HB.out.cell (World.block_lt_of_cell? w _ hx505_0)).trans hx505_0
        replace p505 := eq_true p505
        replace q505 := eq_true q505
        have p10 : 0 ≤ ((rd l1 x7_1) : Int) := of_decide_eq_true (by first | (with_reducible assumption) | assumption)
        have q10 : ((rd l1 x7_1) : Int) < ((x5_1.length : Int) : Int) := of_decide_eq_true (by first | (with_reducible assumption) | assumption)
        obtain ⟨go10, co10, eo10, gb10, gl10, cl10, HG10⟩ := Kd.R_form HO_5.out (by omega)
        (first | cases eo10 | (injection eo10 with ea_ en_ ec_; (first | subst ea_ | (injection ea_ with ea_; subst ea_)); subst ec_; clear en_))
        have GB10 := Aside0.mk gb10
        have GG10 := Aside0.mk HG10
        clear gb10 gl10 HG10
        obtain ⟨hx10_0, hf10_0⟩ := Kd.R_celln false HO_5.out ((rd l1 x7_1) : Int) p10 q10
        replace p10 := eq_true p10
        replace q10 := eq_true q10
        have HP11 := Kd.R_putg HO_5.out ((rd l1 x7_1) : Int) true
        go_wp2_with (first | ((with_reducible refine gate_store (t := 4) (p := 25) rfl ?_); refine store_event (t := 4) (p := 25) (v := ?vo_w12) (w1 := (wr.setCell ⟨go10, ((rd l1 x7_1) : Int).toNat, none⟩ (.bool true))) ?hg ?ho ?hn ?hr ?_; (case ho => rfl); (case hg => rfl); (case hn => rfl); (case hr => first | (go_simp; done) | (go_simp; rfl)); intro w12 hw; have hg : wr.grownBy w12 (some go10) := (by rw [hw]; exact HP11.2); have hp_ : Kd.R Kd.bool 4 w12 w.heap.size (fun _ => True) (.slice (some ⟨go10, 0, none⟩) x5_1.length co10) y506 := (by rw [hw, Ny506.out]; exact HP11.1); clear HP11; have n0_ := Aside0.mk (hp_); have n1_ := Aside0.mk ((by rw [hw]; exact below_set (HB.out) GB10.out : Below w.heap.size w w12)); clear HO_5; clear HB; have HO_5 := n0_; have HB := n1_; clear n0_ n1_; clear hg hw hp_))
        go_roundg k1
        case measure => have := HK1.out; omega
        case rel => exact ⟨(y506), (wrap64 (x7_1 + 1)), (by first | rfl | (simp; done) | (simp [*]; done)), H', ⟨by have := HK1.out; omega⟩, ⟨by (with_reducible repeat (first | apply Kd.R_alloc | apply Kd.R_drewN | apply Kd.R_drew)); exact HO_5.out⟩, ⟨by repeat (first | (with_reducible first | exact HB.out | apply below_alloc | apply pw_below_drewN | apply below_drew1) | exact HB.out)⟩⟩
       ·rw [if_neg c9] at H
        exact absurd H (by simp)
      ·rw [if_neg c8] at H
       exact absurd H (by simp)
     ·rw [if_neg c7] at H
      exact absurd H (by simp)
    ·rw [if_neg c6] at H
     have c6b0 : decide (x7_1 < (l1.length : Int)) = false := decide_eq_false c6
     clear c6
     have H' := Aside0.mk H
     clear H
     go_wp2
     go_loopg [6] k1 (fun kq v6 w' => ∃ (x5_2 : List Bool) (x6_2 : Int), v6 = .int .i64 x6_2 ∧ Aside0 (spec_l7Span.l1 kq l0 x5_2 x6_2 = some r) ∧ Aside0 (kq ≤ k1) ∧ Aside0 (Kd.R Kd.bool 4 w' w.heap.size (fun _ => True) v503 x5_2) ∧ Aside0 (Below w.heap.size w w'))
     case atStart => exact ⟨(x5_1), (0), (by first | rfl | (simp; done) | (simp [*]; done)), H', ⟨Nat.le_refl _⟩, ⟨by (with_reducible repeat (first | apply Kd.R_alloc | apply Kd.R_drewN | apply Kd.R_drew)); exact HO_5.out⟩, ⟨by repeat (first | (with_reducible first | exact HB.out | apply below_alloc | apply pw_below_drewN | apply below_drew1) | exact HB.out)⟩⟩
     case round =>
      clear H'
      try clear c1
      try clear p1
      try clear q1
      try clear hx1
      try clear p2
      try clear c3
      try clear c3b0
      try clear c3b1
      try clear p5
      try clear q5
      try clear hx5
      try clear c6
      try clear c6b0
      try clear p6
      try clear c7
      try clear c7b0
      try clear c8
      try clear c8b0
      try clear c9
      try clear c9b0
      try clear p10
      try clear q10
      try clear hx10
      try clear hf10
      try clear hx10_0
      try clear hx505_0
      try clear p10
      try clear p2
      try clear p505
      try clear q10
      try clear q505
      obtain ⟨x5_2, x6_2, rfl, HA, HK2, HO_5, HB⟩ := hrel
      cases gk with
      | zero => exact absurd HA.out (by simp [spec_l7Span.l1])
      | succ k2 =>
       have H := HA.out
       clear HA
       simp only [spec_l7Span.l1] at H
       replace H := Option.bind_eq_some_iff.mp H
       obtain ⟨t507, A130, H⟩ := H
       replace H : (spec_l7Span.l2 k2 l0 x5_2 x6_2 t507 0) = some r := H
       have A13 := Aside0.mk A130
       clear A130
       have H' := Aside0.mk H
       clear H
       obtain ⟨Ao14, co14, eo14⟩ := Kd.R_slice HO_5.out
       subst eo14
       go_wp2_with (first | (refine goesL_ (some 28) rfl rfl Try.func143 (by kernel_rfl) rfl #[.slice A0 l0.length c0, .slice Ao14 x5_2.length co14] rfl (by (try simp only [List.map_toArray, List.map_cons, List.map_nil]); first | done | rfl | (simp only [List.length_drop, List.length_take]; rfl)) ?_; (with_reducible refine (spec_l7Lines.calls k2 _ _ l0 _ _ x5_2 t507 _ ?side1 ?side2 ?side3 ?side4 A13.out).mono ?_); (case side1 => repeat (first | exact (Kd.C_below HR0.out HB.out) | (with_reducible refine Kd.C_alloc ?_ _) | (with_reducible refine Kd.C_drewN ?_ _) | (with_reducible refine Kd.C_drew ?_))); (case side2 => exact HC0.out); (case side3 => repeat (first | exact (Kd.R_reads' HO_5.out).2.2 | (with_reducible refine Kd.C_alloc ?_ _) | (with_reducible refine Kd.C_drewN ?_ _) | (with_reducible refine Kd.C_drew ?_))); (case side4 => exact (Kd.R_reads' HO_5.out).2.1); rintro e w15 ⟨v508, rfl, ho0, hb⟩; refine ⟨_, rfl, ?_⟩; have n0_ := Aside0.mk (Kd.R_below (by (with_reducible repeat (first | apply Kd.R_alloc | apply Kd.R_drewN | apply Kd.R_drew)); exact HO_5.out) hb); have n1_ := Aside0.mk (Kd.R_lower ho0 (below_size (by repeat (first | (with_reducible first | exact HB.out | apply below_alloc | apply pw_below_drewN | apply below_drew1) | exact HB.out)))); have n2_ := Aside0.mk (below_step (by repeat (first | (with_reducible first | exact HB.out | apply below_alloc | apply pw_below_drewN | apply below_drew1) | exact HB.out)) hb); clear HO_5; clear HB; have HO_5 := n0_; have HO509 := n1_; have HB := n2_; clear n0_ n1_ n2_; (try clear hb); (try clear hb2); (try clear hk); (try clear hi); (try clear ho0)))
       go_loopg [9] k2 (fun kq v9 w' => ∃ (x5_3 : List Bool) (x9_3 : Int), v9 = .int .i64 x9_3 ∧ Aside0 (spec_l7Span.l2 kq l0 x5_3 x6_2 t507 x9_3 = some r) ∧ Aside0 (kq ≤ k2) ∧ Aside0 (Kd.R Kd.bool 4 w' w.heap.size (fun _ => True) (.slice Ao14 x5_2.length co14) x5_3) ∧ Aside0 (Kd.R (Kd.int .i64) 3 w' w.heap.size (fun _ => True) v508 t507) ∧ Aside0 (Below w.heap.size w w'))
       case atStart => exact ⟨(x5_2), (0), (by first | rfl | (simp; done) | (simp [*]; done)), H', ⟨Nat.le_refl _⟩, ⟨by (with_reducible repeat (first | apply Kd.R_alloc | apply Kd.R_drewN | apply Kd.R_drew)); exact HO_5.out⟩, ⟨by (with_reducible repeat (first | apply Kd.R_alloc | apply Kd.R_drewN | apply Kd.R_drew)); exact HO509.out⟩, ⟨by repeat (first | (with_reducible first | exact HB.out | apply below_alloc | apply pw_below_drewN | apply below_drew1) | exact HB.out)⟩⟩
       case round =>
        clear H'
        try clear c1
        try clear p1
        try clear q1
        try clear hx1
        try clear p2
        try clear c3
        try clear c3b0
        try clear c3b1
        try clear p5
        try clear q5
        try clear hx5
        try clear c6
        try clear c6b0
        try clear p6
        try clear c7
        try clear c7b0
        try clear c8
        try clear c8b0
        try clear c9
        try clear c9b0
        try clear p10
        try clear q10
        try clear hx10
        try clear hf10
        try clear c14
        try clear hx10_0
        try clear hx505_0
        try clear p1
        try clear p10
        try clear p2
        try clear p5
        try clear p505
        try clear p6
        try clear q1
        try clear q10
        try clear q5
        try clear q505
        obtain ⟨x5_3, x9_3, rfl, HA, HK3, HO_5, HO_8, HB⟩ := hrel
        have hl5_3 := (Kd.R_reads' HO_5.out).1
        rw [hl5_3] at HO_5
        (try simp only [hl5_3])
        (try simp only [hl5_3] at HO_8)
        cases gk with
        | zero => exact absurd HA.out (by simp [spec_l7Span.l2])
        | succ k3 =>
         have H := HA.out
         clear HA
         simp only [spec_l7Span.l2] at H
         by_cases c16 : x9_3 < (t507.length : Int)
         ·rw [if_pos c16] at H
          have c16b0 : decide (x9_3 < (t507.length : Int)) = true := decide_eq_true c16
          clear c16
          have H' := Aside0.mk H
          clear H
          obtain ⟨Ao17, co17, eo17⟩ := Kd.R_slice HO_8.out
          subst eo17
          go_wp2
          go_loopg [10] k3 (fun kq v10 w' => ∃ (x5_4 : List Bool) (x10_4 : Int), v10 = .int .i64 x10_4 ∧ Aside0 (spec_l7Span.l3 kq l0 x5_4 x6_2 t507 x9_3 x10_4 = some r) ∧ Aside0 (kq ≤ k3) ∧ Aside0 (Kd.R Kd.bool 4 w' w.heap.size (fun _ => True) (.slice Ao14 x5_3.length co14) x5_4) ∧ Aside0 (Kd.R (Kd.int .i64) 3 w' w.heap.size (fun _ => True) (.slice Ao17 t507.length co17) t507) ∧ Aside0 (Below w.heap.size w w'))
          case atStart => exact ⟨(x5_3), (0), (by first | rfl | (simp; done) | (simp [*]; done)), H', ⟨Nat.le_refl _⟩, ⟨by (try simp only [hl5_3]); (with_reducible repeat (first | apply Kd.R_alloc | apply Kd.R_drewN | apply Kd.R_drew)); exact HO_5.out⟩, ⟨by (try simp only [hl5_3]); (with_reducible repeat (first | apply Kd.R_alloc | apply Kd.R_drewN | apply Kd.R_drew)); exact HO_8.out⟩, ⟨by repeat (first | (with_reducible first | exact HB.out | apply below_alloc | apply pw_below_drewN | apply below_drew1) | exact HB.out)⟩⟩
          case round =>
           clear H'
           try clear c1
           try clear p1
           try clear q1
           try clear hx1
           try clear p2
           try clear c3
           try clear c3b0
           try clear c3b1
           try clear p5
           try clear q5
           try clear hx5
           try clear c6
           try clear c6b0
           try clear p6
           try clear c7
           try clear c7b0
           try clear c8
           try clear c8b0
           try clear c9
           try clear c9b0
           try clear p10
           try clear q10
           try clear hx10
           try clear hf10
           try clear c14
           try clear c16
           try clear c16b0
           try clear hx10_0
           try clear hx505_0
           try clear p1
           try clear p10
           try clear p2
           try clear p5
           try clear p505
           try clear p6
           try clear q1
           try clear q10
           try clear q5
           try clear q505
           obtain ⟨x5_4, x10_4, rfl, HA, HK4, HO_5, HO_8, HB⟩ := hrel
           have hl5_4 := (Kd.R_reads' HO_5.out).1
           rw [hl5_4] at HO_5
           (try simp only [hl5_4])
           (try simp only [hl5_4] at HO_8)
           cases gk with
           | zero => exact absurd HA.out (by simp [spec_l7Span.l3])
           | succ k4 =>
            have H := HA.out
            clear HA
            simp only [spec_l7Span.l3] at H
            by_cases c18 : x10_4 < x9_3
            ·rw [if_pos c18] at H
             have c18b0 : decide (x10_4 < x9_3) = true := decide_eq_true c18
             clear c18
             by_cases c19 : 0 ≤ x9_3
             ·rw [if_pos c19] at H
              have c19b0 : decide (0 ≤ x9_3) = true := decide_eq_true c19
              clear c19
              by_cases c20 : x9_3 < (t507.length : Int)
              ·rw [if_pos c20] at H
               have c20b0 : decide (x9_3 < (t507.length : Int)) = true := decide_eq_true c20
               clear c20
               by_cases c21 : 0 ≤ x10_4
               ·rw [if_pos c21] at H
                have c21b0 : decide (0 ≤ x10_4) = true := decide_eq_true c21
                clear c21
                by_cases c22 : x10_4 < (t507.length : Int)
                ·rw [if_pos c22] at H
                 have c22b0 : decide (x10_4 < (t507.length : Int)) = true := decide_eq_true c22
                 clear c22
                 replace H := Option.bind_eq_some_iff.mp H
                 obtain ⟨t512, A230, H⟩ := H
                 replace H : (if 0 ≤ t512 then (if t512 < (x5_4.length : Int) then (spec_l7Span.l3 k4 l0 (x5_4.set (t512 : Int).toNat true) x6_2 t507 x9_3 (wrap64 (x10_4 + 1))) else (none)) else (none)) = some r := H
                 have A23 := Aside0.mk A230
                 clear A230
                 by_cases c24 : 0 ≤ t512
                 ·rw [if_pos c24] at H
                  have c24b0 : decide (0 ≤ t512) = true := decide_eq_true c24
                  clear c24
                  by_cases c25 : t512 < (x5_4.length : Int)
                  ·rw [if_pos c25] at H
                   have c25b0 : decide (t512 < (x5_4.length : Int)) = true := decide_eq_true c25
                   clear c25
                   obtain ⟨y513, hy513⟩ : ∃ y_ : List Bool, y_ = (x5_4.set (t512 : Int).toNat true) := ⟨_, rfl⟩
                   replace H : (spec_l7Span.l3 k4 l0 y513 x6_2 t507 x9_3 (wrap64 (x10_4 + 1))) = some r := by first | (rw [hy513]; with_reducible exact H) | (have H2_ := (Option.bind_some _ _).symm.trans H; rw [hy513]; with_reducible exact H2_) | (have H2_ := (Option.bind_some _ _).symm.trans H; with_reducible exact H2_) | with_reducible exact H | (rw [hy513]; exact H) | exact H
                   have Ny513 := Aside0.mk hy513
                   clear hy513
                   have H' := Aside0.mk H
                   clear H
                   try go_wp2
                   have n0_ := Aside0.mk (Kd.R_drew HO_5.out)
                   have n1_ := Aside0.mk (Kd.R_drew HO_8.out)
                   have n2_ := Aside0.mk (below_drew1 HB.out)
                   clear HO_5
                   clear HO_8
                   clear HB
                   have HO_5 := n0_
                   have HO_8 := n1_
                   have HB := n2_
                   clear n0_ n1_ n2_
                   have p510 : 0 ≤ (x9_3 : Int) := of_decide_eq_true (by first | (with_reducible assumption) | assumption)
                   have q510 : x9_3 < (t507.length : Int) := of_decide_eq_true (by first | (with_reducible assumption) | assumption)
                   obtain ⟨ad510, e510, hx510_0⟩ := Kd.at_int (Kd.R_reads' HO_8.out).2.2 x9_3 p510 q510
                   cases e510
                   replace p510 := eq_true p510
                   replace q510 := eq_true q510
                   have p511 : 0 ≤ (x10_4 : Int) := of_decide_eq_true (by first | (with_reducible assumption) | assumption)
                   have q511 : x10_4 < (t507.length : Int) := of_decide_eq_true (by first | (with_reducible assumption) | assumption)
                   obtain ⟨ad511, e511, hx511_0⟩ := Kd.at_int (Kd.R_reads' HO_8.out).2.2 x10_4 p511 q511
                   obtain rfl : ad510 = ad511 := (by injection e511)
                   replace p511 := eq_true p511
                   replace q511 := eq_true q511
                   refine start_ (n := 13) (S := fun w' => w'.cell? (ad510.add (x9_3).toNat) = some (.int .i64 (rd t507 x9_3)) ∧ w'.cell? (ad510.add (x10_4).toNat) = some (.int .i64 (rd t507 x10_4))) (ds := [12]) #[F_,F_,F_,F_,F_,F_,F_,F_,F_,F_,F_,F_,F_] (by kernel_rfl) rfl rfl ⟨hx510_0, hx511_0⟩ (fun hHeld => ?_); refine with_tabW spec_l7Span.tab14 spec_l7Span.bits14 (fun HT_ HW_ => ?_)
                   generalize wr.drew = w27 at HO_5 HO_8 HB hx510_0 hx511_0 hHeld ⊢
                   refine p_ 0 40 (m_ 13 1) HT_.out ?_
                   refine p_ 1 41 (m_ 13 3) HT_.out ?_
                   refine p_ 2 42 (m_ 13 7) HT_.out ?_
                   refine p_ 3 43 (m_ 13 15) HT_.out ?_
                   refine p_ 4 44 (m_ 13 31) HT_.out ?_
                   refine p_ 6 46 (m_ 13 95) HT_.out ?_
                   refine p_ 7 47 (m_ 13 223) HT_.out ?_
                   refine p_ 8 48 (m_ 13 479) HT_.out ?_
                   refine t2_ 5 45 (m_ 13 511) HT_.out HW_.out hHeld ?_
                   refine t2_ 9 49 (m_ 13 1023) HT_.out HW_.out hHeld ?_
                   refine one_ (i := 10) (N := some 50) (m_ 13 2047) rfl rfl (one_of HT_.out (by kernel_rfl)) (by decide) (fun K hK => ?_)
                   refine goes_ Try.func144 (by kernel_rfl) rfl #[.slice A0 l0.length c0, .int .i64 (rd t507 x9_3), .int .i64 (rd t507 x10_4)] (by rfl) rfl rfl (by (try simp only [List.map_toArray, List.map_cons, List.map_nil]); first | done | rfl | (simp only [List.length_drop, List.length_take]; rfl)) ?_
                   with_reducible refine (spec_l3Meet.calls k4 _ _ l0 (rd t507 x9_3) (rd t507 x10_4) t512 _ ?side1 ?side2 A23.out).mono ?_
                   (case side1 => repeat (first | exact (Kd.C_below HR0.out HB.out) | (with_reducible refine Kd.C_alloc ?_ _) | (with_reducible refine Kd.C_drewN ?_ _) | (with_reducible refine Kd.C_drew ?_)))
                   (case side2 => exact HC0.out)
                   rintro e w' ⟨rfl, ⟨nd, rfl⟩⟩
                   refine ⟨_, rfl, ?_⟩
                   have p26 : 0 ≤ (t512 : Int) := of_decide_eq_true (by first | (with_reducible assumption) | assumption)
                   have q26 : (t512 : Int) < ((x5_4.length : Int) : Int) := of_decide_eq_true (by first | (with_reducible assumption) | assumption)
                   obtain ⟨go26, co26, eo26, gb26, gl26, cl26, HG26⟩ := Kd.R_form HO_5.out (by omega)
                   (first | cases eo26 | (injection eo26 with ea_ en_ ec_; (first | subst ea_ | (injection ea_ with ea_; subst ea_)); subst ec_; clear en_))
                   have GB26 := Aside0.mk gb26
                   have GG26 := Aside0.mk HG26
                   clear gb26 gl26 HG26
                   obtain ⟨hx26_0, hf26_0⟩ := Kd.R_celln false HO_5.out (t512 : Int) p26 q26
                   replace p26 := eq_true p26
                   replace q26 := eq_true q26
                   have HP28 := Kd.R_putn HO_5.out (t512 : Int) true
                   rw [← Ny513.out] at HP28
                   have HQ28 := Aside0.mk HP28
                   clear HP28
                   refine hK.out _ _ ⟨hHeld.1, hHeld.2⟩ (fun hHeld => ?_)
                   clear hK K
                   refine norm_ (a' := ?_) ?_ ?_; rotate_left; (show Act.put _ (some 50) _ = _; simp only [Act.put, List.setIfInBounds_toArray, List.set_cons_zero, List.set_cons_succ, i64_w, i32_w]; rfl)
                   refine p_ 11 51 (m_ 13 4095) HT_.out ?_
                   refine last_ (i := 12) (N := none) (m_ 13 8191) rfl rfl (one_of HT_.out (by kernel_rfl)) (by decide) (fun K hK => ?_)
                   refine skip_ (w1 := ?_) (by rfl) rfl ?_ ?_; rotate_left; (go_simp; rfl)
                   refine hK.out _ _ ?_
                   clear hK K
                   refine done_ (done_of HT_.out (by kernel_rfl)) ?_
                   try go_wp2
                   (try simp only [← hl5_4])
                   go_roundg k4
                   case measure => have := HK1.out; have := HK2.out; have := HK3.out; have := HK4.out; omega
                   case rel => exact ⟨(y513), (wrap64 (x10_4 + 1)), (by first | rfl | (simp; done) | (simp [*]; done)), H', ⟨by have := HK1.out; have := HK2.out; have := HK3.out; have := HK4.out; omega⟩, ⟨by (try simp only [hl5_3]); (try simp only [hl5_4]); (with_reducible repeat (first | apply Kd.R_alloc | apply Kd.R_drewN | apply Kd.R_drew)); exact HQ28.out⟩, ⟨by (try simp only [hl5_3]); (try simp only [hl5_4]); (with_reducible repeat (first | apply Kd.R_alloc | apply Kd.R_drewN | apply Kd.R_drew)); exact Kd.R_mono (Kd.R_far (p := ⟨go26, (t512 : Int).toNat, none⟩) (Kd.R_types HO_8.out GG26.out (by decide)) (fun _ hk => hk.2) (.bool true)) (fun _ hk => trivial)⟩, ⟨by repeat (first | (with_reducible first | exact HB.out | apply below_alloc | apply pw_below_drewN | apply below_drew1 | refine below_set ?_ GB26.out) | exact HB.out)⟩⟩
                  ·rw [if_neg c25] at H
                   exact absurd H (by simp)
                 ·rw [if_neg c24] at H
                  exact absurd H (by simp)
                ·rw [if_neg c22] at H
                 exact absurd H (by simp)
               ·rw [if_neg c21] at H
                exact absurd H (by simp)
              ·rw [if_neg c20] at H
               exact absurd H (by simp)
             ·rw [if_neg c19] at H
              exact absurd H (by simp)
            ·rw [if_neg c18] at H
             have c18b0 : decide (x10_4 < x9_3) = false := decide_eq_false c18
             clear c18
             have H' := Aside0.mk H
             clear H
             go_wp2
             (try simp only [← hl5_3, ← hl5_4])
             go_roundg k4
             case measure => have := HK1.out; have := HK2.out; have := HK3.out; have := HK4.out; omega
             case rel => exact ⟨(x5_4), (wrap64 (x9_3 + 1)), (by first | rfl | (simp; done) | (simp [*]; done)), H', ⟨by have := HK1.out; have := HK2.out; have := HK3.out; have := HK4.out; omega⟩, ⟨by (try simp only [hl5_3]); (try simp only [hl5_4]); (with_reducible repeat (first | apply Kd.R_alloc | apply Kd.R_drewN | apply Kd.R_drew)); exact HO_5.out⟩, ⟨by (try simp only [hl5_3]); (try simp only [hl5_4]); (with_reducible repeat (first | apply Kd.R_alloc | apply Kd.R_drewN | apply Kd.R_drew)); exact HO_8.out⟩, ⟨by repeat (first | (with_reducible first | exact HB.out | apply below_alloc | apply pw_below_drewN | apply below_drew1) | exact HB.out)⟩⟩
         ·rw [if_neg c16] at H
          have c16b0 : decide (x9_3 < (t507.length : Int)) = false := decide_eq_false c16
          clear c16
          obtain ⟨y514, hy514⟩ : ∃ y_ : List Int, y_ = (([] : List Int)) := ⟨_, rfl⟩
          replace H : (spec_l7Span.l4 k3 l0 x5_3 x6_2 y514 0) = some r := by first | (rw [hy514]; with_reducible exact H) | (have H2_ := (Option.bind_some _ _).symm.trans H; rw [hy514]; with_reducible exact H2_) | (have H2_ := (Option.bind_some _ _).symm.trans H; with_reducible exact H2_) | with_reducible exact H | (rw [hy514]; exact H) | exact H
          have Ny514 := Aside0.mk hy514
          clear hy514
          have H' := Aside0.mk H
          clear H
          obtain ⟨Ao29, co29, eo29⟩ := Kd.R_slice HO_8.out
          subst eo29
          go_wp2_with (first | ((with_reducible refine gate_dst (N := 52) rfl ?_); refine Kd.R_lit (Kd.int .i64) _ 3 ?hg (N := 52) ?hd (xs := ([] : List Int)) (inner := []) (ok := fun _ => True) (okp := fun _ => True) ?hr ?hp (fun _ hk => hk) trivial (Below.refl _ _) (Nat.le_refl _) (by simp) ?_; (case hd => rfl); (case hg => rfl); (case hr => first | (go_simp; done) | (go_simp; rfl)); (case hp => exact (Reps.none _ _)); intro v515 w30 ho31 hb hg_ hnew_; clear hg_ hnew_; (first | rw [← Ny514.out] at ho31 | (simp only [Int.reduceToNat] at ho31; rw [← Ny514.out] at ho31)); have n0_ := Aside0.mk (Kd.R_below (by (with_reducible repeat (first | apply Kd.R_alloc | apply Kd.R_drewN | apply Kd.R_drew)); exact HO_5.out) hb); have n1_ := Aside0.mk (Kd.R_elder' (by (with_reducible repeat (first | apply Kd.R_alloc | apply Kd.R_drewN | apply Kd.R_drew)); exact HO_8.out) (Kd.R_base ho31) hb); have n2_ := Aside0.mk (Kd.R_lower (Kd.R_new' ho31 (Kd.R_lt (by (with_reducible repeat (first | apply Kd.R_alloc | apply Kd.R_drewN | apply Kd.R_drew)); exact HO_8.out))) (below_size (by repeat (first | (with_reducible first | exact HB.out | apply below_alloc | apply pw_below_drewN | apply below_drew1) | exact HB.out)))); have n3_ := Aside0.mk (below_step (by repeat (first | (with_reducible first | exact HB.out | apply below_alloc | apply pw_below_drewN | apply below_drew1) | exact HB.out)) hb); clear HO_5; clear HO_8; clear HB; have HO_5 := n0_; have HO_8 := n1_; have HO516 := n2_; have HB := n3_; clear n0_ n1_ n2_ n3_; clear hb ho31))
          go_loopg [11, 12] k3 (fun kq v11 v12 w' => ∃ (x11_4 : List Int) (x12_4 : Int), v12 = .int .i64 x12_4 ∧ Aside0 (spec_l7Span.l4 kq l0 x5_3 x6_2 x11_4 x12_4 = some r) ∧ Aside0 (kq ≤ k3) ∧ Aside0 (Kd.R Kd.bool 4 w' w.heap.size (fun _ => True) (.slice Ao14 x5_3.length co14) x5_3) ∧ Aside0 (Kd.R (Kd.int .i64) 3 w' w.heap.size (fun _ => True) v11 x11_4) ∧ Aside0 (Below w.heap.size w w'))
          case atStart => exact ⟨(y514), (0), (by first | rfl | (simp; done) | (simp [*]; done)), H', ⟨Nat.le_refl _⟩, ⟨by (try simp only [hl5_3]); (with_reducible repeat (first | apply Kd.R_alloc | apply Kd.R_drewN | apply Kd.R_drew)); exact HO_5.out⟩, ⟨by (try simp only [hl5_3]); (with_reducible repeat (first | apply Kd.R_alloc | apply Kd.R_drewN | apply Kd.R_drew)); exact Kd.R_mono HO516.out (fun _ hk => trivial)⟩, ⟨by repeat (first | (with_reducible first | exact HB.out | apply below_alloc | apply pw_below_drewN | apply below_drew1) | exact HB.out)⟩⟩
          case round =>
           clear H'
           try clear c1
           try clear p1
           try clear q1
           try clear hx1
           try clear c2
           try clear p2
           try clear q2
           try clear hx2
           try clear hf2
           try clear c3
           try clear c3b0
           try clear c3b1
           try clear p5
           try clear q5
           try clear hx5
           try clear c6
           try clear c6b0
           try clear p6
           try clear c7
           try clear c7b0
           try clear c8
           try clear c8b0
           try clear c9
           try clear c9b0
           try clear p10
           try clear q10
           try clear hx10
           try clear hf10
           try clear c14
           try clear c16
           try clear c16b0
           try clear c18
           try clear c18b0
           try clear c19
           try clear c19b0
           try clear c20
           try clear c20b0
           try clear c21
           try clear c21b0
           try clear c22
           try clear c22b0
           try clear c24
           try clear c24b0
           try clear c25
           try clear c25b0
           try clear p26
           try clear q26
           try clear hx26
           try clear hf26
           try clear hx10_0
           try clear hx26_0
           try clear hx505_0
           try clear hx510_0
           try clear hx511_0
           try clear p1
           try clear p10
           try clear p2
           try clear p26
           try clear p5
           try clear p505
           try clear p510
           try clear p511
           try clear p6
           try clear q1
           try clear q10
           try clear q26
           try clear q5
           try clear q505
           try clear q510
           try clear q511
           obtain ⟨x11_4, x12_4, rfl, HA, HK4, HO_5, HO_11, HB⟩ := hrel
           cases gk with
           | zero => exact absurd HA.out (by simp [spec_l7Span.l4])
           | succ k4 =>
            have H := HA.out
            clear HA
            simp only [spec_l7Span.l4] at H
            by_cases c32 : x12_4 < 91
            ·rw [if_pos c32] at H
             have c32b0 : decide (x12_4 < 91) = true := decide_eq_true c32
             clear c32
             by_cases c33 : 0 ≤ x12_4
             ·rw [if_pos c33] at H
              have c33b0 : decide (0 ≤ x12_4) = true := decide_eq_true c33
              clear c33
              by_cases c34 : x12_4 < (x5_3.length : Int)
              ·rw [if_pos c34] at H
               have c34b0 : decide (x12_4 < (x5_3.length : Int)) = true := decide_eq_true c34
               clear c34
               obtain ⟨bq35, hbq35⟩ : ∃ b_ : Bool, b_ = (rdOf false x5_3 x12_4) := ⟨_, rfl⟩
               replace H : (if bq35 = true then (if x11_4.length < 17592186044416 then (spec_l7Span.l4 k4 l0 x5_3 x6_2 (x11_4 ++ [x12_4]) (wrap64 (x12_4 + 1))) else (none)) else (spec_l7Span.l4 k4 l0 x5_3 x6_2 x11_4 (wrap64 (x12_4 + 1)))) = some r := by rw [← hbq35] at H; exact H
               have Nbq35 := Aside0.mk hbq35
               clear hbq35
               by_cases c36 : bq35 = true
               ·subst c36
                have H1 : (if x11_4.length < 17592186044416 then (spec_l7Span.l4 k4 l0 x5_3 x6_2 (x11_4 ++ [x12_4]) (wrap64 (x12_4 + 1))) else (none)) = some r := by rw [if_pos rfl] at H; exact H
                clear H
                have H := H1
                clear H1
                by_cases c37 : x11_4.length < 17592186044416
                ·rw [if_pos c37] at H
                 have LMc37 := Aside0.mk c37
                 clear c37
                 obtain ⟨y518, hy518⟩ : ∃ y_ : List Int, y_ = (x11_4 ++ [x12_4]) := ⟨_, rfl⟩
                 replace H : (spec_l7Span.l4 k4 l0 x5_3 x6_2 y518 (wrap64 (x12_4 + 1))) = some r := by first | (rw [hy518]; with_reducible exact H) | (have H2_ := (Option.bind_some _ _).symm.trans H; rw [hy518]; with_reducible exact H2_) | (have H2_ := (Option.bind_some _ _).symm.trans H; with_reducible exact H2_) | with_reducible exact H | (rw [hy518]; exact H) | exact H
                 have Ny518 := Aside0.mk hy518
                 clear hy518
                 have H' := Aside0.mk H
                 clear H
                 have p517 : 0 ≤ (x12_4 : Int) := of_decide_eq_true (by first | (with_reducible assumption) | assumption)
                 have q517 : x12_4 < (x5_3.length : Int) := of_decide_eq_true (by first | (with_reducible assumption) | assumption)
                 obtain ⟨ad517, e517, hx517_0⟩ := Kd.at_bool (Kd.R_reads' HO_5.out).2.2 x12_4 p517 q517
                 (try rw [← Nbq35.out] at hx517_0)
                 cases e517
                 replace p517 := eq_true p517
                 replace q517 := eq_true q517
                 go_wp2_with (first | (at_builtin; refine Kd.R_append (Kd.int .i64) (w0 := w) w.heap.size rfl (.tmp 61) (.tmp 63) 23 3 (.int .i64 0) 8 rfl Try.underlying23 info3 rfl (by decide) (by omega) u11 x11_4 x12_4 [.int .i64 x12_4] (fun _ => True) (fun _ => False) rfl rfl ?aP (fun _ hk => hk.elim) ?aF ?aO ?aB ?aS ?aL ?_; (case aP => exact rfl); (case aB => exact (by repeat (first | (with_reducible first | exact HB.out | apply below_alloc | apply pw_below_drewN | apply below_drew1) | exact HB.out))); (case aF => exact (fun _ _ => trivial)); (case aO => exact (by (with_reducible repeat (first | apply Kd.R_alloc | apply Kd.R_drewN | apply Kd.R_drew)); exact HO_11.out)); (case aS => exact (below_size (by repeat (first | (with_reducible first | exact HB.out | apply below_alloc | apply pw_below_drewN | apply below_drew1) | exact HB.out)))); (case aL => have := LMc37.out; omega); intro v519 w38 ho hb hg hat; rw [← Ny518.out] at ho; have n0_ := Aside0.mk (Kd.R_over' (by (with_reducible repeat (first | apply Kd.R_alloc | apply Kd.R_drewN | apply Kd.R_drew)); exact HO_5.out) (Kd.R_typed (by (with_reducible repeat (first | apply Kd.R_alloc | apply Kd.R_drewN | apply Kd.R_drew)); exact HO_11.out)) (by decide) hg); have n1_ := Aside0.mk (hb); have n2_ := Aside0.mk (ho); clear HO_5; clear HB; clear HO_11; have HO_5 := n0_; have HB := n1_; have HO520 := n2_; clear n0_ n1_ n2_; clear ho hb hg hat))
                 go_roundg k4
                 case measure => have := HK1.out; have := HK2.out; have := HK3.out; have := HK4.out; omega
                 case rel => exact ⟨(y518), (wrap64 (x12_4 + 1)), (by first | rfl | (simp; done) | (simp [*]; done)), H', ⟨by have := HK1.out; have := HK2.out; have := HK3.out; have := HK4.out; omega⟩, ⟨by (try simp only [hl5_3]); (with_reducible repeat (first | apply Kd.R_alloc | apply Kd.R_drewN | apply Kd.R_drew)); exact HO_5.out⟩, ⟨by (try simp only [hl5_3]); (with_reducible repeat (first | apply Kd.R_alloc | apply Kd.R_drewN | apply Kd.R_drew)); exact HO520.out⟩, ⟨by repeat (first | (with_reducible first | exact HB.out | apply below_alloc | apply pw_below_drewN | apply below_drew1) | exact HB.out)⟩⟩
                ·rw [if_neg c37] at H
                 exact absurd H (by simp)
               ·replace c36 := Bool.eq_false_iff.mpr c36
                subst c36
                have H1 : (spec_l7Span.l4 k4 l0 x5_3 x6_2 x11_4 (wrap64 (x12_4 + 1))) = some r := by rw [if_neg (show ¬ (false = true) by decide)] at H; exact H
                clear H
                have H := H1
                clear H1
                have H' := Aside0.mk H
                clear H
                have p517 : 0 ≤ (x12_4 : Int) := of_decide_eq_true (by first | (with_reducible assumption) | assumption)
                have q517 : x12_4 < (x5_3.length : Int) := of_decide_eq_true (by first | (with_reducible assumption) | assumption)
                obtain ⟨ad517, e517, hx517_0⟩ := Kd.at_bool (Kd.R_reads' HO_5.out).2.2 x12_4 p517 q517
                (try rw [← Nbq35.out] at hx517_0)
                cases e517
                replace p517 := eq_true p517
                replace q517 := eq_true q517
                go_wp2
                go_roundg k4
                case measure => have := HK1.out; have := HK2.out; have := HK3.out; have := HK4.out; omega
                case rel => exact ⟨(x11_4), (wrap64 (x12_4 + 1)), (by first | rfl | (simp; done) | (simp [*]; done)), H', ⟨by have := HK1.out; have := HK2.out; have := HK3.out; have := HK4.out; omega⟩, ⟨by (try simp only [hl5_3]); (with_reducible repeat (first | apply Kd.R_alloc | apply Kd.R_drewN | apply Kd.R_drew)); exact HO_5.out⟩, ⟨by (try simp only [hl5_3]); (with_reducible repeat (first | apply Kd.R_alloc | apply Kd.R_drewN | apply Kd.R_drew)); exact HO_11.out⟩, ⟨by repeat (first | (with_reducible first | exact HB.out | apply below_alloc | apply pw_below_drewN | apply below_drew1) | exact HB.out)⟩⟩
              ·rw [if_neg c34] at H
               exact absurd H (by simp)
             ·rw [if_neg c33] at H
              exact absurd H (by simp)
            ·rw [if_neg c32] at H
             have c32b0 : decide (x12_4 < 91) = false := decide_eq_false c32
             clear c32
             by_cases c39 : (x11_4.length : Int) = x6_2
             ·rw [if_pos c39] at H
              have c39b0 : ((x11_4.length : Int) == x6_2) = true := beq_iff_eq.mpr c39
              have c39b1 : ((x11_4.length : Int) != x6_2) = false := bne_eq_false_iff_eq.mpr c39
              clear c39
              obtain rfl := Option.some.inj H
              obtain ⟨Ao40, co40, eo40⟩ := Kd.R_slice HO_11.out
              subst eo40
              go_wp2
              go_ret
              exact ⟨_, by first | rfl | (simp [errW_none, errW_some] <;> rfl) | (simp [*, errW_none, errW_some] <;> rfl), by (with_reducible repeat (first | apply Kd.R_alloc | apply Kd.R_drewN | apply Kd.R_drew)); exact HO_11.out, by repeat (first | (with_reducible first | exact HB.out | apply below_alloc | apply pw_below_drewN | apply below_drew1) | exact HB.out)⟩
             ·rw [if_neg c39] at H
              have c39b0 : ((x11_4.length : Int) == x6_2) = false := beq_eq_false_iff_ne.mpr c39
              have c39b1 : ((x11_4.length : Int) != x6_2) = true := bne_iff_ne.mpr c39
              have H' := Aside0.mk H
              clear H
              obtain ⟨Ao41, co41, eo41⟩ := Kd.R_slice HO_11.out
              subst eo41
              go_wp2
              (try simp only [← hl5_3])
              go_roundg k4
              case measure => have := HK1.out; have := HK2.out; have := HK3.out; have := HK4.out; omega
              case rel => exact ⟨(x5_3), ((x11_4.length : Int)), (by first | rfl | (simp; done) | (simp [*]; done)), H', ⟨by have := HK1.out; have := HK2.out; have := HK3.out; have := HK4.out; omega⟩, ⟨by (try simp only [hl5_3]); (with_reducible repeat (first | apply Kd.R_alloc | apply Kd.R_drewN | apply Kd.R_drew)); exact HO_5.out⟩, ⟨by repeat (first | (with_reducible first | exact HB.out | apply below_alloc | apply pw_below_drewN | apply below_drew1) | exact HB.out)⟩⟩
 ·rw [if_neg c3] at H
  exact absurd H (by simp)


end Go.Proofs.Ytcbkoecanldlpaa.P

namespace Go.Proofs.Ytcbkoecanldlpaa.P
open Go.RowKit Go.Proofs.YtcbkoecanldlpaaW.PrintWords Go.Proofs.YtcbkoecanldlpaaW.PrintLast
set_option linter.unusedVariables false
set_option linter.unusedSimpArgs false

/-! ### spec_SpanOf: function 30 -/
mutual
def spec_SpanOf.j0 : Nat → List Int → List Int → Bool → Option (List Int × Bool)
 | 0, _, _, _ => none
 | k + 1, x0, x1, x14 => if x14 = true then (some ((([] : List Int)), false)) else (spec_SpanOf.l0 k x0 x1 0)
def spec_SpanOf.l0 : Nat → List Int → List Int → Int → Option (List Int × Bool)
 | 0, _, _, _ => none
 | k + 1, x0, x1, x6 => if x6 < (x1.length : Int) then (if 0 ≤ x6 then ((spec_l3In.f (rd x1 x6)).bind fun t526 => (if t526 = true then (spec_SpanOf.l0 k x0 x1 (wrap64 (x6 + 1))) else (some ((([] : List Int)), false)))) else (none)) else ((spec_l7Span.f k x0 x1).bind fun t530 => (some (t530, true)))
end
def spec_SpanOf.f (k : Nat) (l0 : List Int) (l1 : List Int) : Option (List Int × Bool) := (spec_SystemIn.f k l0).bind fun t521 => (if t521 = true then (spec_SpanOf.j0 k l0 l1 (decide ((l1.length : Int) > 10))) else (spec_SpanOf.j0 k l0 l1 true))
set_option maxHeartbeats 8000000 in
set_option maxRecDepth 100000 in
theorem spec_SpanOf.calls (k : Nat) (A0 : Option Addr) (c0 : Nat) (l0 : List Int) (A1 : Option Addr) (c1 : Nat) (l1 : List Int) (r1 : List Int) (r2 : Bool) (w : World) (hr0 : Kd.C (Kd.int .i64) w A0 l0.length l0) (hc0 : l0.length ≤ c0) (hr1 : Kd.C (Kd.int .i64) w A1 l1.length l1) (hc1 : l1.length ≤ c1) (h : spec_SpanOf.f k l0 l1 = some (r1, r2)) :
  Calls Try.prog 30 #[.slice A0 l0.length c0, .slice A1 l1.length c1] w fun e w' => ∃ v0_ : Value, e = .returned (.tuple #[v0_, .bool r2]) ∧ Kd.R (Kd.int .i64) 3 w' w.heap.size (fun _ => True) v0_ r1 ∧ Below w.heap.size w w' := by
 have HR0 := Aside0.mk hr0
 have HC0 := Aside0.mk hc0
 clear hr0 hc0
 have HR1 := Aside0.mk hr1
 have HC1 := Aside0.mk hc1
 clear hr1 hc1
 have HB := Aside0.mk (Below.refl w.heap.size w)
 have H : ((spec_SystemIn.f k l0).bind fun t521 => (if t521 = true then (spec_SpanOf.j0 k l0 l1 (decide ((l1.length : Int) > 10))) else (spec_SpanOf.j0 k l0 l1 true))) = some (r1, r2) := h
 clear h
 have HC3 := Aside0.mk H
 clear H
 go_enter Try.func30, Try.ntmps30
 go_upto_region 1 with (fail)
 go_cut [14] (fun v14 wc => ∃ (kq : Nat) (x14_2 : Bool), v14 = .bool x14_2 ∧ Aside0 (spec_SpanOf.j0 kq l0 l1 x14_2 = some (r1, r2)) ∧ Aside0 (kq ≤ k) ∧ Aside0 (Below w.heap.size w wc))
 case first =>
  have H := HC3.out
  clear HC3
  replace H := Option.bind_eq_some_iff.mp H
  obtain ⟨t521, A40, H⟩ := H
  replace H : (if t521 = true then (spec_SpanOf.j0 k l0 l1 (decide ((l1.length : Int) > 10))) else (spec_SpanOf.j0 k l0 l1 true)) = some (r1, r2) := H
  have A4 := Aside0.mk A40
  clear A40
  by_cases c5 : t521 = true
  ·subst c5
   have H1 : (spec_SpanOf.j0 k l0 l1 (decide ((l1.length : Int) > 10))) = some (r1, r2) := by rw [if_pos rfl] at H; exact H
   clear H
   have H := H1
   clear H1
   have H' := Aside0.mk H
   clear H
   go_wp2_with (first | (refine goesL_ (some 8) rfl rfl Try.func63 (by kernel_rfl) rfl #[.slice A0 l0.length c0] rfl (by (try simp only [List.map_toArray, List.map_cons, List.map_nil]); first | done | rfl | (simp only [List.length_drop, List.length_take]; rfl)) ?_; (with_reducible refine (spec_SystemIn.calls k _ _ l0 true _ ?side1 ?side2 A4.out).mono ?_); (case side1 => repeat (first | exact (Kd.C_below HR0.out HB.out) | (with_reducible refine Kd.C_alloc ?_ _) | (with_reducible refine Kd.C_drewN ?_ _) | (with_reducible refine Kd.C_drew ?_))); (case side2 => exact HC0.out); rintro e w6 ⟨rfl, hb⟩; refine ⟨_, rfl, ?_⟩; have n0_ := Aside0.mk (below_step (by repeat (first | (with_reducible first | exact HB.out | apply below_alloc | apply pw_below_drewN | apply below_drew1) | exact HB.out)) hb); clear HB; have HB := n0_; clear n0_; (try clear hb); (try clear hb2); (try clear hk); (try clear hi)))
   go_meet
   case rel => exact ⟨_, (decide ((l1.length : Int) > 10)), (by first | rfl | (simp; done) | (simp [*]; done)), H', ⟨by first | omega | exact Nat.le_refl _⟩, ⟨by repeat (first | (with_reducible first | exact HB.out | apply below_alloc | apply pw_below_drewN | apply below_drew1) | exact HB.out)⟩⟩
  ·replace c5 := Bool.eq_false_iff.mpr c5
   subst c5
   have H1 : (spec_SpanOf.j0 k l0 l1 true) = some (r1, r2) := by rw [if_neg (show ¬ (false = true) by decide)] at H; exact H
   clear H
   have H := H1
   clear H1
   have H' := Aside0.mk H
   clear H
   go_wp2_with (first | (refine goesL_ (some 8) rfl rfl Try.func63 (by kernel_rfl) rfl #[.slice A0 l0.length c0] rfl (by (try simp only [List.map_toArray, List.map_cons, List.map_nil]); first | done | rfl | (simp only [List.length_drop, List.length_take]; rfl)) ?_; (with_reducible refine (spec_SystemIn.calls k _ _ l0 false _ ?side1 ?side2 A4.out).mono ?_); (case side1 => repeat (first | exact (Kd.C_below HR0.out HB.out) | (with_reducible refine Kd.C_alloc ?_ _) | (with_reducible refine Kd.C_drewN ?_ _) | (with_reducible refine Kd.C_drew ?_))); (case side2 => exact HC0.out); rintro e w7 ⟨rfl, hb⟩; refine ⟨_, rfl, ?_⟩; have n0_ := Aside0.mk (below_step (by repeat (first | (with_reducible first | exact HB.out | apply below_alloc | apply pw_below_drewN | apply below_drew1) | exact HB.out)) hb); clear HB; have HB := n0_; clear n0_; (try clear hb); (try clear hb2); (try clear hk); (try clear hi)))
   go_meet
   case rel => exact ⟨_, (true), (by first | rfl | (simp; done) | (simp [*]; done)), H', ⟨by first | omega | exact Nat.le_refl _⟩, ⟨by repeat (first | (with_reducible first | exact HB.out | apply below_alloc | apply pw_below_drewN | apply below_drew1) | exact HB.out)⟩⟩
 case rest =>
  clear HC3
  try clear c1
  try clear p2
  try clear c3
  try clear c5
  try clear c6
  obtain ⟨kq, x14_2, rfl, HA, HJ2, HB⟩ := hcut
  cases kq with
  | zero => exact absurd HA.out (by simp [spec_SpanOf.j0])
  | succ kj2 =>
   have H := HA.out
   clear HA
   simp only [spec_SpanOf.j0] at H
   by_cases c8 : x14_2 = true
   ·subst c8
    have H1 : (some ((([] : List Int)), false)) = some (r1, r2) := by rw [if_pos rfl] at H; exact H
    clear H
    have H := H1
    clear H1
    obtain ⟨y522, hy522⟩ : ∃ y_ : List Int, y_ = (([] : List Int)) := ⟨_, rfl⟩
    replace H : (some (y522, false)) = some (r1, r2) := by first | (rw [hy522]; with_reducible exact H) | (have H2_ := (Option.bind_some _ _).symm.trans H; rw [hy522]; with_reducible exact H2_) | (have H2_ := (Option.bind_some _ _).symm.trans H; with_reducible exact H2_) | with_reducible exact H | (rw [hy522]; exact H) | exact H
    have Ny522 := Aside0.mk hy522
    clear hy522
    simp only [Option.some.injEq, Prod.mk.injEq] at H
    obtain ⟨rfl, rfl⟩ := H
    go_wp2_with (first | ((with_reducible refine gate_dst (N := 15) rfl ?_); refine Kd.R_lit (Kd.int .i64) _ 3 ?hg (N := 15) ?hd (xs := ([] : List Int)) (inner := []) (ok := fun _ => True) (okp := fun _ => True) ?hr ?hp (fun _ hk => hk) trivial (Below.refl _ _) (Nat.le_refl _) (by simp) ?_; (case hd => rfl); (case hg => rfl); (case hr => first | (go_simp; done) | (go_simp; rfl)); (case hp => exact (Reps.none _ _)); intro v523 w9 ho10 hb hg_ hnew_; clear hg_ hnew_; (first | rw [← Ny522.out] at ho10 | (simp only [Int.reduceToNat] at ho10; rw [← Ny522.out] at ho10)); have n0_ := Aside0.mk (Kd.R_lower ho10 (below_size (by repeat (first | (with_reducible first | exact HB.out | apply below_alloc | apply pw_below_drewN | apply below_drew1) | exact HB.out)))); have n1_ := Aside0.mk (below_step (by repeat (first | (with_reducible first | exact HB.out | apply below_alloc | apply pw_below_drewN | apply below_drew1) | exact HB.out)) hb); clear HB; have HO524 := n0_; have HB := n1_; clear n0_ n1_; clear hb ho10))
    go_ret2
    exact ⟨_, by first | rfl | (simp [errW_none, errW_some] <;> rfl) | (simp [*, errW_none, errW_some] <;> rfl), by (with_reducible repeat (first | apply Kd.R_alloc | apply Kd.R_drewN | apply Kd.R_drew)); exact HO524.out, by repeat (first | (with_reducible first | exact HB.out | apply below_alloc | apply pw_below_drewN | apply below_drew1) | exact HB.out)⟩
   ·replace c8 := Bool.eq_false_iff.mpr c8
    subst c8
    have H1 : (spec_SpanOf.l0 kj2 l0 l1 0) = some (r1, r2) := by rw [if_neg (show ¬ (false = true) by decide)] at H; exact H
    clear H
    have H := H1
    clear H1
    have H' := Aside0.mk H
    clear H
    go_wp2
    go_loopg [6] kj2 (fun kq v6 w' => ∃ (x6_2 : Int), v6 = .int .i64 x6_2 ∧ Aside0 (spec_SpanOf.l0 kq l0 l1 x6_2 = some (r1, r2)) ∧ Aside0 (kq ≤ kj2) ∧ Aside0 (Below w.heap.size w w'))
    case atStart => exact ⟨(0), (by first | rfl | (simp; done) | (simp [*]; done)), H', ⟨Nat.le_refl _⟩, ⟨by repeat (first | (with_reducible first | exact HB.out | apply below_alloc | apply pw_below_drewN | apply below_drew1) | exact HB.out)⟩⟩
    case round =>
     clear H'
     try clear c1
     try clear p2
     try clear c3
     try clear c5
     try clear c6
     try clear c8
     try clear p2
     obtain ⟨x6_2, rfl, HA, HK2, HB⟩ := hrel
     cases gk with
     | zero => exact absurd HA.out (by simp [spec_SpanOf.l0])
     | succ k2 =>
      have H := HA.out
      clear HA
      simp only [spec_SpanOf.l0] at H
      by_cases c11 : x6_2 < (l1.length : Int)
      ·rw [if_pos c11] at H
       have c11b0 : decide (x6_2 < (l1.length : Int)) = true := decide_eq_true c11
       clear c11
       by_cases c12 : 0 ≤ x6_2
       ·rw [if_pos c12] at H
        have c12b0 : decide (0 ≤ x6_2) = true := decide_eq_true c12
        clear c12
        replace H := Option.bind_eq_some_iff.mp H
        obtain ⟨t526, A130, H⟩ := H
        replace H : (if t526 = true then (spec_SpanOf.l0 k2 l0 l1 (wrap64 (x6_2 + 1))) else (some ((([] : List Int)), false))) = some (r1, r2) := H
        have A13 := Aside0.mk A130
        clear A130
        by_cases c14 : t526 = true
        ·subst c14
         have H1 : (spec_SpanOf.l0 k2 l0 l1 (wrap64 (x6_2 + 1))) = some (r1, r2) := by rw [if_pos rfl] at H; exact H
         clear H
         have H := H1
         clear H1
         have H' := Aside0.mk H
         clear H
         have p525 : 0 ≤ (x6_2 : Int) := of_decide_eq_true (by first | (with_reducible assumption) | assumption)
         have q525 : x6_2 < (l1.length : Int) := of_decide_eq_true (by first | (with_reducible assumption) | assumption)
         obtain ⟨ad525, e525, hx525_0⟩ := Kd.at_int HR1.out x6_2 p525 q525
         cases e525
         replace hx525_0 := (HB.out.cell (World.block_lt_of_cell? w _ hx525_0)).trans hx525_0
         replace p525 := eq_true p525
         replace q525 := eq_true q525
         go_wp2_with (first | (refine goesL_ (some 26) rfl rfl Try.func83 (by kernel_rfl) rfl #[.int .i64 (rd l1 x6_2)] rfl (by (try simp only [List.map_toArray, List.map_cons, List.map_nil]); first | done | rfl | (simp only [List.length_drop, List.length_take]; rfl)) ?_; (with_reducible refine (spec_l3In.calls (rd l1 x6_2) true _ A13.out).mono ?_); rintro e w' ⟨rfl, ⟨nd, rfl⟩⟩; refine ⟨_, rfl, ?_⟩))
         go_roundg k2
         case measure => have := HJ2.out; have := HK2.out; omega
         case rel => exact ⟨(wrap64 (x6_2 + 1)), (by first | rfl | (simp; done) | (simp [*]; done)), H', ⟨by have := HJ2.out; have := HK2.out; omega⟩, ⟨by repeat (first | (with_reducible first | exact HB.out | apply below_alloc | apply pw_below_drewN | apply below_drew1) | exact HB.out)⟩⟩
        ·replace c14 := Bool.eq_false_iff.mpr c14
         subst c14
         have H1 : (some ((([] : List Int)), false)) = some (r1, r2) := by rw [if_neg (show ¬ (false = true) by decide)] at H; exact H
         clear H
         have H := H1
         clear H1
         obtain ⟨y527, hy527⟩ : ∃ y_ : List Int, y_ = (([] : List Int)) := ⟨_, rfl⟩
         replace H : (some (y527, false)) = some (r1, r2) := by first | (rw [hy527]; with_reducible exact H) | (have H2_ := (Option.bind_some _ _).symm.trans H; rw [hy527]; with_reducible exact H2_) | (have H2_ := (Option.bind_some _ _).symm.trans H; with_reducible exact H2_) | with_reducible exact H | (rw [hy527]; exact H) | exact H
         have Ny527 := Aside0.mk hy527
         clear hy527
         simp only [Option.some.injEq, Prod.mk.injEq] at H
         obtain ⟨rfl, rfl⟩ := H
         have p525 : 0 ≤ (x6_2 : Int) := of_decide_eq_true (by first | (with_reducible assumption) | assumption)
         have q525 : x6_2 < (l1.length : Int) := of_decide_eq_true (by first | (with_reducible assumption) | assumption)
         obtain ⟨ad525, e525, hx525_0⟩ := Kd.at_int HR1.out x6_2 p525 q525
         cases e525
         replace hx525_0 := (HB.out.cell (World.block_lt_of_cell? w _ hx525_0)).trans hx525_0
         replace p525 := eq_true p525
         replace q525 := eq_true q525
         go_wp2_with (first | (refine goesL_ (some 26) rfl rfl Try.func83 (by kernel_rfl) rfl #[.int .i64 (rd l1 x6_2)] rfl (by (try simp only [List.map_toArray, List.map_cons, List.map_nil]); first | done | rfl | (simp only [List.length_drop, List.length_take]; rfl)) ?_; (with_reducible refine (spec_l3In.calls (rd l1 x6_2) false _ A13.out).mono ?_); rintro e w' ⟨rfl, ⟨nd, rfl⟩⟩; refine ⟨_, rfl, ?_⟩) | ((with_reducible refine gate_dst (N := 28) rfl ?_); refine Kd.R_lit (Kd.int .i64) _ 3 ?hg (N := 28) ?hd (xs := ([] : List Int)) (inner := []) (ok := fun _ => True) (okp := fun _ => True) ?hr ?hp (fun _ hk => hk) trivial (Below.refl _ _) (Nat.le_refl _) (by simp) ?_; (case hd => rfl); (case hg => rfl); (case hr => first | (go_simp; done) | (go_simp; rfl)); (case hp => exact (Reps.none _ _)); intro v528 w15 ho16 hb hg_ hnew_; clear hg_ hnew_; (first | rw [← Ny527.out] at ho16 | (simp only [Int.reduceToNat] at ho16; rw [← Ny527.out] at ho16)); have n0_ := Aside0.mk (Kd.R_lower ho16 (below_size (by repeat (first | (with_reducible first | exact HB.out | apply below_alloc | apply pw_below_drewN | apply below_drew1) | exact HB.out)))); have n1_ := Aside0.mk (below_step (by repeat (first | (with_reducible first | exact HB.out | apply below_alloc | apply pw_below_drewN | apply below_drew1) | exact HB.out)) hb); clear HB; have HO529 := n0_; have HB := n1_; clear n0_ n1_; clear hb ho16))
         go_ret2
         exact ⟨_, by first | rfl | (simp [errW_none, errW_some] <;> rfl) | (simp [*, errW_none, errW_some] <;> rfl), by (with_reducible repeat (first | apply Kd.R_alloc | apply Kd.R_drewN | apply Kd.R_drew)); exact HO529.out, by repeat (first | (with_reducible first | exact HB.out | apply below_alloc | apply pw_below_drewN | apply below_drew1) | exact HB.out)⟩
       ·rw [if_neg c12] at H
        exact absurd H (by simp)
      ·rw [if_neg c11] at H
       have c11b0 : decide (x6_2 < (l1.length : Int)) = false := decide_eq_false c11
       clear c11
       replace H := Option.bind_eq_some_iff.mp H
       obtain ⟨t530, A170, H⟩ := H
       replace H : (some (t530, true)) = some (r1, r2) := H
       have A17 := Aside0.mk A170
       clear A170
       simp only [Option.some.injEq, Prod.mk.injEq] at H
       obtain ⟨rfl, rfl⟩ := H
       go_wp2_with (first | (refine goesL_ (some 31) rfl rfl Try.func84 (by kernel_rfl) rfl #[.slice A0 l0.length c0, .slice A1 l1.length c1] rfl (by (try simp only [List.map_toArray, List.map_cons, List.map_nil]); first | done | rfl | (simp only [List.length_drop, List.length_take]; rfl)) ?_; (with_reducible refine (spec_l7Span.calls k2 _ _ l0 _ _ l1 t530 _ ?side1 ?side2 ?side3 ?side4 A17.out).mono ?_); (case side1 => repeat (first | exact (Kd.C_below HR0.out HB.out) | (with_reducible refine Kd.C_alloc ?_ _) | (with_reducible refine Kd.C_drewN ?_ _) | (with_reducible refine Kd.C_drew ?_))); (case side2 => exact HC0.out); (case side3 => repeat (first | exact (Kd.C_below HR1.out HB.out) | (with_reducible refine Kd.C_alloc ?_ _) | (with_reducible refine Kd.C_drewN ?_ _) | (with_reducible refine Kd.C_drew ?_))); (case side4 => exact HC1.out); rintro e w18 ⟨v531, rfl, ho0, hb⟩; refine ⟨_, rfl, ?_⟩; have n0_ := Aside0.mk (Kd.R_lower ho0 (below_size (by repeat (first | (with_reducible first | exact HB.out | apply below_alloc | apply pw_below_drewN | apply below_drew1) | exact HB.out)))); have n1_ := Aside0.mk (below_step (by repeat (first | (with_reducible first | exact HB.out | apply below_alloc | apply pw_below_drewN | apply below_drew1) | exact HB.out)) hb); clear HB; have HO532 := n0_; have HB := n1_; clear n0_ n1_; (try clear hb); (try clear hb2); (try clear hk); (try clear hi); (try clear ho0)))
       go_ret2
       exact ⟨_, by first | rfl | (simp [errW_none, errW_some] <;> rfl) | (simp [*, errW_none, errW_some] <;> rfl), by (with_reducible repeat (first | apply Kd.R_alloc | apply Kd.R_drewN | apply Kd.R_drew)); exact HO532.out, by repeat (first | (with_reducible first | exact HB.out | apply below_alloc | apply pw_below_drewN | apply below_drew1) | exact HB.out)⟩


end Go.Proofs.Ytcbkoecanldlpaa.P

set_option linter.unusedVariables false
set_option linter.unusedSimpArgs false
namespace Go.Proofs.Ytcbkoecanldlpaa.X
open Go.RowKit Go.Proofs.YtcbkoecanldlpaaW.PrintWords

/-- Points that are marked, as a list. -/
def ptsS (s : Nat → Bool) : List Int := filI 91 fun p => s p.toNat
def cntL (t pts : List Int) (l : Int) : Nat := (pts.filter fun p => onB t p l).length
def linesS (t : List Int) (s : Nat → Bool) : List Int := filI 91 fun l => decide (1 < (cntL t (ptsS s) l : Int))
def prS (t L : List Int) (i : Int) (x : Nat) : Bool := (List.range i.toNat).any fun a => (List.range a).any fun b => decide (meetI t (rd L (a : Int)) (rd L (b : Int)) = (x : Int))
def pkS (t L : List Int) (i k : Int) (x : Nat) : Bool := (List.range k.toNat).any fun b => decide (meetI t (rd L i) (rd L (b : Int)) = (x : Int))
/-- What is marked when the first i lines are done with all before them, and the next one with the first k. -/
def curS (t L : List Int) (s : Nat → Bool) (i k : Int) (x : Nat) : Bool := s x || (prS t L i x || pkS t L i k x)
def stepS (t : List Int) (s : Nat → Bool) (x : Nat) : Bool := s x || prS t (linesS t s) (linesS t s).length x
theorem prS_zero (t L : List Int) (x : Nat) : prS t L 0 x = false := rfl
theorem pkS_zero (t L : List Int) (i : Int) (x : Nat) : pkS t L i 0 x = false := rfl
theorem pkS_succ (t L : List Int) (i : Int) {k : Int} (k0 : 0 ≤ k) (x : Nat) : pkS t L i (k + 1) x = (pkS t L i k x || decide (meetI t (rd L i) (rd L k) = (x : Int))) := by
  unfold pkS
  rw [show (k + 1).toNat = k.toNat + 1 by omega, List.range_succ, List.any_append]
  simp [Int.toNat_of_nonneg k0]
theorem prS_succ (t L : List Int) {i : Int} (i0 : 0 ≤ i) (x : Nat) : prS t L (i + 1) x = (prS t L i x || pkS t L i i x) := by
  unfold prS pkS
  rw [show (i + 1).toNat = i.toNat + 1 by omega, List.range_succ, List.any_append]
  simp [Int.toNat_of_nonneg i0]
theorem curS_start (t L : List Int) (s : Nat → Bool) (x : Nat) : curS t L s 0 0 x = s x := by unfold curS; rw [prS_zero, pkS_zero]; simp
theorem curS_k (t L : List Int) (s : Nat → Bool) (i : Int) {k : Int} (k0 : 0 ≤ k) (x : Nat) : curS t L s i (k + 1) x = (curS t L s i k x || decide (meetI t (rd L i) (rd L k) = (x : Int))) := by
  unfold curS; rw [pkS_succ t L i k0]; simp [Bool.or_assoc]
theorem curS_i (t L : List Int) (s : Nat → Bool) {i : Int} (i0 : 0 ≤ i) (x : Nat) : curS t L s (i + 1) 0 x = curS t L s i i x := by
  unfold curS; rw [prS_succ t L i0, pkS_zero]; simp
theorem curS_end (t : List Int) (s : Nat → Bool) (x : Nat) : curS t (linesS t s) s (linesS t s).length 0 x = stepS t s x := by
  unfold curS stepS; rw [pkS_zero]; simp
theorem curS_old (t L : List Int) (s : Nat → Bool) (i k : Int) (x : Nat) (h : s x = true) : curS t L s i k x = true := by unfold curS; rw [h]; rfl
theorem curS_hit (t L : List Int) (s : Nat → Bool) (i : Int) {k : Int} (k0 : 0 ≤ k) {p : Int} (p0 : 0 ≤ p) (hp : meetI t (rd L i) (rd L k) = p) (x : Nat) : curS t L s i (k + 1) x = if x = p.toNat then true else curS t L s i k x := by
  rw [curS_k t L s i k0, hp]
  by_cases e : x = p.toNat
  · rw [if_pos e, decide_eq_true (by omega), Bool.or_true]
  · rw [if_neg e, decide_eq_false (by omega), Bool.or_false]

/-! ### how many are marked -/
def sizeS (s : Nat → Bool) : Nat := (ptsS s).length
theorem ptsS_congr {s s' : Nat → Bool} (h : ∀ x, x < 91 → s x = s' x) : ptsS s = ptsS s' := filI_congr fun i hi => by rw [Int.toNat_natCast]; exact h i hi
theorem filI_mono {n : Nat} {p q : Int → Bool} (h : ∀ i : Nat, i < n → p (i : Int) = true → q (i : Int) = true) : (filI n p).length ≤ (filI n q).length := by
  induction n with
  | zero => exact Nat.le_refl _
  | succ n ih =>
    rw [filI_succ, filI_succ, List.length_append, List.length_append]
    have h1 := ih fun i hi => h i (by omega)
    by_cases hp : p (n : Int) = true
    · rw [if_pos hp, if_pos (h n (by omega) hp)]; omega
    · rw [if_neg hp]; simp; omega
theorem filI_less {n : Nat} {p q : Int → Bool} (h : ∀ i : Nat, i < n → p (i : Int) = true → q (i : Int) = true) {j : Nat} (hj : j < n) (hq : q (j : Int) = true) (hp : p (j : Int) = false) : (filI n p).length < (filI n q).length := by
  induction n with
  | zero => omega
  | succ n ih =>
    rw [filI_succ, filI_succ, List.length_append, List.length_append]
    by_cases e : j = n
    · subst e
      have h1 := filI_mono (n := j) (p := p) (q := q) fun i hi => h i (by omega)
      rw [if_pos hq, if_neg (by rw [hp]; decide)]
      simp; omega
    · have h1 := ih (fun i hi => h i (by omega)) (by omega)
      by_cases hpn : p (n : Int) = true
      · rw [if_pos hpn, if_pos (h n (by omega) hpn)]; simp; omega
      · rw [if_neg hpn]; simp; omega
theorem sizeS_le (s : Nat → Bool) : sizeS s ≤ 91 := filI_length_le _ _
theorem sizeS_mono {s s' : Nat → Bool} (h : ∀ x, x < 91 → s x = true → s' x = true) : sizeS s ≤ sizeS s' := filI_mono fun i hi => by rw [Int.toNat_natCast]; exact h i hi
theorem sizeS_less {s s' : Nat → Bool} (h : ∀ x, x < 91 → s x = true → s' x = true) {j : Nat} (hj : j < 91) (h1 : s' j = true) (h0 : s j = false) : sizeS s < sizeS s' :=
  filI_less (fun i hi => by rw [Int.toNat_natCast]; exact h i hi) hj (by rw [Int.toNat_natCast]; exact h1) (by rw [Int.toNat_natCast]; exact h0)
theorem sizeS_eq {s s' : Nat → Bool} (h : ∀ x, x < 91 → s x = true → s' x = true) (he : sizeS s = sizeS s') : ∀ x, x < 91 → s x = s' x := by
  intro x hx
  cases h0 : s x with
  | true => exact (h x hx h0).symm
  | false =>
    cases h1 : s' x with
    | false => rfl
    | true => have := sizeS_less h hx h1 h0; omega
theorem stepS_old (t : List Int) (s : Nat → Bool) (x : Nat) (h : s x = true) : stepS t s x = true := by unfold stepS; rw [h]; rfl
theorem linesS_congr {t : List Int} {s s' : Nat → Bool} (h : ∀ x, x < 91 → s x = s' x) : linesS t s = linesS t s' := by unfold linesS; rw [ptsS_congr h]
theorem stepS_congr {t : List Int} {s s' : Nat → Bool} (h : ∀ x, x < 91 → s x = s' x) : ∀ x, x < 91 → stepS t s x = stepS t s' x := fun x hx => by unfold stepS; rw [linesS_congr h, h x hx]
def iterS (t : List Int) (s : Nat → Bool) : Nat → (Nat → Bool)
  | 0 => s
  | n + 1 => stepS t (iterS t s n)
/-- The points of a span. -/
def spanS (t : List Int) (s : Nat → Bool) : List Int := ptsS (iterS t s 91)
theorem iterS_still {t : List Int} {s : Nat → Bool} {n : Nat} (h : ∀ x, x < 91 → stepS t (iterS t s n) x = iterS t s n x) : ∀ d x, x < 91 → iterS t s (n + d) x = iterS t s n x := by
  intro d
  induction d with
  | zero => intro x _; rfl
  | succ d ih =>
    intro x hx
    show stepS t (iterS t s (n + d)) x = _
    rw [stepS_congr ih x hx, h x hx]
/-- Where a step changes nothing after n steps, each of which but the last made more, that is the span. -/
theorem spanS_of {t : List Int} {s : Nat → Bool} {n : Nat} (hn : n ≤ 91) (h : ∀ x, x < 91 → stepS t (iterS t s n) x = iterS t s n x) : spanS t s = ptsS (iterS t s n) := by
  unfold spanS
  refine ptsS_congr fun x hx => ?_
  have := iterS_still h (91 - n) x hx
  rwa [show n + (91 - n) = 91 by omega] at this

end Go.Proofs.Ytcbkoecanldlpaa.X

set_option linter.unusedVariables false
set_option linter.unusedSimpArgs false
namespace Go.Proofs.Ytcbkoecanldlpaa.X
open Go.RowKit Go.Proofs.YtcbkoecanldlpaaW.PrintWords Go.Proofs.YtcbkoecanldlpaaW.PrintLast Go.Proofs.Ytcbkoecanldlpaa.P

theorem meet_loop {t : List Int} (hn : ninesB t 81 = true) {l m : Int} (hl : In91 l) (hm : In91 m) (d : Nat) : ∀ (i : Int), 0 ≤ i → i + d = 91 → (∀ p : Int, 0 ≤ p → p < i → (onB t p l && onB t p m) = false) → Ev (fun k => impl_plane_meet.l0 k t l m i) (meetI t l m) := by
  induction d with
  | zero =>
    intro i h0 h1 h
    refine Ev.step (fun k => by rw [impl_plane_meet.l0]) ?_
    refine Ev.neg (by omega) (Ev.done ?_)
    unfold meetI
    rw [firstI_none fun p p0 p1 => h p p0 (by omega)]
  | succ d ih =>
    intro i h0 h1 h
    have e1 := plane_on_eq hn (p := i) ⟨h0, by omega⟩ hl
    have e2 := plane_on_eq hn (p := i) ⟨h0, by omega⟩ hm
    refine Ev.step (fun k => by rw [impl_plane_meet.l0]) ?_
    simp (disch := omega) only [w64, e1, e2, Option.bind_some]
    refine Ev.pos (by omega) ?_
    have next : (onB t i l && onB t i m) = false → Ev (fun k => impl_plane_meet.l0 k t l m (i + 1)) (meetI t l m) := fun hb => ih (i + 1) (by omega) (by omega) fun p p0 p1 => by
      by_cases e : p = i
      · rw [e]; exact hb
      · exact h p p0 (by omega)
    by_cases a : onB t i l = true
    · refine Ev.pos a ?_
      by_cases b : onB t i m = true
      · refine Ev.pos b (Ev.done ?_)
        unfold meetI
        rw [firstI_some i h0 (by omega) (by rw [a, b]; rfl) h]
      · exact Ev.neg b (next (by rw [Bool.eq_false_iff.2 b, Bool.and_false]))
    · exact Ev.neg a (next (by rw [Bool.eq_false_iff.2 a, Bool.false_and]))
theorem meet_ev {t : List Int} (hn : ninesB t 81 = true) {l m : Int} (hl : In91 l) (hm : In91 m) : Ev (fun k => impl_plane_meet.f k t l m) (meetI t l m) :=
  meet_loop hn hl hm 91 0 (by omega) (by omega) (fun p h0 h1 => by omega)
theorem meet_calls (A0 : Option Addr) (c0 : Nat) (t : List Int) (l m : Int) (w : World) (hr : Kd.C (Kd.int .i64) w A0 t.length t) (hc : t.length ≤ c0) (hn : ninesB t 81 = true) (hl : In91 l) (hm : In91 m) :
    Calls Try.prog 141 #[.slice A0 t.length c0, .int .i64 l, .int .i64 m] w fun e w' => e = .returned (.int .i64 (meetI t l m)) ∧ Drawn0 w w' := by
  obtain ⟨k, hk⟩ := (meet_ev hn hl hm).rounds
  exact impl_plane_meet.calls k A0 c0 t l m _ w hr hc hk

end Go.Proofs.Ytcbkoecanldlpaa.X

set_option linter.unusedVariables false
set_option linter.unusedSimpArgs false
namespace Go.Proofs.Ytcbkoecanldlpaa.X
open Go.RowKit Go.Proofs.YtcbkoecanldlpaaW.PrintWords Go.Proofs.YtcbkoecanldlpaaW.PrintLast Go.Proofs.Ytcbkoecanldlpaa.P

theorem entersSP1 : Eg 139 := enters_of Try.func139 (by kernel_rfl) rfl
theorem entersSP2 : Eg 140 := enters_of Try.func140 (by kernel_rfl) rfl
theorem entersSP3 : Eg 142 := enters_of Try.func142 (by kernel_rfl) rfl
set_option maxHeartbeats 2000000 in
theorem span1_calls (b : Nat) (s : Nat → Bool) (w : World) (hs : Arr w b 79 91 s) (p : Int) (hp : 0 ≤ p ∧ p < 91) :
    Calls Try.prog 139 #[.int .i64 p, .pointer (some ⟨b, 0, none⟩)] w fun e w' => e = .returned (.bool (s p.toNat)) ∧ Below w.heap.size w w' := by
  obtain ⟨p0, p1⟩ := hp
  have hcl := hs.cell p.toNat (by omega)
  have hf := hs.frozen p.toNat
  clear hs
  go_enter Try.func139, Try.ntmps139
  go_wp2
  go_ret
  exact ⟨rfl, Below.refl _ _⟩
set_option maxHeartbeats 2000000 in
theorem span3_calls (b : Nat) (s : Nat → Bool) (w : World) (hs : Arr w b 79 91 s) (p : Int) (hp : 0 ≤ p ∧ p < 91) :
    Calls Try.prog 142 #[.int .i64 p, .pointer (some ⟨b, 0, none⟩)] w fun e w' => e = .returned (.bool (s p.toNat)) ∧ Below w.heap.size w w' := by
  obtain ⟨p0, p1⟩ := hp
  have hcl := hs.cell p.toNat (by omega)
  have hf := hs.frozen p.toNat
  clear hs
  go_enter Try.func142, Try.ntmps142
  go_wp2
  go_ret
  exact ⟨rfl, Below.refl _ _⟩
theorem cntL_take (t pts : List Int) (l : Int) {i : Int} (i0 : 0 ≤ i) (i1 : i < pts.length) : cntL t (pts.take (i + 1).toNat) l = cntL t (pts.take i.toNat) l + (if onB t (rd pts i) l = true then 1 else 0) := by
  unfold cntL
  rw [show (i + 1).toNat = i.toNat + 1 by omega, List.take_add_one, List.getElem?_eq_getElem (by omega), Option.toList_some, List.filter_append, List.length_append]
  have e : pts[i.toNat]'(by omega) = rd pts i := (rd_getElem i0 i1).symm
  rw [e]
  by_cases h : onB t (rd pts i) l = true
  · rw [if_pos h]; simp [h]
  · rw [if_neg h]; simp [h]
theorem cntL_le (t pts : List Int) (l : Int) : cntL t pts l ≤ pts.length := List.length_filter_le _ _
set_option maxHeartbeats 4000000 in
theorem span2_calls (b bt : Nat) (A0 A1 : Option Addr) (c0 c1 : Nat) (t pts : List Int) (w : World) (hb : BoxT w b A1 c1 pts) (ht : BoxT w bt A0 c0 t) (hc0 : t.length ≤ c0) (hn : ninesB t 81 = true) (hp : ∀ x ∈ pts, In91 x) (h91 : pts.length ≤ 91) (l : Int) (hl : In91 l) :
    Calls Try.prog 140 #[.int .i64 l, .pointer (some ⟨b, 0, none⟩), .pointer (some ⟨bt, 0, none⟩)] w fun e w' => e = .returned (.bool (decide (1 < (cntL t pts l : Int)))) ∧ Below w.heap.size w w' := by
  have HB := Aside0.mk hb
  have HT := Aside0.mk ht
  have HP := Aside0.mk hp
  have HN := Aside0.mk hn
  have HL := Aside0.mk hl
  have hcell := hb.cell
  have h91' : pts.length ≤ 91 := h91
  clear hb ht hp hn hl
  go_enter Try.func140, Try.ntmps140
  go_wp2
  go_loopg [5, 10] 91 (fun kq v5 v10 w' => ∃ i c : Int, v10 = .int .i64 i ∧ v5 = .int .i64 c ∧ Aside0 (0 ≤ i ∧ i ≤ pts.length) ∧ Aside0 ((pts.length : Int) - i ≤ kq) ∧ Aside0 (c = (cntL t (pts.take i.toNat) l : Int)) ∧ Aside0 (Below w.heap.size w w'))
  case atStart => exact ⟨0, 0, rfl, rfl, ⟨by omega⟩, ⟨by omega⟩, ⟨rfl⟩, ⟨Below.refl _ _⟩⟩
  case round =>
    clear hcell
    obtain ⟨i, c, rfl, rfl, HI, HK, HC, HW⟩ := hrel
    have i0 : 0 ≤ i := HI.out.1
    have hcl := cntL_le t (pts.take i.toNat) l
    have hcr : 0 ≤ c ∧ c ≤ 91 := by have := HC.out; rw [List.length_take] at hcl; omega
    obtain ⟨hc0', hc1'⟩ := hcr
    clear hcl
    by_cases c6 : i < (pts.length : Int)
    case neg =>
      have e : c = (cntL t pts l : Int) := by rw [HC.out, List.take_of_length_le (by omega)]
      have E := Aside0.mk (show decide (1 < c) = decide (1 < (cntL t pts l : Int)) by rw [e])
      clear e
      go_wp2
      go_ret
      exact ⟨by rw [← E.out]; rfl, HW.out⟩
    case pos =>
    obtain ⟨ad, e1, g1⟩ := Kd.at_int (Kd.C_below HB.out.read HW.out) i i0 c6
    subst e1
    have hcell2 := (HT.out.below HW.out).cell
    have HON := Aside0.mk (on_calls A0 c0 t (rd pts i) l wr (HT.out.below HW.out).read hc0 HN.out (HP.out _ (rd_mem c6 i0)) HL.out)
    have HCT := Aside0.mk (cntL_take t pts l i0 c6)
    obtain ⟨p, hp⟩ : ∃ p, rd pts i = p := ⟨_, rfl⟩
    rw [hp] at g1 HON HCT
    clear hp
    have zw : IntKind.i64.wrap (c + 1) = c + 1 := by rw [IntKind.wrap_i64]; omega
    have zi : IntKind.i64.wrap (i + 1) = i + 1 := by rw [IntKind.wrap_i64]; omega
    by_cases ho : onB t p l = true
    case pos =>
      rw [ho] at HON HCT
      clear ho
      go_wp2_with (go_at_call 75; refine HON.out.mono ?_; rintro e w' ⟨rfl, ⟨nd, rfl⟩⟩)
      go_roundg (pts.length - (i.toNat + 1))
      case measure => have := HK.out; omega
      case rel => exact ⟨i + 1, c + 1, rfl, rfl, ⟨by omega⟩, ⟨by omega⟩, ⟨by rw [HCT.out, HC.out]; rfl⟩, ⟨pw_below_drewN HW.out _⟩⟩
    case neg =>
      have ho := Bool.eq_false_iff.2 ho
      rw [ho] at HON HCT
      clear ho
      go_wp2_with (go_at_call 75; refine HON.out.mono ?_; rintro e w' ⟨rfl, ⟨nd, rfl⟩⟩)
      go_roundg (pts.length - (i.toNat + 1))
      case measure => have := HK.out; omega
      case rel => exact ⟨i + 1, c, rfl, rfl, ⟨by omega⟩, ⟨by omega⟩, ⟨by rw [HCT.out, HC.out]; rfl⟩, ⟨pw_below_drewN HW.out _⟩⟩

end Go.Proofs.Ytcbkoecanldlpaa.X

set_option linter.unusedVariables false
set_option linter.unusedSimpArgs false
namespace Go.Proofs.Ytcbkoecanldlpaa.X
open Go.RowKit Go.Proofs.YtcbkoecanldlpaaW.PrintWords Go.Proofs.YtcbkoecanldlpaaW.PrintLast Go.Proofs.Ytcbkoecanldlpaa.P

def inL (l : List Int) (x : Nat) : Bool := decide ((x : Int) ∈ l)
theorem inL_take {l : List Int} {i : Int} (i0 : 0 ≤ i) (i1 : i < l.length) (h0 : 0 ≤ rd l i) (x : Nat) : inL (l.take (i + 1).toNat) x = if x = (rd l i).toNat then true else inL (l.take i.toNat) x := by
  unfold inL
  rw [show (i + 1).toNat = i.toNat + 1 by omega, List.take_add_one, List.getElem?_eq_getElem (by omega), Option.toList_some]
  have e : l[i.toNat]'(by omega) = rd l i := (rd_getElem i0 i1).symm
  rw [e]
  by_cases h : x = (rd l i).toNat
  · rw [if_pos h, decide_eq_true]
    rw [List.mem_append, List.mem_singleton]; right; omega
  · rw [if_neg h]
    refine decide_eq_decide.2 ?_
    rw [List.mem_append, List.mem_singleton]
    exact ⟨fun h => h.elim id fun h => absurd h (by omega), .inl⟩
theorem linesS_rd {t : List Int} {s : Nat → Bool} {i : Int} (i0 : 0 ≤ i) (i1 : i < (linesS t s).length) : In91 (rd (linesS t s) i) := by
  have := mem_filI.1 (rd_mem (t := linesS t s) i1 i0)
  exact ⟨this.1, this.2.1⟩
theorem meet_in {t : List Int} (h : sysB t = true) {s : Nat → Bool} {i k : Int} (k0 : 0 ≤ k) (ki : k < i) (i1 : i < (linesS t s).length) : In91 (meetI t (rd (linesS t s) i) (rd (linesS t s) k)) := by
  have hi := linesS_rd (t := t) (s := s) (i := i) (by omega) i1
  have hk := linesS_rd (t := t) (s := s) (i := k) k0 (by omega)
  have hlt : rd (linesS t s) k < rd (linesS t s) i := filI_lt k0 ki i1
  have := meetI_spec h hi.1 hi.2 hk.1 hk.2 (by omega)
  exact ⟨this.1, this.2.1⟩
/-- Does a state have more than another? -/
def moreS (s s' : Nat → Bool) : Prop := ∃ x : Nat, x < 91 ∧ s' x = true ∧ s x = false
theorem more_start (t L : List Int) (s : Nat → Bool) : ¬ moreS s (curS t L s 0 0) := by
  rintro ⟨x, _, h1, h2⟩
  rw [curS_start, h2] at h1
  exact absurd h1 (by decide)
theorem more_congr {s a b : Nat → Bool} (h : ∀ x, x < 91 → a x = b x) : moreS s a ↔ moreS s b :=
  ⟨fun ⟨x, hx, h1, h2⟩ => ⟨x, hx, (h x hx) ▸ h1, h2⟩, fun ⟨x, hx, h1, h2⟩ => ⟨x, hx, (h x hx).symm ▸ h1, h2⟩⟩
theorem cur_hit_old {t L : List Int} {s : Nat → Bool} {i k p : Int} (k0 : 0 ≤ k) (p0 : 0 ≤ p) (hp : meetI t (rd L i) (rd L k) = p) (hb : curS t L s i k p.toNat = true) (x : Nat) : curS t L s i k x = curS t L s i (k + 1) x := by
  rw [curS_hit t L s i k0 p0 hp]
  by_cases e : x = p.toNat
  · rw [if_pos e, e, hb]
  · rw [if_neg e]
theorem still_of {t : List Int} {s : Nat → Bool} (h : ¬ moreS s (curS t (linesS t s) s (linesS t s).length 0)) : ∀ x, x < 91 → stepS t s x = s x := by
  intro x hx
  rw [← curS_end]
  cases h0 : s x with
  | true => exact curS_old _ _ _ _ _ _ h0
  | false =>
    cases h1 : curS t (linesS t s) s (linesS t s).length 0 x with
    | false => rfl
    | true => exact absurd ⟨x, hx, h1, h0⟩ h
theorem size_step {t : List Int} {s : Nat → Bool} (h : moreS s (curS t (linesS t s) s (linesS t s).length 0)) : sizeS s < sizeS (stepS t s) := by
  obtain ⟨x, hx, h1, h0⟩ := h
  rw [curS_end] at h1
  exact sizeS_less (fun y _ hy => stepS_old t s y hy) hx h1 h0

set_option maxRecDepth 100000 in
set_option maxHeartbeats 16000000 in
theorem span_calls (A0 : Option Addr) (c0 : Nat) (t : List Int) (A1 : Option Addr) (c1 : Nat) (l : List Int) (w : World) (hr : Kd.C (Kd.int .i64) w A0 t.length t) (hc0 : t.length ≤ c0) (hr1 : Kd.C (Kd.int .i64) w A1 l.length l) (hs : sysB t = true) (hl : ∀ x ∈ l, In91 x) :
    Calls Try.prog 82 #[.slice A0 t.length c0, .slice A1 l.length c1] w fun e w' => ∃ v : Value, e = .returned v ∧ Kd.R (Kd.int .i64) 3 w' w.heap.size (fun _ => True) v (spanS t (inL l)) ∧ Below w.heap.size w w' := by
  have hmf : ∀ (fn : Fn) (first cap : Array Value) (w : World), (Instr.makeFunc fn first cap).run Try.prog w = .ok (.func fn first cap) w := fun _ _ _ _ => rfl
  have hz : ∀ w, Sem.run Try.prog (zeroValue 79) w = .ok (.agg (bA 91 (fun _ => false))) w := fun _ => by kernel_rfl
  have hst := fun w => arr_store (P := Try.prog) 79 91 (fun _ => false) (by kernel_rfl) w
  have hm1 : l.length ≤ 9223372036854775807 := hr1.2.1
  have hb0 : Below w.heap.size w (w.alloc (.cells #[.slice A0 t.length c0] 49)) := (Below.refl _ _).alloc (Nat.le_refl _) _
  have ha0 : (w.alloc (.cells #[.slice A0 t.length c0] 49)).cell? ⟨w.heap.size, 0, none⟩ = some (.slice A0 t.length c0) := World.cell?_alloc_new w _ _ 0
  have hbt : BoxT (w.alloc (.cells #[.slice A0 t.length c0] 49)) w.heap.size A0 c0 t := ⟨ha0, Kd.C_below hr hb0⟩
  have hsz : (w.alloc (.cells #[.slice A0 t.length c0] 49)).heap.size = w.heap.size + 1 := by simp
  have HT0 := Aside0.mk hbt
  have HB0 := Aside0.mk hb0
  have HSZ := Aside0.mk hsz
  have HRT := Aside0.mk hr
  have HL := Aside0.mk hr1
  have HLI := Aside0.mk hl
  have HSY := Aside0.mk hs
  have HN := Aside0.mk (sysB_parts hs).1
  clear hr hr1 hs hl hb0 ha0 hbt hsz
  go_enter Try.func82, Try.ntmps82
  go_upto_region 1 with (fail)
  generalize (w.alloc (.cells #[.slice A0 t.length c0] 49)) = w1 at HT0 HB0 HSZ ⊢
  have HS := Aside0.mk (Arr.alloc w1 79 91 (fun _ => false))
  have hb2 : Below w1.heap.size w1 (w1.alloc (.cells (bA 91 (fun _ => false)) 79)) := (Below.refl _ _).alloc (Nat.le_refl _) _
  have HT := Aside0.mk (HT0.out.below hb2)
  have HB := Aside0.mk (bstep HB0.out hb2)
  clear hb2
  go_wp2
  rw [HSZ.out] at HS
  rw [HSZ.out]
  go_loopg [19] l.length (fun kq v19 w' => ∃ i : Int, v19 = .int .i64 i ∧ Aside0 (0 ≤ i ∧ i ≤ l.length) ∧ Aside0 ((l.length : Int) - i ≤ kq) ∧ Aside0 (Arr w' (w.heap.size + 1) 79 91 (inL (l.take i.toNat))) ∧ Aside0 (BoxT w' w.heap.size A0 c0 t) ∧ Aside0 (Below w.heap.size w w'))
  case atStart => exact ⟨0, rfl, ⟨by omega⟩, ⟨by omega⟩, ⟨HS.out.congr (fun j hj => by simp [inL])⟩, HT, HB⟩
  case round =>
    clear HS HT HB hz hst
    obtain ⟨i, rfl, HI, HK, HS, HT, HB⟩ := hrel
    have i0 : 0 ≤ i := HI.out.1
    by_cases c6 : i < (l.length : Int)
    case pos =>
      obtain ⟨ad, e1, g1⟩ := Kd.at_int (Kd.C_below HL.out HB.out) i i0 c6
      subst e1
      obtain ⟨p0, p1⟩ := HLI.out _ (rd_mem c6 i0)
      have hcl := HS.out.cell (rd l i).toNat (by omega)
      have hf := HS.out.frozen (rd l i).toNat
      have HS6 := Aside0.mk ((HS.out.set (rd l i).toNat true).congr (s' := inL (l.take (i + 1).toNat)) fun j hj => (inL_take i0 c6 p0 j).symm)
      have HB6 := Aside0.mk (HB.out.setCell (p := ⟨w.heap.size + 1, (rd l i).toNat, none⟩) (Nat.le_succ _) (.bool true))
      have HT6 := Aside0.mk (show BoxT (wr.setCell ⟨w.heap.size + 1, (rd l i).toNat, none⟩ (.bool true)) w.heap.size A0 c0 t from ⟨by rw [World.cell?_setCell_far _ _ _ _ (by simp)]; exact HT.out.cell, Kd.C_below HRT.out HB6.out⟩)
      obtain ⟨p, hp⟩ : ∃ p, rd l i = p := ⟨_, rfl⟩
      rw [hp] at g1 p0 p1 hcl hf HS6 HB6 HT6
      clear hp
      go_wp2
      go_roundg (l.length - (i.toNat + 1))
      case measure => have := HK.out; omega
      case rel => exact ⟨i + 1, rfl, ⟨by omega⟩, ⟨by omega⟩, HS6, HT6, HB6⟩
    case neg =>
    have hi : i = l.length := by have := HI.out; omega
    have HS0 := Aside0.mk (HS.out.congr (s' := inL l) fun j hj => by rw [List.take_of_length_le (by omega)])
    clear HS HI HK hi i0
    go_wp2
    go_loopg [8] 93 (fun kq v8 w' => ∃ (g : Bool) (n : Nat), v8 = .bool g ∧ Aside0 ((if g = true then 93 - (sizeS (iterS t (inL l) n) : Int) else 0) ≤ kq) ∧ Aside0 (n ≤ sizeS (iterS t (inL l) n)) ∧ Aside0 (g = false → ∀ x, x < 91 → stepS t (iterS t (inL l) n) x = iterS t (inL l) n x) ∧ Aside0 (Arr w' (w.heap.size + 1) 79 91 (iterS t (inL l) n)) ∧ Aside0 (BoxT w' w.heap.size A0 c0 t) ∧ Aside0 (Below w.heap.size w w'))
    case atStart => exact ⟨true, 0, rfl, ⟨by rw [if_pos rfl]; omega⟩, ⟨Nat.zero_le _⟩, ⟨fun h => by cases h⟩, HS0, HT, HB⟩
    case round =>
      clear HS0 HT HB
      obtain ⟨g, n, rfl, HK, HNS, HSTAB, HS, HT, HB⟩ := hrel
      have HSB := Aside0.mk (fun W (hW : Below wr.heap.size wr W) => HS.out.below hW)
      cases g with
      | false =>
        have hcall := pointsThat_calls 142 #[.pointer (some ⟨w.heap.size + 1, 0, none⟩)] entersSP3 (fun p => iterS t (inL l) n p.toNat) wr
          (fun W p hW hd => span3_calls _ _ W (HS.out.below hW) p hd)
        have e : filI 91 (fun p => iterS t (inL l) n p.toNat) = spanS t (inL l) := (spanS_of (Nat.le_trans HNS.out (sizeS_le _)) (HSTAB.out rfl)).symm
        rw [e] at hcall
        have HC := Aside0.mk hcall
        clear hcall e
        go_wp2_with (go_at_call 112; refine HC.out.mono ?_; rintro e w2 ⟨v, rfl, ho, hb⟩; have HO := Aside0.mk ho; have HB2 := Aside0.mk hb; clear ho hb)
        go_ret
        exact ⟨_, rfl, Kd.R_lower HO.out HB.out.size, bstep HB.out HB2.out⟩
      | true =>
        have HC := Aside0.mk (pointsThat_calls 139 #[.pointer (some ⟨w.heap.size + 1, 0, none⟩)] entersSP1 (fun p => iterS t (inL l) n p.toNat) wr
          (fun W p hW hd => span1_calls _ _ W (HS.out.below hW) p hd))
        clear HSTAB
        go_wp2_with fail
        refine HC.out.mono ?_
        rintro e w2 ⟨v, rfl, ho, hb⟩
        obtain ⟨Ao, co, eo⟩ := Kd.R_slice ho
        subst eo
        rw [show filI 91 (fun p => iterS t (inL l) n p.toNat) = ptsS (iterS t (inL l) n) from rfl] at ho ⊢
        obtain ⟨s, hs⟩ : ∃ s, iterS t (inL l) n = s := ⟨_, rfl⟩
        have HSN := Aside0.mk hs
        rw [hs] at ho HS HSB HK HNS ⊢
        have HKT := Aside0.mk (show 93 - (sizeS s : Int) ≤ (gk : Int) from by have := HK.out; simpa using this)
        clear HK
        have HO := Aside0.mk ho
        have HB2 := Aside0.mk hb
        have hcn : (w2.alloc (.cells #[.slice none 0 0] 23)).cell? ⟨w2.heap.size, 0, none⟩ = some (.slice none 0 0) := World.cell?_alloc_new w2 _ _ 0
        have hfn : (w2.alloc (.cells #[.slice none 0 0] 23)).frozen? ⟨w2.heap.size, 0, none⟩ = false := World.frozen?_alloc_new w2 _ _ 0
        obtain ⟨P, hP⟩ : ∃ P, ptsS s = P := ⟨_, rfl⟩
        have HP := Aside0.mk hP
        rw [hP] at HO ⊢
        clear ho hb HC hs hP
        go_wp2_with fail
        have hbW : Below w2.heap.size w2 (w2.alloc (.cells #[.slice Ao P.length co] 23)) := (Below.refl _ _).alloc (Nat.le_refl _) _
        have hcW : (w2.alloc (.cells #[.slice Ao P.length co] 23)).cell? ⟨w2.heap.size, 0, none⟩ = some (.slice Ao P.length co) := World.cell?_alloc_new w2 _ _ 0
        generalize w2.alloc (.cells #[.slice Ao P.length co] 23) = W at hbW hcW ⊢
        have HBW := Aside0.mk (bstep HB2.out hbW)
        have HX := Aside0.mk (show BoxT W w2.heap.size Ao co P from ⟨hcW, Kd.C_below (Kd.R_reads' HO.out).2.2 hbW⟩)
        have HT3 := Aside0.mk (HT.out.below HBW.out)
        clear hbW hcW hcn hfn HB2 HO HSB
        have hcall := pointsThat_calls 140 #[.pointer (some ⟨w2.heap.size, 0, none⟩), .pointer (some ⟨w.heap.size, 0, none⟩)] entersSP2 (fun x => decide (1 < (cntL t P x : Int))) W
          (fun V x hV hd => span2_calls _ _ A0 Ao c0 co t P V (HX.out.below hV) (HT3.out.below hV) hc0 HN.out (fun y hy => by rw [← HP.out] at hy; have := mem_filI.1 hy; exact ⟨this.1, this.2.1⟩) (by rw [← HP.out]; exact filI_length_le _ _) x hd)
        have e : filI 91 (fun x => decide (1 < (cntL t P x : Int))) = linesS t s := by unfold linesS; rw [HP.out]
        rw [e] at hcall
        have HC := Aside0.mk hcall
        clear hcall e
        refine HC.out.mono ?_
        rintro e w4 ⟨v, rfl, ho, hb⟩
        obtain ⟨Al, cl, eo⟩ := Kd.R_slice ho
        subst eo
        have HO := Aside0.mk ho
        have HLT : w.heap.size + 1 < W.heap.size := Nat.lt_of_lt_of_le HS.out.lt HBW.out.size
        have HOR := Aside0.mk (Kd.R_mono (ok' := fun k => k ≠ w.heap.size + 1) (Kd.R_bound ho) (fun k hk => by have := hk.2.1; omega))
        clear HLT
        have HB4 := Aside0.mk (bstep HBW.out hb)
        have HB5 := Aside0.mk (bstep HB.out HB4.out)
        have HT5 := Aside0.mk (HT.out.below HB4.out)
        have HS5 := Aside0.mk (HS.out.below HB4.out)
        clear HC ho hb HBW HX HT3 HB HT HS HP
        go_wp2
        go_loopg [8, 33] 92 (fun kq v8 v33 w' => ∃ (g : Bool) (i : Int), v8 = .bool g ∧ v33 = .int .i64 i ∧ Aside0 (0 ≤ i ∧ i ≤ (linesS t s).length) ∧ Aside0 (((linesS t s).length : Int) - i ≤ kq) ∧ Aside0 (g = true ↔ moreS s (curS t (linesS t s) s i 0)) ∧ Aside0 (Arr w' (w.heap.size + 1) 79 91 (curS t (linesS t s) s i 0)) ∧ Aside0 (BoxT w' w.heap.size A0 c0 t) ∧ Aside0 (Below w.heap.size w w') ∧ Aside0 (Kd.R (Kd.int .i64) 3 w' W.heap.size (fun k => k ≠ w.heap.size + 1) (.slice Al (linesS t s).length cl) (linesS t s)))
        case atStart => exact ⟨false, 0, rfl, rfl, ⟨by omega⟩, ⟨by have := filI_length_le 91 (fun l => decide (1 < (cntL t (ptsS s) l : Int))); unfold linesS; omega⟩, ⟨⟨fun h => (by cases h), fun h => absurd h (more_start _ _ _)⟩⟩, ⟨HS5.out.congr fun j hj => (curS_start _ _ _ _).symm⟩, HT5, HB5, HOR⟩
        case round =>
          have hcap : (linesS t s).length ≤ cl := (Kd.R_reads' HO.out).2.1
          clear HS5 HT5 HB5 HO HB4 HOR
          obtain ⟨g, i, rfl, rfl, HI, HK3, HG, HS, HT, HB, HLC⟩ := hrel
          have i0 : 0 ≤ i := HI.out.1
          by_cases c6 : i < ((linesS t s).length : Int)
          case neg =>
            have hi : i = ((linesS t s).length : Int) := by have := HI.out; omega
            subst hi
            cases g with
            | true =>
              have hm := HG.out.1 rfl
              have HSZ2 := Aside0.mk (size_step hm)
              have HIT := Aside0.mk (show iterS t (inL l) (n + 1) = stepS t s by show stepS t (iterS t (inL l) n) = _; rw [HSN.out])
              clear hm hcap
              go_wp2
              go_roundg (93 - sizeS (stepS t s))
              case measure => have := HKT.out; have := HSZ2.out; have := sizeS_le (stepS t s); omega
              case rel => exact ⟨true, n + 1, rfl, ⟨by rw [HIT.out, if_pos rfl]; omega⟩, ⟨by rw [HIT.out]; have := HSZ2.out; have := HNS.out; omega⟩, ⟨fun h => by cases h⟩, ⟨by rw [HIT.out]; exact HS.out.congr fun j hj => curS_end t s j⟩, HT, HB⟩
            | false =>
              have hm : ¬ moreS s (curS t (linesS t s) s (linesS t s).length 0) := fun h => by have := HG.out.2 h; cases this
              have HST := Aside0.mk (still_of hm)
              clear hm hcap
              go_wp2
              go_roundg 0
              case measure => have := HKT.out; have := sizeS_le s; omega
              case rel => exact ⟨false, n, rfl, ⟨by simp⟩, ⟨by rw [HSN.out]; exact HNS.out⟩, ⟨fun _ => by rw [HSN.out]; exact HST.out⟩, ⟨by rw [HSN.out]; exact HS.out.congr fun j hj => by rw [curS_end]; exact HST.out j hj⟩, HT, HB⟩
          case pos =>
          obtain ⟨adl, e1, g1⟩ := Kd.at_int (Kd.R_reads' HLC.out).2.2 i i0 c6
          subst e1
          have hic : i ≤ (cl : Int) := by omega
          have HI2 := Aside0.mk hic
          have HC6 := Aside0.mk c6
          have hii : ((i.toNat : Nat) : Int) = i := Int.toNat_of_nonneg i0
          obtain ⟨x, hx⟩ : ∃ x, rd (linesS t s) i = x := ⟨_, rfl⟩
          rw [hx] at g1
          have HXE := Aside0.mk hx
          clear hx
          go_wp2
          go_loopg [8, 42] 92 (fun kq v8 v42 w' => ∃ (g : Bool) (k : Int), v8 = .bool g ∧ v42 = .int .i64 k ∧ Aside0 (0 ≤ k ∧ k ≤ i) ∧ Aside0 (i - k ≤ kq) ∧ Aside0 (g = true ↔ moreS s (curS t (linesS t s) s i k)) ∧ Aside0 (Arr w' (w.heap.size + 1) 79 91 (curS t (linesS t s) s i k)) ∧ Aside0 (BoxT w' w.heap.size A0 c0 t) ∧ Aside0 (Below w.heap.size w w') ∧ Aside0 (Kd.R (Kd.int .i64) 3 w' W.heap.size (fun k => k ≠ w.heap.size + 1) (.slice (some adl) (linesS t s).length cl) (linesS t s)))
          case atStart => exact ⟨g, 0, rfl, rfl, ⟨by omega⟩, ⟨by have := filI_length_le 91 (fun l => decide (1 < (cntL t (ptsS s) l : Int))); have h2 : (linesS t s).length ≤ 91 := this; omega⟩, HG, HS, HT, HB, HLC⟩
          case round =>
            clear HG HS HT HB HLC
            obtain ⟨g, k, rfl, rfl, KI, KK, HG, HS, HT, HB, HLC⟩ := hrel
            have k0 : 0 ≤ k := KI.out.1
            by_cases c7 : k < i
            case neg =>
              have c8 : ¬ k < ((i.toNat : Nat) : Int) := by omega
              have hk : k = i := by have := KI.out; omega
              subst hk
              have zi : IntKind.i64.wrap (k + 1) = k + 1 := by rw [IntKind.wrap_i64]; have h2 : (linesS t s).length ≤ 91 := filI_length_le _ _; omega
              go_wp2
              go_roundg ((linesS t s).length - (k.toNat + 1))
              case measure => have := HK3.out; have := HC6.out; omega
              case rel => exact ⟨g, k + 1, rfl, rfl, ⟨by have := HC6.out; omega⟩, ⟨by have := HC6.out; omega⟩, ⟨HG.out.trans (more_congr fun x _ => (curS_i t (linesS t s) s k0 x).symm)⟩, ⟨HS.out.congr fun x _ => (curS_i t (linesS t s) s k0 x).symm⟩, HT, HB, HLC⟩
            case pos =>
            have c8 : k < ((i.toNat : Nat) : Int) := by omega
            have h2 : (linesS t s).length ≤ 91 := filI_length_le _ _
            have zi : IntKind.i64.wrap (k + 1) = k + 1 := by rw [IntKind.wrap_i64]; omega
            obtain ⟨adl', e1, g2⟩ := Kd.at_int (Kd.R_reads' HLC.out).2.2 k k0 (by have := HC6.out; omega)
            cases e1
            have hcell := HT.out.cell
            obtain ⟨p0, p1⟩ := meet_in HSY.out k0 c7 HC6.out
            have HM := Aside0.mk (meet_calls A0 c0 t (rd (linesS t s) i) (rd (linesS t s) k) wr HT.out.read hc0 HN.out (linesS_rd i0 HC6.out) (linesS_rd k0 (by have := HC6.out; omega)))
            obtain ⟨p, hp⟩ : ∃ p, meetI t (rd (linesS t s) i) (rd (linesS t s) k) = p := ⟨_, rfl⟩
            rw [hp] at p0 p1 HM
            have HPE := Aside0.mk hp
            have hbit := HS.out.cell p.toNat (by omega)
            have hfz := HS.out.frozen p.toNat
            clear hp h2
            obtain ⟨y, hy⟩ : ∃ y, rd (linesS t s) k = y := ⟨_, rfl⟩
            rw [HXE.out, hy] at HM
            rw [hy] at g2
            clear hy
            by_cases hb : curS t (linesS t s) s i k p.toNat = true
            case pos =>
              rw [hb] at hbit
              have HBI := Aside0.mk hb
              clear hb
              go_wp2_with (go_at_call 141; refine HM.out.mono ?_; rintro e w' ⟨rfl, ⟨nd, rfl⟩⟩)
              go_roundg (i.toNat - (k.toNat + 1))
              case measure => have := KK.out; omega
              case rel =>
                have ho := fun x => cur_hit_old (t := t) (L := linesS t s) (s := s) (i := i) k0 p0 HPE.out HBI.out x
                exact ⟨g, k + 1, rfl, rfl, ⟨by omega⟩, ⟨by omega⟩, ⟨HG.out.trans (more_congr fun x _ => ho x)⟩, ⟨(HS.out.below (Drawn0.below ⟨⟨_, rfl⟩⟩)).congr fun x _ => ho x⟩, ⟨HT.out.below (Drawn0.below ⟨⟨_, rfl⟩⟩)⟩, ⟨pw_below_drewN HB.out _⟩, ⟨Kd.R_drewN HLC.out _⟩⟩
            case neg =>
              have hb := Bool.eq_false_iff.2 hb
              rw [hb] at hbit
              have HBI := Aside0.mk hb
              clear hb
              have HS6 := Aside0.mk (fun nd => ((HS.out.below (Drawn0.below ⟨⟨nd, rfl⟩⟩)).set p.toNat true).congr (s' := curS t (linesS t s) s i (k + 1)) fun x _ => (curS_hit t (linesS t s) s i k0 p0 HPE.out x).symm)
              have HB6 := Aside0.mk (fun nd => (pw_below_drewN HB.out nd).setCell (p := ⟨w.heap.size + 1, p.toNat, none⟩) (Nat.le_succ _) (.bool true))
              go_wp2_with (go_at_call 141; refine HM.out.mono ?_; rintro e w' ⟨rfl, ⟨nd, rfl⟩⟩)
              go_roundg (i.toNat - (k.toNat + 1))
              case measure => have := KK.out; omega
              case rel =>
                have hmore : moreS s (curS t (linesS t s) s i (k + 1)) := by
                  refine ⟨p.toNat, by omega, by rw [curS_hit t (linesS t s) s i k0 p0 HPE.out, if_pos rfl], ?_⟩
                  cases h : s p.toNat with
                  | false => rfl
                  | true => have := curS_old t (linesS t s) s i k p.toNat h; rw [HBI.out] at this; cases this
                exact ⟨true, k + 1, rfl, rfl, ⟨by omega⟩, ⟨by omega⟩, ⟨⟨fun _ => hmore, fun _ => rfl⟩⟩, ⟨HS6.out _⟩, ⟨⟨by rw [World.cell?_setCell_far _ _ _ _ (by simp)]; exact (HT.out.below (Drawn0.below ⟨⟨_, rfl⟩⟩)).cell, Kd.C_below HRT.out (HB6.out _)⟩⟩, ⟨HB6.out _⟩, ⟨Kd.R_far (Kd.R_drewN HLC.out _) (fun k hk => hk) _⟩⟩

end Go.Proofs.Ytcbkoecanldlpaa.X

set_option linter.unusedVariables false
set_option linter.unusedSimpArgs false
namespace Go.Proofs.Ytcbkoecanldlpaa.X
open Go.RowKit Go.Proofs.YtcbkoecanldlpaaW.PrintWords Go.Proofs.YtcbkoecanldlpaaW.PrintLast Go.Proofs.Ytcbkoecanldlpaa.P

def spanOk (t l : List Int) : Bool := sysB t && (decide (l.length ≤ 10) && l.all ptB)
def spanR (t l : List Int) : List Int × Bool := if spanOk t l = true then (spanS t (inL l), true) else ([], false)
theorem entersSO1 : Eg 81 := enters_of Try.func81 (by kernel_rfl) rfl
set_option maxHeartbeats 1000000 in
theorem spanOf1_calls (p : Int) (w : World) :
    Calls Try.prog 81 #[.int .i64 p] w fun e w' => e = .returned (.bool (!ptB p)) ∧ Below w.heap.size w w' := by
  have HC := Aside0.mk (isPoint_calls p w)
  go_enter Try.func81, Try.ntmps81
  go_wp2_with (go_at_call 73; refine HC.out.mono ?_; rintro e w' ⟨rfl, ⟨nd, rfl⟩⟩)
  go_ret
  exact ⟨rfl, Drawn0.below ⟨⟨_, rfl⟩⟩⟩
theorem any_not_all (l : List Int) : (l.any fun p => !ptB p) = !l.all ptB := by
  induction l with
  | nil => rfl
  | cons a l ih => simp [ih]
set_option maxRecDepth 100000 in
set_option maxHeartbeats 4000000 in
theorem spanOf_yes (A0 : Option Addr) (c0 : Nat) (t : List Int) (A1 : Option Addr) (c1 : Nat) (l : List Int) (w : World) (hr : Kd.C (Kd.int .i64) w A0 t.length t) (hc0 : t.length ≤ c0) (hr1 : Kd.C (Kd.int .i64) w A1 l.length l) (h : spanOk t l = true) :
    Calls Try.prog 29 #[.slice A0 t.length c0, .slice A1 l.length c1] w fun e w' => ∃ v : Value, e = .returned (.tuple #[v, .bool true]) ∧ Kd.R (Kd.int .i64) 3 w' w.heap.size (fun _ => True) v (spanS t (inL l)) ∧ Below w.heap.size w w' := by
  unfold spanOk at h
  simp only [Bool.and_eq_true, decide_eq_true_eq] at h
  obtain ⟨hs, hlen, hall⟩ := h
  have hcall := isSystem_calls A0 c0 t w hr
  rw [hs] at hcall
  have HC := Aside0.mk hcall
  have HR := Aside0.mk hr
  have HR1 := Aside0.mk hr1
  have HS := Aside0.mk hs
  have HA := Aside0.mk hall
  have d1 : decide (10 < (l.length : Int)) = false := decide_eq_false (by omega)
  clear hcall hr hr1 hs hall hlen
  go_enter Try.func29, Try.ntmps29
  go_wp2_with fail
  refine HC.out.mono ?_
  rintro e w1 ⟨rfl, hb1⟩
  have hcall := containsFunc_calls 81 #[] entersSO1 (fun p => !ptB p) A1 c1 l w1 (Kd.C_below HR1.out hb1) (fun V x _ _ => spanOf1_calls x V)
  rw [any_not_all, HA.out] at hcall
  have HC2 := Aside0.mk hcall
  have HB1 := Aside0.mk hb1
  clear hcall hb1 HC
  go_wp2_with fail
  refine HC2.out.mono ?_
  rintro e w2 ⟨rfl, hb2⟩
  have HB2 := Aside0.mk (bstep HB1.out hb2)
  clear hb2 HC2 HB1
  have HC3 := Aside0.mk (span_calls A0 c0 t A1 c1 l w2 (Kd.C_below HR.out HB2.out) hc0 (Kd.C_below HR1.out HB2.out) HS.out (fun x hx => ptB_iff.1 (List.all_eq_true.1 HA.out x hx)))
  go_wp2_with (go_at_call 82; refine HC3.out.mono ?_; rintro e w3 ⟨v, rfl, ho, hb⟩; have HO := Aside0.mk ho; have HB3 := Aside0.mk hb; clear ho hb)
  go_ret2
  exact ⟨_, rfl, Kd.R_lower HO.out HB2.out.size, bstep HB2.out HB3.out⟩
set_option maxRecDepth 100000 in
set_option maxHeartbeats 4000000 in
theorem spanOf_no (A0 : Option Addr) (c0 : Nat) (t : List Int) (A1 : Option Addr) (c1 : Nat) (l : List Int) (w : World) (hr : Kd.C (Kd.int .i64) w A0 t.length t) (hc0 : t.length ≤ c0) (hr1 : Kd.C (Kd.int .i64) w A1 l.length l) (h : spanOk t l = false) :
    Calls Try.prog 29 #[.slice A0 t.length c0, .slice A1 l.length c1] w fun e w' => e = .returned (.tuple #[.slice none 0 0, .bool false]) ∧ Below w.heap.size w w' := by
  have hcall := isSystem_calls A0 c0 t w hr
  have HR1 := Aside0.mk hr1
  clear hr hr1
  unfold spanOk at h
  by_cases hs : sysB t = true
  case neg =>
    rw [Bool.eq_false_iff.2 hs] at hcall
    have HC := Aside0.mk hcall
    clear hcall hs h
    go_enter Try.func29, Try.ntmps29
    go_wp2_with (go_at_call 61; refine HC.out.mono ?_; rintro e w' ⟨rfl, hb⟩)
    go_ret2
    exact ⟨rfl, hb⟩
  case pos =>
  rw [hs] at hcall h
  have HC := Aside0.mk hcall
  clear hcall hs
  by_cases hl : l.length ≤ 10
  case neg =>
    have d1 : decide (10 < (l.length : Int)) = true := decide_eq_true (by omega)
    clear h hl
    go_enter Try.func29, Try.ntmps29
    go_wp2_with (go_at_call 61; refine HC.out.mono ?_; rintro e w' ⟨rfl, hb⟩)
    go_ret2
    exact ⟨rfl, hb⟩
  case pos =>
  have d1 : decide (10 < (l.length : Int)) = false := decide_eq_false (by omega)
  have HA := Aside0.mk (show l.all ptB = false by rw [decide_eq_true hl] at h; simpa using h)
  clear h hl
  go_enter Try.func29, Try.ntmps29
  go_wp2_with fail
  refine HC.out.mono ?_
  rintro e w1 ⟨rfl, hb1⟩
  have hcall := containsFunc_calls 81 #[] entersSO1 (fun p => !ptB p) A1 c1 l w1 (Kd.C_below HR1.out hb1) (fun V x _ _ => spanOf1_calls x V)
  rw [any_not_all, HA.out] at hcall
  have HC2 := Aside0.mk hcall
  have HB1 := Aside0.mk hb1
  clear hcall hb1 HC
  go_wp2_with (go_at_call 80; refine HC2.out.mono ?_; rintro e w2 ⟨rfl, hb2⟩)
  go_ret2
  exact ⟨rfl, bstep HB1.out hb2⟩

end Go.Proofs.Ytcbkoecanldlpaa.X
namespace Go.Proofs.Ytcbkoecanldlpaa.P
open Go.RowKit Go.Proofs.YtcbkoecanldlpaaW.PrintWords Go.Proofs.YtcbkoecanldlpaaW.PrintLast
def impl_SpanOf.f (l0 l1 : List Int) : Option (List Int × Bool) := some (X.spanR l0 l1)
theorem impl_SpanOf.calls (A0 : Option Addr) (c0 : Nat) (l0 : List Int) (A1 : Option Addr) (c1 : Nat) (l1 : List Int) (r1 : List Int) (r2 : Bool) (w : World) (hr0 : Kd.C (Kd.int .i64) w A0 l0.length l0) (hc0 : l0.length ≤ c0) (hr1 : Kd.C (Kd.int .i64) w A1 l1.length l1) (hc1 : l1.length ≤ c1) (h : impl_SpanOf.f l0 l1 = some (r1, r2)) :
    Calls Try.prog 29 #[.slice A0 l0.length c0, .slice A1 l1.length c1] w fun e w' => ∃ v0_ : Value, e = .returned (.tuple #[v0_, .bool r2]) ∧ Kd.R (Kd.int .i64) 3 w' w.heap.size (fun _ => True) v0_ r1 ∧ Below w.heap.size w w' := by
  unfold impl_SpanOf.f X.spanR at h
  by_cases hc : X.spanOk l0 l1 = true
  · rw [if_pos hc] at h
    injection h with h
    injection h with h1 h2
    subst h1; subst h2
    exact X.spanOf_yes A0 c0 l0 A1 c1 l1 w hr0 hc0 hr1 hc
  · rw [if_neg hc] at h
    injection h with h
    injection h with h1 h2
    subst h1; subst h2
    exact (X.spanOf_no A0 c0 l0 A1 c1 l1 w hr0 hc0 hr1 (Bool.eq_false_iff.2 hc)).mono fun e w' ⟨he, hb⟩ => ⟨_, he, Kd.R_nil _ _ _ _ _, hb⟩
end Go.Proofs.Ytcbkoecanldlpaa.P

namespace Go.Proofs.Ytcbkoecanldlpaa.P
open Go.RowKit Go.Proofs.YtcbkoecanldlpaaW.PrintWords Go.Proofs.YtcbkoecanldlpaaW.PrintLast
set_option linter.unusedVariables false
set_option linter.unusedSimpArgs false

/-! ### laws_FnSpan: function 7 -/
mutual
def laws_FnSpan.j0 : Nat → List Int → List Int → List Int → Bool → List Int → Bool → Bool → Option (Bool)
 | 0, _, _, _, _, _, _, _ => none
 | k + 1, x3, x4, x5, x6, x7, x8, x46 => if x46 = true then (if (x6 == x8) = true then ((laws_sameInts.f k x5 x7).bind fun t572 => (some t572)) else (some false)) else (if 91 ≤ 281474976710656 then (laws_FnSpan.l0 k x3 x4 x5 (List.replicate 91 false) 0) else (none))
def laws_FnSpan.l0 : Nat → List Int → List Int → List Int → List Bool → Int → Option (Bool)
 | 0, _, _, _, _, _ => none
 | k + 1, x3, x4, x5, x9, x10 => if x10 < (x5.length : Int) then (if x10 > 0 then (if 0 ≤ x10 then (if 0 ≤ (wrap64 (x10 - 1)) then (if (wrap64 (x10 - 1)) < (x5.length : Int) then (if (rd x5 x10) ≤ (rd x5 (wrap64 (x10 - 1))) then (some false) else (if 0 ≤ (rd x5 x10) then (if (rd x5 x10) < (x9.length : Int) then (laws_FnSpan.l0 k x3 x4 x5 (x9.set ((rd x5 x10) : Int).toNat true) (wrap64 (x10 + 1))) else (none)) else (none))) else (none)) else (none)) else (none)) else (if 0 ≤ x10 then (if 0 ≤ (rd x5 x10) then (if (rd x5 x10) < (x9.length : Int) then (laws_FnSpan.l0 k x3 x4 x5 (x9.set ((rd x5 x10) : Int).toNat true) (wrap64 (x10 + 1))) else (none)) else (none)) else (none))) else (laws_FnSpan.l1 k x3 x4 x9 0)
def laws_FnSpan.l1 : Nat → List Int → List Int → List Bool → Int → Option (Bool)
 | 0, _, _, _, _ => none
 | k + 1, x3, x4, x9, x11 => if x11 < (x4.length : Int) then (if 0 ≤ x11 then (if 0 ≤ (rd x4 x11) then (if (rd x4 x11) < (x9.length : Int) then (if (rdOf false x9 (rd x4 x11) = true) then (laws_FnSpan.l1 k x3 x4 x9 (wrap64 (x11 + 1))) else (some false)) else (none)) else (none)) else (none)) else ((impl_QuadPoints.f k x3 x4).bind fun bt584 => (if bt584.2 = true then (if 0 < (bt584.1.length : Int) then (if 0 ≤ (rd bt584.1 0) then (if (rd bt584.1 0) < (x9.length : Int) then (if rdOf false x9 (rd bt584.1 0) = true then (if 1 < (bt584.1.length : Int) then (if 0 ≤ (rd bt584.1 1) then (if (rd bt584.1 1) < (x9.length : Int) then (if rdOf false x9 (rd bt584.1 1) = true then (if 2 < (bt584.1.length : Int) then (if 0 ≤ (rd bt584.1 2) then (if (rd bt584.1 2) < (x9.length : Int) then (some (rdOf false x9 (rd bt584.1 2))) else (none)) else (none)) else (none)) else (some false)) else (none)) else (none)) else (none)) else (some false)) else (none)) else (none)) else (none)) else (some true)))
end
def laws_FnSpan.f (k : Nat) (l0 : List Int) : Option (Bool) := if (l0.length : Int) > 1048576 then (some true) else ((spec_DrawSpanOf.f k l0).bind fun bt557 => ((impl_SpanOf.f bt557.1 bt557.2).bind fun bt563 => ((spec_SpanOf.f k bt557.1 bt557.2).bind fun bt567 => (if (bt563.2 != bt567.2) = true then (laws_FnSpan.j0 k bt557.1 bt557.2 bt563.1 bt563.2 bt567.1 bt567.2 true) else ((laws_sameInts.f k bt563.1 bt567.1).bind fun t571 => (if t571 = true then (laws_FnSpan.j0 k bt557.1 bt557.2 bt563.1 bt563.2 bt567.1 bt567.2 (!bt563.2)) else (laws_FnSpan.j0 k bt557.1 bt557.2 bt563.1 bt563.2 bt567.1 bt567.2 true)))))))
set_option maxHeartbeats 8000000 in
set_option maxRecDepth 100000 in
theorem laws_FnSpan.calls (k : Nat) (A0 : Option Addr) (c0 : Nat) (l0 : List Int) (r : Bool) (w : World) (hr0 : Kd.C (Kd.int .u8) w A0 l0.length l0) (hc0 : l0.length ≤ c0) (h : laws_FnSpan.f k l0 = some r) :
  Calls Try.prog 7 #[.slice A0 l0.length c0] w fun e w' => e = .returned (.bool r) ∧ Below w.heap.size w w' := by
 have HR0 := Aside0.mk hr0
 have HC0 := Aside0.mk hc0
 clear hr0 hc0
 have HB := Aside0.mk (Below.refl w.heap.size w)
 have H : (if (l0.length : Int) > 1048576 then (some true) else ((spec_DrawSpanOf.f k l0).bind fun bt557 => ((impl_SpanOf.f bt557.1 bt557.2).bind fun bt563 => ((spec_SpanOf.f k bt557.1 bt557.2).bind fun bt567 => (if (bt563.2 != bt567.2) = true then (laws_FnSpan.j0 k bt557.1 bt557.2 bt563.1 bt563.2 bt567.1 bt567.2 true) else ((laws_sameInts.f k bt563.1 bt567.1).bind fun t571 => (if t571 = true then (laws_FnSpan.j0 k bt557.1 bt557.2 bt563.1 bt563.2 bt567.1 bt567.2 (!bt563.2)) else (laws_FnSpan.j0 k bt557.1 bt557.2 bt563.1 bt563.2 bt567.1 bt567.2 true)))))))) = some r := h
 clear h
 by_cases c2 : (l0.length : Int) > 1048576
 ·rw [if_pos c2] at H
  have c2b0 : decide (1048576 < (l0.length : Int)) = true := decide_eq_true c2
  have c2b1 : decide (1048576 < l0.length) = true := decide_eq_true (by omega)
  clear c2
  obtain rfl := Option.some.inj H
  go_enter Try.func7, Try.ntmps7
  go_wp2
  repeat (go_quiet (fail); try go_wp2)
  go_ret
  exact ⟨by first | rfl | (simp [errW_none, errW_some] <;> rfl) | (simp [*, errW_none, errW_some] <;> rfl), by repeat (first | (with_reducible first | exact HB.out | apply below_alloc | apply pw_below_drewN | apply below_drew1) | exact HB.out)⟩
 ·rw [if_neg c2] at H
  have c2b0 : decide (1048576 < (l0.length : Int)) = false := decide_eq_false c2
  have c2b1 : decide (1048576 < l0.length) = false := decide_eq_false (by omega)
  clear c2
  replace H := Option.bind_eq_some_iff.mp H
  obtain ⟨⟨t557, t558⟩, A30, H⟩ := H
  replace H : ((impl_SpanOf.f t557 t558).bind fun bt563 => ((spec_SpanOf.f k t557 t558).bind fun bt567 => (if (bt563.2 != bt567.2) = true then (laws_FnSpan.j0 k t557 t558 bt563.1 bt563.2 bt567.1 bt567.2 true) else ((laws_sameInts.f k bt563.1 bt567.1).bind fun t571 => (if t571 = true then (laws_FnSpan.j0 k t557 t558 bt563.1 bt563.2 bt567.1 bt567.2 (!bt563.2)) else (laws_FnSpan.j0 k t557 t558 bt563.1 bt563.2 bt567.1 bt567.2 true)))))) = some r := H
  have A3 := Aside0.mk A30
  clear A30
  replace H := Option.bind_eq_some_iff.mp H
  obtain ⟨⟨t563, t564⟩, A40, H⟩ := H
  replace H : ((spec_SpanOf.f k t557 t558).bind fun bt567 => (if (t564 != bt567.2) = true then (laws_FnSpan.j0 k t557 t558 t563 t564 bt567.1 bt567.2 true) else ((laws_sameInts.f k t563 bt567.1).bind fun t571 => (if t571 = true then (laws_FnSpan.j0 k t557 t558 t563 t564 bt567.1 bt567.2 (!t564)) else (laws_FnSpan.j0 k t557 t558 t563 t564 bt567.1 bt567.2 true))))) = some r := H
  have A4 := Aside0.mk A40
  clear A40
  replace H := Option.bind_eq_some_iff.mp H
  obtain ⟨⟨t567, t568⟩, A50, H⟩ := H
  replace H : (if (t564 != t568) = true then (laws_FnSpan.j0 k t557 t558 t563 t564 t567 t568 true) else ((laws_sameInts.f k t563 t567).bind fun t571 => (if t571 = true then (laws_FnSpan.j0 k t557 t558 t563 t564 t567 t568 (!t564)) else (laws_FnSpan.j0 k t557 t558 t563 t564 t567 t568 true)))) = some r := H
  have A5 := Aside0.mk A50
  clear A50
  have HC6 := Aside0.mk H
  clear H
  go_enter Try.func7, Try.ntmps7
  go_upto_region 6 with (first | (go_at_call 28; (with_reducible refine (spec_DrawSpanOf.calls k _ _ l0 t557 t558 _ ?side1 ?side2 A3.out).mono ?_); (case side1 => repeat (first | exact HR0.out | (with_reducible refine Kd.C_alloc ?_ _) | (with_reducible refine Kd.C_drewN ?_ _) | (with_reducible refine Kd.C_drew ?_))); (case side2 => exact HC0.out); rintro e w7 ⟨v559, v561, rfl, ho0, ho1, hb⟩; have n0_ := Aside0.mk (Kd.R_lower ho0 (below_size (by repeat (first | (with_reducible first | exact HB.out | apply below_alloc | apply pw_below_drewN | apply below_drew1) | exact HB.out)))); have n1_ := Aside0.mk (Kd.R_lower ho1 (below_size (by repeat (first | (with_reducible first | exact HB.out | apply below_alloc | apply pw_below_drewN | apply below_drew1) | exact HB.out)))); have n2_ := Aside0.mk (below_step (by repeat (first | (with_reducible first | exact HB.out | apply below_alloc | apply pw_below_drewN | apply below_drew1) | exact HB.out)) hb); clear HB; have HO560 := n0_; have HO562 := n1_; have HB := n2_; clear n0_ n1_ n2_; (try clear hb); (try clear hb2); (try clear hk); (try clear hi); (try clear ho0); (try clear ho1); obtain ⟨Ao8, co8, eo8⟩ := Kd.R_slice HO560.out; subst eo8; obtain ⟨Ao9, co9, eo9⟩ := Kd.R_slice HO562.out; subst eo9) | (go_at_call 29; (with_reducible refine (impl_SpanOf.calls _ _ t557 _ _ t558 t563 t564 _ ?side1 ?side2 ?side3 ?side4 A4.out).mono ?_); (case side1 => repeat (first | exact (Kd.R_reads' HO560.out).2.2 | (with_reducible refine Kd.C_alloc ?_ _) | (with_reducible refine Kd.C_drewN ?_ _) | (with_reducible refine Kd.C_drew ?_))); (case side2 => exact (Kd.R_reads' HO560.out).2.1); (case side3 => repeat (first | exact (Kd.R_reads' HO562.out).2.2 | (with_reducible refine Kd.C_alloc ?_ _) | (with_reducible refine Kd.C_drewN ?_ _) | (with_reducible refine Kd.C_drew ?_))); (case side4 => exact (Kd.R_reads' HO562.out).2.1); rintro e w10 ⟨v565, rfl, ho0, hb⟩; have n0_ := Aside0.mk (Kd.R_elder' (by (with_reducible repeat (first | apply Kd.R_alloc | apply Kd.R_drewN | apply Kd.R_drew)); exact HO560.out) (Kd.R_base ho0) hb); have n1_ := Aside0.mk (Kd.R_elder' (by (with_reducible repeat (first | apply Kd.R_alloc | apply Kd.R_drewN | apply Kd.R_drew)); exact HO562.out) (Kd.R_base ho0) hb); have n2_ := Aside0.mk (Kd.R_lower (Kd.R_new' (Kd.R_new' ho0 (Kd.R_lt (by (with_reducible repeat (first | apply Kd.R_alloc | apply Kd.R_drewN | apply Kd.R_drew)); exact HO560.out))) (Kd.R_lt (by (with_reducible repeat (first | apply Kd.R_alloc | apply Kd.R_drewN | apply Kd.R_drew)); exact HO562.out))) (below_size (by repeat (first | (with_reducible first | exact HB.out | apply below_alloc | apply pw_below_drewN | apply below_drew1) | exact HB.out)))); have n3_ := Aside0.mk (below_step (by repeat (first | (with_reducible first | exact HB.out | apply below_alloc | apply pw_below_drewN | apply below_drew1) | exact HB.out)) hb); clear HO560; clear HO562; clear HB; have HO560 := n0_; have HO562 := n1_; have HO566 := n2_; have HB := n3_; clear n0_ n1_ n2_ n3_; (try clear hb); (try clear hb2); (try clear hk); (try clear hi); (try clear ho0)) | (go_at_call 30; (with_reducible refine (spec_SpanOf.calls k _ _ t557 _ _ t558 t567 t568 _ ?side1 ?side2 ?side3 ?side4 A5.out).mono ?_); (case side1 => repeat (first | exact (Kd.R_reads' HO560.out).2.2 | (with_reducible refine Kd.C_alloc ?_ _) | (with_reducible refine Kd.C_drewN ?_ _) | (with_reducible refine Kd.C_drew ?_))); (case side2 => exact (Kd.R_reads' HO560.out).2.1); (case side3 => repeat (first | exact (Kd.R_reads' HO562.out).2.2 | (with_reducible refine Kd.C_alloc ?_ _) | (with_reducible refine Kd.C_drewN ?_ _) | (with_reducible refine Kd.C_drew ?_))); (case side4 => exact (Kd.R_reads' HO562.out).2.1); rintro e w11 ⟨v569, rfl, ho0, hb⟩; have n0_ := Aside0.mk (Kd.R_elder' (by (with_reducible repeat (first | apply Kd.R_alloc | apply Kd.R_drewN | apply Kd.R_drew)); exact HO560.out) (Kd.R_base ho0) hb); have n1_ := Aside0.mk (Kd.R_elder' (by (with_reducible repeat (first | apply Kd.R_alloc | apply Kd.R_drewN | apply Kd.R_drew)); exact HO562.out) (Kd.R_base ho0) hb); have n2_ := Aside0.mk (Kd.R_elder' (by (with_reducible repeat (first | apply Kd.R_alloc | apply Kd.R_drewN | apply Kd.R_drew)); exact HO566.out) (Kd.R_base ho0) hb); have n3_ := Aside0.mk (Kd.R_lower (Kd.R_new' (Kd.R_new' (Kd.R_new' ho0 (Kd.R_lt (by (with_reducible repeat (first | apply Kd.R_alloc | apply Kd.R_drewN | apply Kd.R_drew)); exact HO560.out))) (Kd.R_lt (by (with_reducible repeat (first | apply Kd.R_alloc | apply Kd.R_drewN | apply Kd.R_drew)); exact HO562.out))) (Kd.R_lt (by (with_reducible repeat (first | apply Kd.R_alloc | apply Kd.R_drewN | apply Kd.R_drew)); exact HO566.out))) (below_size (by repeat (first | (with_reducible first | exact HB.out | apply below_alloc | apply pw_below_drewN | apply below_drew1) | exact HB.out)))); have n4_ := Aside0.mk (below_step (by repeat (first | (with_reducible first | exact HB.out | apply below_alloc | apply pw_below_drewN | apply below_drew1) | exact HB.out)) hb); clear HO560; clear HO562; clear HO566; clear HB; have HO560 := n0_; have HO562 := n1_; have HO566 := n2_; have HO570 := n3_; have HB := n4_; clear n0_ n1_ n2_ n3_ n4_; (try clear hb); (try clear hb2); (try clear hk); (try clear hi); (try clear ho0)))
  repeat (go_quiet (first | (go_at_call 28; (with_reducible refine (spec_DrawSpanOf.calls k _ _ l0 t557 t558 _ ?side1 ?side2 A3.out).mono ?_); (case side1 => repeat (first | exact HR0.out | (with_reducible refine Kd.C_alloc ?_ _) | (with_reducible refine Kd.C_drewN ?_ _) | (with_reducible refine Kd.C_drew ?_))); (case side2 => exact HC0.out); rintro e w7 ⟨v559, v561, rfl, ho0, ho1, hb⟩; have n0_ := Aside0.mk (Kd.R_lower ho0 (below_size (by repeat (first | (with_reducible first | exact HB.out | apply below_alloc | apply pw_below_drewN | apply below_drew1) | exact HB.out)))); have n1_ := Aside0.mk (Kd.R_lower ho1 (below_size (by repeat (first | (with_reducible first | exact HB.out | apply below_alloc | apply pw_below_drewN | apply below_drew1) | exact HB.out)))); have n2_ := Aside0.mk (below_step (by repeat (first | (with_reducible first | exact HB.out | apply below_alloc | apply pw_below_drewN | apply below_drew1) | exact HB.out)) hb); clear HB; have HO560 := n0_; have HO562 := n1_; have HB := n2_; clear n0_ n1_ n2_; (try clear hb); (try clear hb2); (try clear hk); (try clear hi); (try clear ho0); (try clear ho1); obtain ⟨Ao8, co8, eo8⟩ := Kd.R_slice HO560.out; subst eo8; obtain ⟨Ao9, co9, eo9⟩ := Kd.R_slice HO562.out; subst eo9) | (go_at_call 29; (with_reducible refine (impl_SpanOf.calls _ _ t557 _ _ t558 t563 t564 _ ?side1 ?side2 ?side3 ?side4 A4.out).mono ?_); (case side1 => repeat (first | exact (Kd.R_reads' HO560.out).2.2 | (with_reducible refine Kd.C_alloc ?_ _) | (with_reducible refine Kd.C_drewN ?_ _) | (with_reducible refine Kd.C_drew ?_))); (case side2 => exact (Kd.R_reads' HO560.out).2.1); (case side3 => repeat (first | exact (Kd.R_reads' HO562.out).2.2 | (with_reducible refine Kd.C_alloc ?_ _) | (with_reducible refine Kd.C_drewN ?_ _) | (with_reducible refine Kd.C_drew ?_))); (case side4 => exact (Kd.R_reads' HO562.out).2.1); rintro e w10 ⟨v565, rfl, ho0, hb⟩; have n0_ := Aside0.mk (Kd.R_elder' (by (with_reducible repeat (first | apply Kd.R_alloc | apply Kd.R_drewN | apply Kd.R_drew)); exact HO560.out) (Kd.R_base ho0) hb); have n1_ := Aside0.mk (Kd.R_elder' (by (with_reducible repeat (first | apply Kd.R_alloc | apply Kd.R_drewN | apply Kd.R_drew)); exact HO562.out) (Kd.R_base ho0) hb); have n2_ := Aside0.mk (Kd.R_lower (Kd.R_new' (Kd.R_new' ho0 (Kd.R_lt (by (with_reducible repeat (first | apply Kd.R_alloc | apply Kd.R_drewN | apply Kd.R_drew)); exact HO560.out))) (Kd.R_lt (by (with_reducible repeat (first | apply Kd.R_alloc | apply Kd.R_drewN | apply Kd.R_drew)); exact HO562.out))) (below_size (by repeat (first | (with_reducible first | exact HB.out | apply below_alloc | apply pw_below_drewN | apply below_drew1) | exact HB.out)))); have n3_ := Aside0.mk (below_step (by repeat (first | (with_reducible first | exact HB.out | apply below_alloc | apply pw_below_drewN | apply below_drew1) | exact HB.out)) hb); clear HO560; clear HO562; clear HB; have HO560 := n0_; have HO562 := n1_; have HO566 := n2_; have HB := n3_; clear n0_ n1_ n2_ n3_; (try clear hb); (try clear hb2); (try clear hk); (try clear hi); (try clear ho0)) | (go_at_call 30; (with_reducible refine (spec_SpanOf.calls k _ _ t557 _ _ t558 t567 t568 _ ?side1 ?side2 ?side3 ?side4 A5.out).mono ?_); (case side1 => repeat (first | exact (Kd.R_reads' HO560.out).2.2 | (with_reducible refine Kd.C_alloc ?_ _) | (with_reducible refine Kd.C_drewN ?_ _) | (with_reducible refine Kd.C_drew ?_))); (case side2 => exact (Kd.R_reads' HO560.out).2.1); (case side3 => repeat (first | exact (Kd.R_reads' HO562.out).2.2 | (with_reducible refine Kd.C_alloc ?_ _) | (with_reducible refine Kd.C_drewN ?_ _) | (with_reducible refine Kd.C_drew ?_))); (case side4 => exact (Kd.R_reads' HO562.out).2.1); rintro e w11 ⟨v569, rfl, ho0, hb⟩; have n0_ := Aside0.mk (Kd.R_elder' (by (with_reducible repeat (first | apply Kd.R_alloc | apply Kd.R_drewN | apply Kd.R_drew)); exact HO560.out) (Kd.R_base ho0) hb); have n1_ := Aside0.mk (Kd.R_elder' (by (with_reducible repeat (first | apply Kd.R_alloc | apply Kd.R_drewN | apply Kd.R_drew)); exact HO562.out) (Kd.R_base ho0) hb); have n2_ := Aside0.mk (Kd.R_elder' (by (with_reducible repeat (first | apply Kd.R_alloc | apply Kd.R_drewN | apply Kd.R_drew)); exact HO566.out) (Kd.R_base ho0) hb); have n3_ := Aside0.mk (Kd.R_lower (Kd.R_new' (Kd.R_new' (Kd.R_new' ho0 (Kd.R_lt (by (with_reducible repeat (first | apply Kd.R_alloc | apply Kd.R_drewN | apply Kd.R_drew)); exact HO560.out))) (Kd.R_lt (by (with_reducible repeat (first | apply Kd.R_alloc | apply Kd.R_drewN | apply Kd.R_drew)); exact HO562.out))) (Kd.R_lt (by (with_reducible repeat (first | apply Kd.R_alloc | apply Kd.R_drewN | apply Kd.R_drew)); exact HO566.out))) (below_size (by repeat (first | (with_reducible first | exact HB.out | apply below_alloc | apply pw_below_drewN | apply below_drew1) | exact HB.out)))); have n4_ := Aside0.mk (below_step (by repeat (first | (with_reducible first | exact HB.out | apply below_alloc | apply pw_below_drewN | apply below_drew1) | exact HB.out)) hb); clear HO560; clear HO562; clear HO566; clear HB; have HO560 := n0_; have HO562 := n1_; have HO566 := n2_; have HO570 := n3_; have HB := n4_; clear n0_ n1_ n2_ n3_ n4_; (try clear hb); (try clear hb2); (try clear hk); (try clear hi); (try clear ho0))); go_upto_region 6 with (first | (go_at_call 28; (with_reducible refine (spec_DrawSpanOf.calls k _ _ l0 t557 t558 _ ?side1 ?side2 A3.out).mono ?_); (case side1 => repeat (first | exact HR0.out | (with_reducible refine Kd.C_alloc ?_ _) | (with_reducible refine Kd.C_drewN ?_ _) | (with_reducible refine Kd.C_drew ?_))); (case side2 => exact HC0.out); rintro e w7 ⟨v559, v561, rfl, ho0, ho1, hb⟩; have n0_ := Aside0.mk (Kd.R_lower ho0 (below_size (by repeat (first | (with_reducible first | exact HB.out | apply below_alloc | apply pw_below_drewN | apply below_drew1) | exact HB.out)))); have n1_ := Aside0.mk (Kd.R_lower ho1 (below_size (by repeat (first | (with_reducible first | exact HB.out | apply below_alloc | apply pw_below_drewN | apply below_drew1) | exact HB.out)))); have n2_ := Aside0.mk (below_step (by repeat (first | (with_reducible first | exact HB.out | apply below_alloc | apply pw_below_drewN | apply below_drew1) | exact HB.out)) hb); clear HB; have HO560 := n0_; have HO562 := n1_; have HB := n2_; clear n0_ n1_ n2_; (try clear hb); (try clear hb2); (try clear hk); (try clear hi); (try clear ho0); (try clear ho1); obtain ⟨Ao8, co8, eo8⟩ := Kd.R_slice HO560.out; subst eo8; obtain ⟨Ao9, co9, eo9⟩ := Kd.R_slice HO562.out; subst eo9) | (go_at_call 29; (with_reducible refine (impl_SpanOf.calls _ _ t557 _ _ t558 t563 t564 _ ?side1 ?side2 ?side3 ?side4 A4.out).mono ?_); (case side1 => repeat (first | exact (Kd.R_reads' HO560.out).2.2 | (with_reducible refine Kd.C_alloc ?_ _) | (with_reducible refine Kd.C_drewN ?_ _) | (with_reducible refine Kd.C_drew ?_))); (case side2 => exact (Kd.R_reads' HO560.out).2.1); (case side3 => repeat (first | exact (Kd.R_reads' HO562.out).2.2 | (with_reducible refine Kd.C_alloc ?_ _) | (with_reducible refine Kd.C_drewN ?_ _) | (with_reducible refine Kd.C_drew ?_))); (case side4 => exact (Kd.R_reads' HO562.out).2.1); rintro e w10 ⟨v565, rfl, ho0, hb⟩; have n0_ := Aside0.mk (Kd.R_elder' (by (with_reducible repeat (first | apply Kd.R_alloc | apply Kd.R_drewN | apply Kd.R_drew)); exact HO560.out) (Kd.R_base ho0) hb); have n1_ := Aside0.mk (Kd.R_elder' (by (with_reducible repeat (first | apply Kd.R_alloc | apply Kd.R_drewN | apply Kd.R_drew)); exact HO562.out) (Kd.R_base ho0) hb); have n2_ := Aside0.mk (Kd.R_lower (Kd.R_new' (Kd.R_new' ho0 (Kd.R_lt (by (with_reducible repeat (first | apply Kd.R_alloc | apply Kd.R_drewN | apply Kd.R_drew)); exact HO560.out))) (Kd.R_lt (by (with_reducible repeat (first | apply Kd.R_alloc | apply Kd.R_drewN | apply Kd.R_drew)); exact HO562.out))) (below_size (by repeat (first | (with_reducible first | exact HB.out | apply below_alloc | apply pw_below_drewN | apply below_drew1) | exact HB.out)))); have n3_ := Aside0.mk (below_step (by repeat (first | (with_reducible first | exact HB.out | apply below_alloc | apply pw_below_drewN | apply below_drew1) | exact HB.out)) hb); clear HO560; clear HO562; clear HB; have HO560 := n0_; have HO562 := n1_; have HO566 := n2_; have HB := n3_; clear n0_ n1_ n2_ n3_; (try clear hb); (try clear hb2); (try clear hk); (try clear hi); (try clear ho0)) | (go_at_call 30; (with_reducible refine (spec_SpanOf.calls k _ _ t557 _ _ t558 t567 t568 _ ?side1 ?side2 ?side3 ?side4 A5.out).mono ?_); (case side1 => repeat (first | exact (Kd.R_reads' HO560.out).2.2 | (with_reducible refine Kd.C_alloc ?_ _) | (with_reducible refine Kd.C_drewN ?_ _) | (with_reducible refine Kd.C_drew ?_))); (case side2 => exact (Kd.R_reads' HO560.out).2.1); (case side3 => repeat (first | exact (Kd.R_reads' HO562.out).2.2 | (with_reducible refine Kd.C_alloc ?_ _) | (with_reducible refine Kd.C_drewN ?_ _) | (with_reducible refine Kd.C_drew ?_))); (case side4 => exact (Kd.R_reads' HO562.out).2.1); rintro e w11 ⟨v569, rfl, ho0, hb⟩; have n0_ := Aside0.mk (Kd.R_elder' (by (with_reducible repeat (first | apply Kd.R_alloc | apply Kd.R_drewN | apply Kd.R_drew)); exact HO560.out) (Kd.R_base ho0) hb); have n1_ := Aside0.mk (Kd.R_elder' (by (with_reducible repeat (first | apply Kd.R_alloc | apply Kd.R_drewN | apply Kd.R_drew)); exact HO562.out) (Kd.R_base ho0) hb); have n2_ := Aside0.mk (Kd.R_elder' (by (with_reducible repeat (first | apply Kd.R_alloc | apply Kd.R_drewN | apply Kd.R_drew)); exact HO566.out) (Kd.R_base ho0) hb); have n3_ := Aside0.mk (Kd.R_lower (Kd.R_new' (Kd.R_new' (Kd.R_new' ho0 (Kd.R_lt (by (with_reducible repeat (first | apply Kd.R_alloc | apply Kd.R_drewN | apply Kd.R_drew)); exact HO560.out))) (Kd.R_lt (by (with_reducible repeat (first | apply Kd.R_alloc | apply Kd.R_drewN | apply Kd.R_drew)); exact HO562.out))) (Kd.R_lt (by (with_reducible repeat (first | apply Kd.R_alloc | apply Kd.R_drewN | apply Kd.R_drew)); exact HO566.out))) (below_size (by repeat (first | (with_reducible first | exact HB.out | apply below_alloc | apply pw_below_drewN | apply below_drew1) | exact HB.out)))); have n4_ := Aside0.mk (below_step (by repeat (first | (with_reducible first | exact HB.out | apply below_alloc | apply pw_below_drewN | apply below_drew1) | exact HB.out)) hb); clear HO560; clear HO562; clear HO566; clear HB; have HO560 := n0_; have HO562 := n1_; have HO566 := n2_; have HO570 := n3_; have HB := n4_; clear n0_ n1_ n2_ n3_ n4_; (try clear hb); (try clear hb2); (try clear hk); (try clear hi); (try clear ho0))))
  (try simp only [Act.put, List.setIfInBounds_toArray, List.set_cons_zero, List.set_cons_succ])
  go_cut [46] (fun v46 wc => ∃ (kq : Nat) (x46_5 : Bool), v46 = .bool x46_5 ∧ Aside0 (laws_FnSpan.j0 kq t557 t558 t563 t564 t567 t568 x46_5 = some r) ∧ Aside0 (kq ≤ k) ∧ Aside0 (Kd.R (Kd.int .i64) 3 wc w.heap.size (fun k_ => some k_ ≠ ((.slice Ao9 t558.length co9) : Value).ownBlock ∧ some k_ ≠ (v565 : Value).ownBlock ∧ some k_ ≠ (v569 : Value).ownBlock) (.slice Ao8 t557.length co8) t557) ∧ Aside0 (Kd.R (Kd.int .i64) 3 wc w.heap.size (fun k_ => some k_ ≠ ((.slice Ao8 t557.length co8) : Value).ownBlock ∧ some k_ ≠ (v565 : Value).ownBlock ∧ some k_ ≠ (v569 : Value).ownBlock) (.slice Ao9 t558.length co9) t558) ∧ Aside0 (Kd.R (Kd.int .i64) 3 wc w.heap.size (fun k_ => some k_ ≠ ((.slice Ao8 t557.length co8) : Value).ownBlock ∧ some k_ ≠ ((.slice Ao9 t558.length co9) : Value).ownBlock ∧ some k_ ≠ (v569 : Value).ownBlock) v565 t563) ∧ Aside0 (Kd.R (Kd.int .i64) 3 wc w.heap.size (fun k_ => some k_ ≠ ((.slice Ao8 t557.length co8) : Value).ownBlock ∧ some k_ ≠ ((.slice Ao9 t558.length co9) : Value).ownBlock ∧ some k_ ≠ (v565 : Value).ownBlock) v569 t567) ∧ Aside0 (Below w.heap.size w wc))
  case first =>
   have H := HC6.out
   clear HC6
   by_cases c12 : (t564 != t568) = true
   ·rw [if_pos c12] at H
    have c12b0 : (t564 != t568) = true := c12
    (try (have c12b1 : decide (t564 = t568) = false := by simpa using c12))
    (try (have c12b2 : (t564 == t568) = false := by simpa using c12))
    (try (have c12b3 : ¬ (t564 = t568) := by simpa using c12))
    clear c12
    (first | rw [c12b0] | (simp only [i64_w, i32_w]; rw [c12b0]) | skip)
    have H' := Aside0.mk H
    clear H
    go_wp2
    repeat (go_quiet (fail); try go_wp2)
    go_meet
    case rel => exact ⟨_, (true), (by first | rfl | (simp; done) | (simp [*]; done)), H', ⟨by first | omega | exact Nat.le_refl _⟩, ⟨by (with_reducible repeat (first | apply Kd.R_alloc | apply Kd.R_drewN | apply Kd.R_drew)); exact Kd.R_mono HO560.out (fun _ hk => ⟨hk.1.1, ⟨hk.1.2, hk.2⟩⟩)⟩, ⟨by (with_reducible repeat (first | apply Kd.R_alloc | apply Kd.R_drewN | apply Kd.R_drew)); exact Kd.R_mono HO562.out (fun _ hk => ⟨hk.1.1, ⟨hk.1.2, hk.2⟩⟩)⟩, ⟨by (with_reducible repeat (first | apply Kd.R_alloc | apply Kd.R_drewN | apply Kd.R_drew)); exact Kd.R_mono HO566.out (fun _ hk => ⟨hk.1.1.2, ⟨hk.1.2, hk.2⟩⟩)⟩, ⟨by (with_reducible repeat (first | apply Kd.R_alloc | apply Kd.R_drewN | apply Kd.R_drew)); exact Kd.R_mono HO570.out (fun _ hk => ⟨hk.1.1.2, ⟨hk.1.2, hk.2⟩⟩)⟩, ⟨by repeat (first | (with_reducible first | exact HB.out | apply below_alloc | apply pw_below_drewN | apply below_drew1) | exact HB.out)⟩⟩
   ·rw [if_neg c12] at H
    have c12b0 : (t564 != t568) = false := by simpa using c12
    (try (have c12b1 : decide (t564 = t568) = true := by simpa using c12))
    (try (have c12b2 : (t564 == t568) = true := by simpa using c12))
    clear c12
    (first | rw [c12b0] | (simp only [i64_w, i32_w]; rw [c12b0]) | skip)
    replace H := Option.bind_eq_some_iff.mp H
    obtain ⟨t571, A130, H⟩ := H
    replace H : (if t571 = true then (laws_FnSpan.j0 k t557 t558 t563 t564 t567 t568 (!t564)) else (laws_FnSpan.j0 k t557 t558 t563 t564 t567 t568 true)) = some r := H
    have A13 := Aside0.mk A130
    clear A130
    by_cases c14 : t571 = true
    ·subst c14
     have H1 : (laws_FnSpan.j0 k t557 t558 t563 t564 t567 t568 (!t564)) = some r := by rw [if_pos rfl] at H; exact H
     clear H
     have H := H1
     clear H1
     have H' := Aside0.mk H
     clear H
     obtain ⟨Ao15, co15, eo15⟩ := Kd.R_slice HO566.out
     subst eo15
     obtain ⟨Ao16, co16, eo16⟩ := Kd.R_slice HO570.out
     subst eo16
     go_wp2_with (first | (go_at_call 25; (with_reducible refine (laws_sameInts.calls k _ _ t563 _ _ t567 true _ ?side1 ?side2 ?side3 ?side4 A13.out).mono ?_); (case side1 => repeat (first | exact (Kd.R_reads' HO566.out).2.2 | (with_reducible refine Kd.C_alloc ?_ _) | (with_reducible refine Kd.C_drewN ?_ _) | (with_reducible refine Kd.C_drew ?_))); (case side2 => exact (Kd.R_reads' HO566.out).2.1); (case side3 => repeat (first | exact (Kd.R_reads' HO570.out).2.2 | (with_reducible refine Kd.C_alloc ?_ _) | (with_reducible refine Kd.C_drewN ?_ _) | (with_reducible refine Kd.C_drew ?_))); (case side4 => exact (Kd.R_reads' HO570.out).2.1); rintro e w' ⟨rfl, ⟨nd, rfl⟩⟩; (try first | exact ⟨rfl, _, World.drewN_drewN _ _ _⟩ | exact ⟨rfl, _, Eq.trans (World.drewN_drewN _ _ _) (congrArg (World.drewN _) (Nat.add_assoc _ _ _))⟩)))
     repeat (go_quiet (first | (go_at_call 25; (with_reducible refine (laws_sameInts.calls k _ _ t563 _ _ t567 true _ ?side1 ?side2 ?side3 ?side4 A13.out).mono ?_); (case side1 => repeat (first | exact (Kd.R_reads' HO566.out).2.2 | (with_reducible refine Kd.C_alloc ?_ _) | (with_reducible refine Kd.C_drewN ?_ _) | (with_reducible refine Kd.C_drew ?_))); (case side2 => exact (Kd.R_reads' HO566.out).2.1); (case side3 => repeat (first | exact (Kd.R_reads' HO570.out).2.2 | (with_reducible refine Kd.C_alloc ?_ _) | (with_reducible refine Kd.C_drewN ?_ _) | (with_reducible refine Kd.C_drew ?_))); (case side4 => exact (Kd.R_reads' HO570.out).2.1); rintro e w' ⟨rfl, ⟨nd, rfl⟩⟩; (try first | exact ⟨rfl, _, World.drewN_drewN _ _ _⟩ | exact ⟨rfl, _, Eq.trans (World.drewN_drewN _ _ _) (congrArg (World.drewN _) (Nat.add_assoc _ _ _))⟩))); try go_wp2_with (first | (go_at_call 25; (with_reducible refine (laws_sameInts.calls k _ _ t563 _ _ t567 true _ ?side1 ?side2 ?side3 ?side4 A13.out).mono ?_); (case side1 => repeat (first | exact (Kd.R_reads' HO566.out).2.2 | (with_reducible refine Kd.C_alloc ?_ _) | (with_reducible refine Kd.C_drewN ?_ _) | (with_reducible refine Kd.C_drew ?_))); (case side2 => exact (Kd.R_reads' HO566.out).2.1); (case side3 => repeat (first | exact (Kd.R_reads' HO570.out).2.2 | (with_reducible refine Kd.C_alloc ?_ _) | (with_reducible refine Kd.C_drewN ?_ _) | (with_reducible refine Kd.C_drew ?_))); (case side4 => exact (Kd.R_reads' HO570.out).2.1); rintro e w' ⟨rfl, ⟨nd, rfl⟩⟩; (try first | exact ⟨rfl, _, World.drewN_drewN _ _ _⟩ | exact ⟨rfl, _, Eq.trans (World.drewN_drewN _ _ _) (congrArg (World.drewN _) (Nat.add_assoc _ _ _))⟩))))
     go_meet
     case rel => exact ⟨_, (!t564), (by first | rfl | (simp; done) | (simp [*]; done)), H', ⟨by first | omega | exact Nat.le_refl _⟩, ⟨by (with_reducible repeat (first | apply Kd.R_alloc | apply Kd.R_drewN | apply Kd.R_drew)); exact Kd.R_mono HO560.out (fun _ hk => ⟨hk.1.1, ⟨hk.1.2, hk.2⟩⟩)⟩, ⟨by (with_reducible repeat (first | apply Kd.R_alloc | apply Kd.R_drewN | apply Kd.R_drew)); exact Kd.R_mono HO562.out (fun _ hk => ⟨hk.1.1, ⟨hk.1.2, hk.2⟩⟩)⟩, ⟨by (with_reducible repeat (first | apply Kd.R_alloc | apply Kd.R_drewN | apply Kd.R_drew)); exact Kd.R_mono HO566.out (fun _ hk => ⟨hk.1.1.2, ⟨hk.1.2, hk.2⟩⟩)⟩, ⟨by (with_reducible repeat (first | apply Kd.R_alloc | apply Kd.R_drewN | apply Kd.R_drew)); exact Kd.R_mono HO570.out (fun _ hk => ⟨hk.1.1.2, ⟨hk.1.2, hk.2⟩⟩)⟩, ⟨by repeat (first | (with_reducible first | exact HB.out | apply below_alloc | apply pw_below_drewN | apply below_drew1) | exact HB.out)⟩⟩
    ·replace c14 := Bool.eq_false_iff.mpr c14
     subst c14
     have H1 : (laws_FnSpan.j0 k t557 t558 t563 t564 t567 t568 true) = some r := by rw [if_neg (show ¬ (false = true) by decide)] at H; exact H
     clear H
     have H := H1
     clear H1
     have H' := Aside0.mk H
     clear H
     obtain ⟨Ao17, co17, eo17⟩ := Kd.R_slice HO566.out
     subst eo17
     obtain ⟨Ao18, co18, eo18⟩ := Kd.R_slice HO570.out
     subst eo18
     go_wp2_with (first | (go_at_call 25; (with_reducible refine (laws_sameInts.calls k _ _ t563 _ _ t567 false _ ?side1 ?side2 ?side3 ?side4 A13.out).mono ?_); (case side1 => repeat (first | exact (Kd.R_reads' HO566.out).2.2 | (with_reducible refine Kd.C_alloc ?_ _) | (with_reducible refine Kd.C_drewN ?_ _) | (with_reducible refine Kd.C_drew ?_))); (case side2 => exact (Kd.R_reads' HO566.out).2.1); (case side3 => repeat (first | exact (Kd.R_reads' HO570.out).2.2 | (with_reducible refine Kd.C_alloc ?_ _) | (with_reducible refine Kd.C_drewN ?_ _) | (with_reducible refine Kd.C_drew ?_))); (case side4 => exact (Kd.R_reads' HO570.out).2.1); rintro e w' ⟨rfl, ⟨nd, rfl⟩⟩; (try first | exact ⟨rfl, _, World.drewN_drewN _ _ _⟩ | exact ⟨rfl, _, Eq.trans (World.drewN_drewN _ _ _) (congrArg (World.drewN _) (Nat.add_assoc _ _ _))⟩)))
     repeat (go_quiet (first | (go_at_call 25; (with_reducible refine (laws_sameInts.calls k _ _ t563 _ _ t567 false _ ?side1 ?side2 ?side3 ?side4 A13.out).mono ?_); (case side1 => repeat (first | exact (Kd.R_reads' HO566.out).2.2 | (with_reducible refine Kd.C_alloc ?_ _) | (with_reducible refine Kd.C_drewN ?_ _) | (with_reducible refine Kd.C_drew ?_))); (case side2 => exact (Kd.R_reads' HO566.out).2.1); (case side3 => repeat (first | exact (Kd.R_reads' HO570.out).2.2 | (with_reducible refine Kd.C_alloc ?_ _) | (with_reducible refine Kd.C_drewN ?_ _) | (with_reducible refine Kd.C_drew ?_))); (case side4 => exact (Kd.R_reads' HO570.out).2.1); rintro e w' ⟨rfl, ⟨nd, rfl⟩⟩; (try first | exact ⟨rfl, _, World.drewN_drewN _ _ _⟩ | exact ⟨rfl, _, Eq.trans (World.drewN_drewN _ _ _) (congrArg (World.drewN _) (Nat.add_assoc _ _ _))⟩))); try go_wp2_with (first | (go_at_call 25; (with_reducible refine (laws_sameInts.calls k _ _ t563 _ _ t567 false _ ?side1 ?side2 ?side3 ?side4 A13.out).mono ?_); (case side1 => repeat (first | exact (Kd.R_reads' HO566.out).2.2 | (with_reducible refine Kd.C_alloc ?_ _) | (with_reducible refine Kd.C_drewN ?_ _) | (with_reducible refine Kd.C_drew ?_))); (case side2 => exact (Kd.R_reads' HO566.out).2.1); (case side3 => repeat (first | exact (Kd.R_reads' HO570.out).2.2 | (with_reducible refine Kd.C_alloc ?_ _) | (with_reducible refine Kd.C_drewN ?_ _) | (with_reducible refine Kd.C_drew ?_))); (case side4 => exact (Kd.R_reads' HO570.out).2.1); rintro e w' ⟨rfl, ⟨nd, rfl⟩⟩; (try first | exact ⟨rfl, _, World.drewN_drewN _ _ _⟩ | exact ⟨rfl, _, Eq.trans (World.drewN_drewN _ _ _) (congrArg (World.drewN _) (Nat.add_assoc _ _ _))⟩))))
     go_meet
     case rel => exact ⟨_, (true), (by first | rfl | (simp; done) | (simp [*]; done)), H', ⟨by first | omega | exact Nat.le_refl _⟩, ⟨by (with_reducible repeat (first | apply Kd.R_alloc | apply Kd.R_drewN | apply Kd.R_drew)); exact Kd.R_mono HO560.out (fun _ hk => ⟨hk.1.1, ⟨hk.1.2, hk.2⟩⟩)⟩, ⟨by (with_reducible repeat (first | apply Kd.R_alloc | apply Kd.R_drewN | apply Kd.R_drew)); exact Kd.R_mono HO562.out (fun _ hk => ⟨hk.1.1, ⟨hk.1.2, hk.2⟩⟩)⟩, ⟨by (with_reducible repeat (first | apply Kd.R_alloc | apply Kd.R_drewN | apply Kd.R_drew)); exact Kd.R_mono HO566.out (fun _ hk => ⟨hk.1.1.2, ⟨hk.1.2, hk.2⟩⟩)⟩, ⟨by (with_reducible repeat (first | apply Kd.R_alloc | apply Kd.R_drewN | apply Kd.R_drew)); exact Kd.R_mono HO570.out (fun _ hk => ⟨hk.1.1.2, ⟨hk.1.2, hk.2⟩⟩)⟩, ⟨by repeat (first | (with_reducible first | exact HB.out | apply below_alloc | apply pw_below_drewN | apply below_drew1) | exact HB.out)⟩⟩
  case rest =>
   clear HC6
   try clear c1
   try clear c2
   try clear c2b0
   try clear c2b1
   try clear p2
   try clear c7
   try clear c12
   try clear c12b0
   try clear c12b1
   try clear c12b2
   try clear c14
   obtain ⟨kq, x46_5, rfl, HA, HJ5, HO_3, HO_4, HO_5, HO_7, HB⟩ := hcut
   cases kq with
   | zero => exact absurd HA.out (by simp [laws_FnSpan.j0])
   | succ kj5 =>
    have H := HA.out
    clear HA
    simp only [laws_FnSpan.j0] at H
    by_cases c19 : x46_5 = true
    ·subst c19
     have H1 : (if (t564 == t568) = true then ((laws_sameInts.f kj5 t563 t567).bind fun t572 => (some t572)) else (some false)) = some r := by rw [if_pos rfl] at H; exact H
     clear H
     have H := H1
     clear H1
     by_cases c20 : (t564 == t568) = true
     ·rw [if_pos c20] at H
      have c20b0 : (t564 == t568) = true := c20
      (try (have c20b1 : decide (t564 = t568) = true := by simpa using c20))
      (try (have c20b2 : (t564 == t568) = true := by simpa using c20))
      clear c20
      replace H := Option.bind_eq_some_iff.mp H
      obtain ⟨t572, A210, H⟩ := H
      replace H : (some t572) = some r := H
      have A21 := Aside0.mk A210
      clear A210
      obtain rfl := Option.some.inj H
      obtain ⟨Ao22, co22, eo22⟩ := Kd.R_slice HO_5.out
      subst eo22
      obtain ⟨Ao23, co23, eo23⟩ := Kd.R_slice HO_7.out
      subst eo23
      go_wp2_with (first | (go_at_call 25; (with_reducible refine (laws_sameInts.calls kj5 _ _ t563 _ _ t567 t572 _ ?side1 ?side2 ?side3 ?side4 A21.out).mono ?_); (case side1 => repeat (first | exact (Kd.R_reads' HO_5.out).2.2 | (with_reducible refine Kd.C_alloc ?_ _) | (with_reducible refine Kd.C_drewN ?_ _) | (with_reducible refine Kd.C_drew ?_))); (case side2 => exact (Kd.R_reads' HO_5.out).2.1); (case side3 => repeat (first | exact (Kd.R_reads' HO_7.out).2.2 | (with_reducible refine Kd.C_alloc ?_ _) | (with_reducible refine Kd.C_drewN ?_ _) | (with_reducible refine Kd.C_drew ?_))); (case side4 => exact (Kd.R_reads' HO_7.out).2.1); rintro e w' ⟨rfl, ⟨nd, rfl⟩⟩; (try first | exact ⟨rfl, _, World.drewN_drewN _ _ _⟩ | exact ⟨rfl, _, Eq.trans (World.drewN_drewN _ _ _) (congrArg (World.drewN _) (Nat.add_assoc _ _ _))⟩)))
      repeat (go_quiet (first | (go_at_call 25; (with_reducible refine (laws_sameInts.calls kj5 _ _ t563 _ _ t567 t572 _ ?side1 ?side2 ?side3 ?side4 A21.out).mono ?_); (case side1 => repeat (first | exact (Kd.R_reads' HO_5.out).2.2 | (with_reducible refine Kd.C_alloc ?_ _) | (with_reducible refine Kd.C_drewN ?_ _) | (with_reducible refine Kd.C_drew ?_))); (case side2 => exact (Kd.R_reads' HO_5.out).2.1); (case side3 => repeat (first | exact (Kd.R_reads' HO_7.out).2.2 | (with_reducible refine Kd.C_alloc ?_ _) | (with_reducible refine Kd.C_drewN ?_ _) | (with_reducible refine Kd.C_drew ?_))); (case side4 => exact (Kd.R_reads' HO_7.out).2.1); rintro e w' ⟨rfl, ⟨nd, rfl⟩⟩; (try first | exact ⟨rfl, _, World.drewN_drewN _ _ _⟩ | exact ⟨rfl, _, Eq.trans (World.drewN_drewN _ _ _) (congrArg (World.drewN _) (Nat.add_assoc _ _ _))⟩))); try go_wp2_with (first | (go_at_call 25; (with_reducible refine (laws_sameInts.calls kj5 _ _ t563 _ _ t567 t572 _ ?side1 ?side2 ?side3 ?side4 A21.out).mono ?_); (case side1 => repeat (first | exact (Kd.R_reads' HO_5.out).2.2 | (with_reducible refine Kd.C_alloc ?_ _) | (with_reducible refine Kd.C_drewN ?_ _) | (with_reducible refine Kd.C_drew ?_))); (case side2 => exact (Kd.R_reads' HO_5.out).2.1); (case side3 => repeat (first | exact (Kd.R_reads' HO_7.out).2.2 | (with_reducible refine Kd.C_alloc ?_ _) | (with_reducible refine Kd.C_drewN ?_ _) | (with_reducible refine Kd.C_drew ?_))); (case side4 => exact (Kd.R_reads' HO_7.out).2.1); rintro e w' ⟨rfl, ⟨nd, rfl⟩⟩; (try first | exact ⟨rfl, _, World.drewN_drewN _ _ _⟩ | exact ⟨rfl, _, Eq.trans (World.drewN_drewN _ _ _) (congrArg (World.drewN _) (Nat.add_assoc _ _ _))⟩))))
      go_ret
      exact ⟨by first | rfl | (simp [errW_none, errW_some] <;> rfl) | (simp [*, errW_none, errW_some] <;> rfl), by repeat (first | (with_reducible first | exact HB.out | apply below_alloc | apply pw_below_drewN | apply below_drew1) | exact HB.out)⟩
     ·rw [if_neg c20] at H
      have c20b0 : (t564 == t568) = false := by simpa using c20
      (try (have c20b1 : decide (t564 = t568) = false := by simpa using c20))
      (try (have c20b2 : (t564 == t568) = false := by simpa using c20))
      (try (have c20b3 : ¬ (t564 = t568) := by simpa using c20))
      clear c20
      obtain rfl := Option.some.inj H
      go_wp2
      repeat (go_quiet (fail); try go_wp2)
      go_ret
      exact ⟨by first | rfl | (simp [errW_none, errW_some] <;> rfl) | (simp [*, errW_none, errW_some] <;> rfl), by repeat (first | (with_reducible first | exact HB.out | apply below_alloc | apply pw_below_drewN | apply below_drew1) | exact HB.out)⟩
    ·replace c19 := Bool.eq_false_iff.mpr c19
     subst c19
     have H1 : (if 91 ≤ 281474976710656 then (laws_FnSpan.l0 kj5 t557 t558 t563 (List.replicate 91 false) 0) else (none)) = some r := by rw [if_neg (show ¬ (false = true) by decide)] at H; exact H
     clear H
     have H := H1
     clear H1
     by_cases c24 : 91 ≤ 281474976710656
     ·rw [if_pos c24] at H
      have c24b0 := eq_true c24
      have c24b1 : decide (91 ≤ 281474976710656) = true := decide_eq_true c24
      clear c24
      obtain ⟨y573, hy573⟩ : ∃ y_ : List Bool, y_ = (List.replicate 91 false) := ⟨_, rfl⟩
      replace H : (laws_FnSpan.l0 kj5 t557 t558 t563 y573 0) = some r := by first | (rw [hy573]; with_reducible exact H) | (have H2_ := (Option.bind_some _ _).symm.trans H; rw [hy573]; with_reducible exact H2_) | (have H2_ := (Option.bind_some _ _).symm.trans H; with_reducible exact H2_) | with_reducible exact H | (rw [hy573]; exact H) | exact H
      have Ny573 := Aside0.mk hy573
      clear hy573
      have H' := Aside0.mk H
      clear H
      go_wp2_with (first | ((with_reducible refine gate_dst (N := 55) rfl ?_); refine Kd.R_make Kd.bool _ 4 rfl (N := 55) rfl 34 _ _ rfl 91 rfl rfl Try.underlying34 (.bool false) 1 info4 rfl (by decide) (by omega) false (ok := fun _ => True) (okp := fun _ => True) rfl (fun _ hk => hk) trivial (by omega) (by omega) (Below.refl _ _) (Nat.le_refl _) ?_; intro v574 w25 ho26 hb hg_ hnew_; clear hg_ hnew_; (first | rw [← Ny573.out] at ho26 | (simp only [Int.reduceToNat] at ho26; rw [← Ny573.out] at ho26)); have n0_ := Aside0.mk (Kd.R_below (by (with_reducible repeat (first | apply Kd.R_alloc | apply Kd.R_drewN | apply Kd.R_drew)); exact HO_3.out) hb); have n1_ := Aside0.mk (Kd.R_below (by (with_reducible repeat (first | apply Kd.R_alloc | apply Kd.R_drewN | apply Kd.R_drew)); exact HO_4.out) hb); have n2_ := Aside0.mk (Kd.R_below (by (with_reducible repeat (first | apply Kd.R_alloc | apply Kd.R_drewN | apply Kd.R_drew)); exact HO_5.out) hb); have n3_ := Aside0.mk (Kd.R_below (by (with_reducible repeat (first | apply Kd.R_alloc | apply Kd.R_drewN | apply Kd.R_drew)); exact HO_7.out) hb); have n4_ := Aside0.mk (Kd.R_lower ho26 (below_size (by repeat (first | (with_reducible first | exact HB.out | apply below_alloc | apply pw_below_drewN | apply below_drew1) | exact HB.out)))); have n5_ := Aside0.mk (below_step (by repeat (first | (with_reducible first | exact HB.out | apply below_alloc | apply pw_below_drewN | apply below_drew1) | exact HB.out)) hb); clear HO_3; clear HO_4; clear HO_5; clear HO_7; clear HB; have HO_3 := n0_; have HO_4 := n1_; have HO_5 := n2_; have HO_7 := n3_; have HO575 := n4_; have HB := n5_; clear n0_ n1_ n2_ n3_ n4_ n5_; clear hb ho26))
      repeat (go_quiet (first | ((with_reducible refine gate_dst (N := 55) rfl ?_); refine Kd.R_make Kd.bool _ 4 rfl (N := 55) rfl 34 _ _ rfl 91 rfl rfl Try.underlying34 (.bool false) 1 info4 rfl (by decide) (by omega) false (ok := fun _ => True) (okp := fun _ => True) rfl (fun _ hk => hk) trivial (by omega) (by omega) (Below.refl _ _) (Nat.le_refl _) ?_; intro v574 w25 ho26 hb hg_ hnew_; clear hg_ hnew_; (first | rw [← Ny573.out] at ho26 | (simp only [Int.reduceToNat] at ho26; rw [← Ny573.out] at ho26)); have n0_ := Aside0.mk (Kd.R_below (by (with_reducible repeat (first | apply Kd.R_alloc | apply Kd.R_drewN | apply Kd.R_drew)); exact HO_3.out) hb); have n1_ := Aside0.mk (Kd.R_below (by (with_reducible repeat (first | apply Kd.R_alloc | apply Kd.R_drewN | apply Kd.R_drew)); exact HO_4.out) hb); have n2_ := Aside0.mk (Kd.R_below (by (with_reducible repeat (first | apply Kd.R_alloc | apply Kd.R_drewN | apply Kd.R_drew)); exact HO_5.out) hb); have n3_ := Aside0.mk (Kd.R_below (by (with_reducible repeat (first | apply Kd.R_alloc | apply Kd.R_drewN | apply Kd.R_drew)); exact HO_7.out) hb); have n4_ := Aside0.mk (Kd.R_lower ho26 (below_size (by repeat (first | (with_reducible first | exact HB.out | apply below_alloc | apply pw_below_drewN | apply below_drew1) | exact HB.out)))); have n5_ := Aside0.mk (below_step (by repeat (first | (with_reducible first | exact HB.out | apply below_alloc | apply pw_below_drewN | apply below_drew1) | exact HB.out)) hb); clear HO_3; clear HO_4; clear HO_5; clear HO_7; clear HB; have HO_3 := n0_; have HO_4 := n1_; have HO_5 := n2_; have HO_7 := n3_; have HO575 := n4_; have HB := n5_; clear n0_ n1_ n2_ n3_ n4_ n5_; clear hb ho26)); try go_wp2_with (first | ((with_reducible refine gate_dst (N := 55) rfl ?_); refine Kd.R_make Kd.bool _ 4 rfl (N := 55) rfl 34 _ _ rfl 91 rfl rfl Try.underlying34 (.bool false) 1 info4 rfl (by decide) (by omega) false (ok := fun _ => True) (okp := fun _ => True) rfl (fun _ hk => hk) trivial (by omega) (by omega) (Below.refl _ _) (Nat.le_refl _) ?_; intro v574 w25 ho26 hb hg_ hnew_; clear hg_ hnew_; (first | rw [← Ny573.out] at ho26 | (simp only [Int.reduceToNat] at ho26; rw [← Ny573.out] at ho26)); have n0_ := Aside0.mk (Kd.R_below (by (with_reducible repeat (first | apply Kd.R_alloc | apply Kd.R_drewN | apply Kd.R_drew)); exact HO_3.out) hb); have n1_ := Aside0.mk (Kd.R_below (by (with_reducible repeat (first | apply Kd.R_alloc | apply Kd.R_drewN | apply Kd.R_drew)); exact HO_4.out) hb); have n2_ := Aside0.mk (Kd.R_below (by (with_reducible repeat (first | apply Kd.R_alloc | apply Kd.R_drewN | apply Kd.R_drew)); exact HO_5.out) hb); have n3_ := Aside0.mk (Kd.R_below (by (with_reducible repeat (first | apply Kd.R_alloc | apply Kd.R_drewN | apply Kd.R_drew)); exact HO_7.out) hb); have n4_ := Aside0.mk (Kd.R_lower ho26 (below_size (by repeat (first | (with_reducible first | exact HB.out | apply below_alloc | apply pw_below_drewN | apply below_drew1) | exact HB.out)))); have n5_ := Aside0.mk (below_step (by repeat (first | (with_reducible first | exact HB.out | apply below_alloc | apply pw_below_drewN | apply below_drew1) | exact HB.out)) hb); clear HO_3; clear HO_4; clear HO_5; clear HO_7; clear HB; have HO_3 := n0_; have HO_4 := n1_; have HO_5 := n2_; have HO_7 := n3_; have HO575 := n4_; have HB := n5_; clear n0_ n1_ n2_ n3_ n4_ n5_; clear hb ho26)))
      go_loopg [10] kj5 (fun kq v10 w' => ∃ (x9_2 : List Bool) (x10_2 : Int), v10 = .int .i64 x10_2 ∧ Aside0 (laws_FnSpan.l0 kq t557 t558 t563 x9_2 x10_2 = some r) ∧ Aside0 (kq ≤ kj5) ∧ Aside0 (Kd.R (Kd.int .i64) 3 w' w.heap.size (fun k_ => some k_ ≠ ((.slice Ao9 t558.length co9) : Value).ownBlock ∧ some k_ ≠ (v565 : Value).ownBlock) (.slice Ao8 t557.length co8) t557) ∧ Aside0 (Kd.R (Kd.int .i64) 3 w' w.heap.size (fun k_ => some k_ ≠ ((.slice Ao8 t557.length co8) : Value).ownBlock ∧ some k_ ≠ (v565 : Value).ownBlock) (.slice Ao9 t558.length co9) t558) ∧ Aside0 (Kd.R (Kd.int .i64) 3 w' w.heap.size (fun k_ => some k_ ≠ ((.slice Ao8 t557.length co8) : Value).ownBlock ∧ some k_ ≠ ((.slice Ao9 t558.length co9) : Value).ownBlock) v565 t563) ∧ Aside0 (Kd.R Kd.bool 4 w' w.heap.size (fun _ => True) v574 x9_2) ∧ Aside0 (Below w.heap.size w w'))
      case atStart => exact ⟨(y573), (0), (by first | rfl | (simp; done) | (simp [*]; done)), H', ⟨Nat.le_refl _⟩, ⟨by (with_reducible repeat (first | apply Kd.R_alloc | apply Kd.R_drewN | apply Kd.R_drew)); exact Kd.R_mono HO_3.out (fun _ hk => ⟨hk.1, hk.2.1⟩)⟩, ⟨by (with_reducible repeat (first | apply Kd.R_alloc | apply Kd.R_drewN | apply Kd.R_drew)); exact Kd.R_mono HO_4.out (fun _ hk => ⟨hk.1, hk.2.1⟩)⟩, ⟨by (with_reducible repeat (first | apply Kd.R_alloc | apply Kd.R_drewN | apply Kd.R_drew)); exact Kd.R_mono HO_5.out (fun _ hk => ⟨hk.1, hk.2.1⟩)⟩, ⟨by (with_reducible repeat (first | apply Kd.R_alloc | apply Kd.R_drewN | apply Kd.R_drew)); exact HO575.out⟩, ⟨by repeat (first | (with_reducible first | exact HB.out | apply below_alloc | apply pw_below_drewN | apply below_drew1) | exact HB.out)⟩⟩
      case round =>
       clear H'
       try clear c1
       try clear c2
       try clear c2b0
       try clear c2b1
       try clear p2
       try clear c7
       try clear c12
       try clear c12b0
       try clear c12b1
       try clear c12b2
       try clear c14
       try clear c19
       try clear c20
       try clear c20b0
       try clear c20b1
       try clear c20b2
       try clear c24
       try clear c24b0
       try clear c24b1
       try clear p2
       obtain ⟨x9_2, x10_2, rfl, HA, HK2, HO_3, HO_4, HO_5, HO_9, HB⟩ := hrel
       cases gk with
       | zero => exact absurd HA.out (by simp [laws_FnSpan.l0])
       | succ k2 =>
        have H := HA.out
        clear HA
        simp only [laws_FnSpan.l0] at H
        by_cases c27 : x10_2 < (t563.length : Int)
        ·rw [if_pos c27] at H
         have c27b0 : decide (x10_2 < (t563.length : Int)) = true := decide_eq_true c27
         clear c27
         by_cases c28 : x10_2 > 0
         ·rw [if_pos c28] at H
          have c28b0 : decide (0 < x10_2) = true := decide_eq_true c28
          clear c28
          by_cases c29 : 0 ≤ x10_2
          ·rw [if_pos c29] at H
           have c29b0 : decide (0 ≤ x10_2) = true := decide_eq_true c29
           clear c29
           obtain ⟨ji30, hji30⟩ : ∃ j_ : Int, (wrap64 (x10_2 - 1)) = j_ := ⟨_, rfl⟩
           replace H : (if 0 ≤ (ji30) then (if (ji30) < (t563.length : Int) then (if (rd t563 x10_2) ≤ (rd t563 (ji30)) then (some false) else (if 0 ≤ (rd t563 x10_2) then (if (rd t563 x10_2) < (x9_2.length : Int) then (laws_FnSpan.l0 k2 t557 t558 t563 (x9_2.set ((rd t563 x10_2) : Int).toNat true) (wrap64 (x10_2 + 1))) else (none)) else (none))) else (none)) else (none)) = some r := by first | (rw [hji30] at H; exact H) | (simp only [hji30] at H ⊢; exact H)
           have hji30w : (IntKind.i64.wrap (x10_2 - 1)) = ji30 := (i64_w _).trans hji30
           by_cases c31 : 0 ≤ (ji30)
           ·rw [if_pos c31] at H
            have c31b0 : decide (0 ≤ (ji30)) = true := decide_eq_true c31
            clear c31
            by_cases c32 : (ji30) < (t563.length : Int)
            ·rw [if_pos c32] at H
             have c32b0 : decide ((ji30) < (t563.length : Int)) = true := decide_eq_true c32
             clear c32
             by_cases c33 : (rd t563 x10_2) ≤ (rd t563 (ji30))
             ·rw [if_pos c33] at H
              have c33b0 : decide ((rd t563 x10_2) ≤ (rd t563 (ji30))) = true := decide_eq_true c33
              clear c33
              obtain rfl := Option.some.inj H
              obtain ⟨Ao34, co34, eo34⟩ := Kd.R_slice HO_5.out
              subst eo34
              have p576 : 0 ≤ (x10_2 : Int) := of_decide_eq_true (by first | (with_reducible assumption) | assumption)
              have q576 : x10_2 < (t563.length : Int) := of_decide_eq_true (by first | (with_reducible assumption) | assumption)
              obtain ⟨ad576, e576, hx576_0⟩ := Kd.at_int (Kd.R_reads' HO_5.out).2.2 x10_2 p576 q576
              cases e576
              replace p576 := eq_true p576
              replace q576 := eq_true q576
              have p577 : 0 ≤ ((ji30) : Int) := of_decide_eq_true (by first | (with_reducible assumption) | assumption)
              have q577 : (ji30) < (t563.length : Int) := of_decide_eq_true (by first | (with_reducible assumption) | assumption)
              obtain ⟨ad577, e577, hx577_0⟩ := Kd.at_int (Kd.R_reads' HO_5.out).2.2 (ji30) p577 q577
              obtain rfl : ad576 = ad577 := (by injection e577)
              replace p577 := eq_true p577
              replace q577 := eq_true q577
              go_wp2
              repeat (go_quiet (fail); try go_wp2)
              go_ret
              exact ⟨by first | rfl | (simp [errW_none, errW_some] <;> rfl) | (simp only [← hji30]; first | rfl | (simp [errW_none, errW_some] <;> rfl)) | (simp [*, errW_none, errW_some] <;> rfl), by repeat (first | (with_reducible first | exact HB.out | apply below_alloc | apply pw_below_drewN | apply below_drew1) | exact HB.out)⟩
             ·rw [if_neg c33] at H
              have c33b0 : decide ((rd t563 x10_2) ≤ (rd t563 (ji30))) = false := decide_eq_false c33
              clear c33
              by_cases c35 : 0 ≤ (rd t563 x10_2)
              ·rw [if_pos c35] at H
               have c35b0 : decide (0 ≤ (rd t563 x10_2)) = true := decide_eq_true c35
               clear c35
               by_cases c36 : (rd t563 x10_2) < (x9_2.length : Int)
               ·rw [if_pos c36] at H
                have c36b0 : decide ((rd t563 x10_2) < (x9_2.length : Int)) = true := decide_eq_true c36
                clear c36
                obtain ⟨y579, hy579⟩ : ∃ y_ : List Bool, y_ = (x9_2.set ((rd t563 x10_2) : Int).toNat true) := ⟨_, rfl⟩
                replace H : (laws_FnSpan.l0 k2 t557 t558 t563 y579 (wrap64 (x10_2 + 1))) = some r := by first | (rw [hy579]; with_reducible exact H) | (have H2_ := (Option.bind_some _ _).symm.trans H; rw [hy579]; with_reducible exact H2_) | (have H2_ := (Option.bind_some _ _).symm.trans H; with_reducible exact H2_) | with_reducible exact H | (rw [hy579]; exact H) | exact H
                have Ny579 := Aside0.mk hy579
                clear hy579
                have H' := Aside0.mk H
                clear H
                obtain ⟨Ao38, co38, eo38⟩ := Kd.R_slice HO_5.out
                subst eo38
                have p576 : 0 ≤ (x10_2 : Int) := of_decide_eq_true (by first | (with_reducible assumption) | assumption)
                have q576 : x10_2 < (t563.length : Int) := of_decide_eq_true (by first | (with_reducible assumption) | assumption)
                obtain ⟨ad576, e576, hx576_0⟩ := Kd.at_int (Kd.R_reads' HO_5.out).2.2 x10_2 p576 q576
                cases e576
                replace p576 := eq_true p576
                replace q576 := eq_true q576
                have p577 : 0 ≤ ((ji30) : Int) := of_decide_eq_true (by first | (with_reducible assumption) | assumption)
                have q577 : (ji30) < (t563.length : Int) := of_decide_eq_true (by first | (with_reducible assumption) | assumption)
                obtain ⟨ad577, e577, hx577_0⟩ := Kd.at_int (Kd.R_reads' HO_5.out).2.2 (ji30) p577 q577
                obtain rfl : ad576 = ad577 := (by injection e577)
                replace p577 := eq_true p577
                replace q577 := eq_true q577
                have p578 : 0 ≤ (x10_2 : Int) := of_decide_eq_true (by first | (with_reducible assumption) | assumption)
                have q578 : x10_2 < (t563.length : Int) := of_decide_eq_true (by first | (with_reducible assumption) | assumption)
                obtain ⟨ad578, e578, hx578_0⟩ := Kd.at_int (Kd.R_reads' HO_5.out).2.2 x10_2 p578 q578
                obtain rfl : ad576 = ad578 := (by injection e578)
                replace p578 := eq_true p578
                replace q578 := eq_true q578
                have p37 : 0 ≤ ((rd t563 x10_2) : Int) := of_decide_eq_true (by first | (with_reducible assumption) | assumption)
                have q37 : ((rd t563 x10_2) : Int) < ((x9_2.length : Int) : Int) := of_decide_eq_true (by first | (with_reducible assumption) | assumption)
                obtain ⟨go37, co37, eo37, gb37, gl37, cl37, HG37⟩ := Kd.R_form HO_9.out (by omega)
                (first | cases eo37 | (injection eo37 with ea_ en_ ec_; (first | subst ea_ | (injection ea_ with ea_; subst ea_)); subst ec_; clear en_))
                have GB37 := Aside0.mk gb37
                have GG37 := Aside0.mk HG37
                clear gb37 gl37 HG37
                obtain ⟨hx37_0, hf37_0⟩ := Kd.R_celln false HO_9.out ((rd t563 x10_2) : Int) p37 q37
                replace p37 := eq_true p37
                replace q37 := eq_true q37
                have HP39 := Kd.R_putg HO_9.out ((rd t563 x10_2) : Int) true
                go_wp2_with (first | ((with_reducible refine gate_store (t := 4) (p := 81) rfl ?_); (try (rw [dself_ wr]; generalize hq_ : World.drewN wr _ = wr; have n0_ := Aside0.mk (Kd.R_at hq_ HO_3.out); have n1_ := Aside0.mk (Kd.R_at hq_ HO_4.out); have n2_ := Aside0.mk (Kd.R_at hq_ HO_5.out); have n3_ := Aside0.mk (Kd.R_at hq_ HO_9.out); have n4_ := Aside0.mk (below_at hq_ HB.out); clear hq_ HO_3 HO_4 HO_5 HO_9 HB; have HO_3 := n0_; have HO_4 := n1_; have HO_5 := n2_; have HO_9 := n3_; have HB := n4_; clear n0_ n1_ n2_ n3_ n4_; (try (have HP39 := Kd.R_putg HO_9.out ((rd t563 x10_2) : Int) true)); (try (obtain ⟨hxr_, hfr_⟩ := Kd.R_celln false HO_9.out ((rd t563 x10_2) : Int) (of_decide_eq_true (by first | (with_reducible assumption) | assumption)) (of_decide_eq_true (by first | (with_reducible assumption) | assumption)))))); refine store_event (t := 4) (p := 81) (v := ?vo_w40) (w1 := (wr.setCell ⟨go37, ((rd t563 x10_2) : Int).toNat, none⟩ (.bool true))) ?hg ?ho ?hn ?hr ?_; (case ho => rfl); (case hg => rfl); (case hn => rfl); (case hr => first | (go_simp; done) | (go_simp; rfl)); intro w40 hw; have hg : wr.grownBy w40 (some go37) := (by rw [hw]; exact HP39.2); have hp_ : Kd.R Kd.bool 4 w40 w.heap.size (fun _ => True) (.slice (some ⟨go37, 0, none⟩) x9_2.length co37) y579 := (by rw [hw, Ny579.out]; exact HP39.1); clear HP39; have n0_ := Aside0.mk (Kd.R_over' (v := (.slice (some ⟨go37, 0, none⟩) x9_2.length co37)) (by (with_reducible repeat (first | apply Kd.R_alloc | apply Kd.R_drewN | apply Kd.R_drew)); exact HO_3.out) (Kd.R_typed HO_9.out) (by decide) hg); have n1_ := Aside0.mk (Kd.R_over' (v := (.slice (some ⟨go37, 0, none⟩) x9_2.length co37)) (by (with_reducible repeat (first | apply Kd.R_alloc | apply Kd.R_drewN | apply Kd.R_drew)); exact HO_4.out) (Kd.R_typed HO_9.out) (by decide) hg); have n2_ := Aside0.mk (Kd.R_over' (v := (.slice (some ⟨go37, 0, none⟩) x9_2.length co37)) (by (with_reducible repeat (first | apply Kd.R_alloc | apply Kd.R_drewN | apply Kd.R_drew)); exact HO_5.out) (Kd.R_typed HO_9.out) (by decide) hg); have n3_ := Aside0.mk (hp_); have n4_ := Aside0.mk ((by rw [hw]; exact below_set (HB.out) GB37.out : Below w.heap.size w w40)); clear HO_3; clear HO_4; clear HO_5; clear HO_9; clear HB; have HO_3 := n0_; have HO_4 := n1_; have HO_5 := n2_; have HO_9 := n3_; have HB := n4_; clear n0_ n1_ n2_ n3_ n4_; clear hg hw hp_))
                repeat (go_quiet (first | ((with_reducible refine gate_store (t := 4) (p := 81) rfl ?_); (try (rw [dself_ wr]; generalize hq_ : World.drewN wr _ = wr; have n0_ := Aside0.mk (Kd.R_at hq_ HO_3.out); have n1_ := Aside0.mk (Kd.R_at hq_ HO_4.out); have n2_ := Aside0.mk (Kd.R_at hq_ HO_5.out); have n3_ := Aside0.mk (Kd.R_at hq_ HO_9.out); have n4_ := Aside0.mk (below_at hq_ HB.out); clear hq_ HO_3 HO_4 HO_5 HO_9 HB; have HO_3 := n0_; have HO_4 := n1_; have HO_5 := n2_; have HO_9 := n3_; have HB := n4_; clear n0_ n1_ n2_ n3_ n4_; (try (have HP39 := Kd.R_putg HO_9.out ((rd t563 x10_2) : Int) true)); (try (obtain ⟨hxr_, hfr_⟩ := Kd.R_celln false HO_9.out ((rd t563 x10_2) : Int) (of_decide_eq_true (by first | (with_reducible assumption) | assumption)) (of_decide_eq_true (by first | (with_reducible assumption) | assumption)))))); refine store_event (t := 4) (p := 81) (v := ?vo_w40) (w1 := (wr.setCell ⟨go37, ((rd t563 x10_2) : Int).toNat, none⟩ (.bool true))) ?hg ?ho ?hn ?hr ?_; (case ho => rfl); (case hg => rfl); (case hn => rfl); (case hr => first | (go_simp; done) | (go_simp; rfl)); intro w40 hw; have hg : wr.grownBy w40 (some go37) := (by rw [hw]; exact HP39.2); have hp_ : Kd.R Kd.bool 4 w40 w.heap.size (fun _ => True) (.slice (some ⟨go37, 0, none⟩) x9_2.length co37) y579 := (by rw [hw, Ny579.out]; exact HP39.1); clear HP39; have n0_ := Aside0.mk (Kd.R_over' (v := (.slice (some ⟨go37, 0, none⟩) x9_2.length co37)) (by (with_reducible repeat (first | apply Kd.R_alloc | apply Kd.R_drewN | apply Kd.R_drew)); exact HO_3.out) (Kd.R_typed HO_9.out) (by decide) hg); have n1_ := Aside0.mk (Kd.R_over' (v := (.slice (some ⟨go37, 0, none⟩) x9_2.length co37)) (by (with_reducible repeat (first | apply Kd.R_alloc | apply Kd.R_drewN | apply Kd.R_drew)); exact HO_4.out) (Kd.R_typed HO_9.out) (by decide) hg); have n2_ := Aside0.mk (Kd.R_over' (v := (.slice (some ⟨go37, 0, none⟩) x9_2.length co37)) (by (with_reducible repeat (first | apply Kd.R_alloc | apply Kd.R_drewN | apply Kd.R_drew)); exact HO_5.out) (Kd.R_typed HO_9.out) (by decide) hg); have n3_ := Aside0.mk (hp_); have n4_ := Aside0.mk ((by rw [hw]; exact below_set (HB.out) GB37.out : Below w.heap.size w w40)); clear HO_3; clear HO_4; clear HO_5; clear HO_9; clear HB; have HO_3 := n0_; have HO_4 := n1_; have HO_5 := n2_; have HO_9 := n3_; have HB := n4_; clear n0_ n1_ n2_ n3_ n4_; clear hg hw hp_)); try go_wp2_with (first | ((with_reducible refine gate_store (t := 4) (p := 81) rfl ?_); (try (rw [dself_ wr]; generalize hq_ : World.drewN wr _ = wr; have n0_ := Aside0.mk (Kd.R_at hq_ HO_3.out); have n1_ := Aside0.mk (Kd.R_at hq_ HO_4.out); have n2_ := Aside0.mk (Kd.R_at hq_ HO_5.out); have n3_ := Aside0.mk (Kd.R_at hq_ HO_9.out); have n4_ := Aside0.mk (below_at hq_ HB.out); clear hq_ HO_3 HO_4 HO_5 HO_9 HB; have HO_3 := n0_; have HO_4 := n1_; have HO_5 := n2_; have HO_9 := n3_; have HB := n4_; clear n0_ n1_ n2_ n3_ n4_; (try (have HP39 := Kd.R_putg HO_9.out ((rd t563 x10_2) : Int) true)); (try (obtain ⟨hxr_, hfr_⟩ := Kd.R_celln false HO_9.out ((rd t563 x10_2) : Int) (of_decide_eq_true (by first | (with_reducible assumption) | assumption)) (of_decide_eq_true (by first | (with_reducible assumption) | assumption)))))); refine store_event (t := 4) (p := 81) (v := ?vo_w40) (w1 := (wr.setCell ⟨go37, ((rd t563 x10_2) : Int).toNat, none⟩ (.bool true))) ?hg ?ho ?hn ?hr ?_; (case ho => rfl); (case hg => rfl); (case hn => rfl); (case hr => first | (go_simp; done) | (go_simp; rfl)); intro w40 hw; have hg : wr.grownBy w40 (some go37) := (by rw [hw]; exact HP39.2); have hp_ : Kd.R Kd.bool 4 w40 w.heap.size (fun _ => True) (.slice (some ⟨go37, 0, none⟩) x9_2.length co37) y579 := (by rw [hw, Ny579.out]; exact HP39.1); clear HP39; have n0_ := Aside0.mk (Kd.R_over' (v := (.slice (some ⟨go37, 0, none⟩) x9_2.length co37)) (by (with_reducible repeat (first | apply Kd.R_alloc | apply Kd.R_drewN | apply Kd.R_drew)); exact HO_3.out) (Kd.R_typed HO_9.out) (by decide) hg); have n1_ := Aside0.mk (Kd.R_over' (v := (.slice (some ⟨go37, 0, none⟩) x9_2.length co37)) (by (with_reducible repeat (first | apply Kd.R_alloc | apply Kd.R_drewN | apply Kd.R_drew)); exact HO_4.out) (Kd.R_typed HO_9.out) (by decide) hg); have n2_ := Aside0.mk (Kd.R_over' (v := (.slice (some ⟨go37, 0, none⟩) x9_2.length co37)) (by (with_reducible repeat (first | apply Kd.R_alloc | apply Kd.R_drewN | apply Kd.R_drew)); exact HO_5.out) (Kd.R_typed HO_9.out) (by decide) hg); have n3_ := Aside0.mk (hp_); have n4_ := Aside0.mk ((by rw [hw]; exact below_set (HB.out) GB37.out : Below w.heap.size w w40)); clear HO_3; clear HO_4; clear HO_5; clear HO_9; clear HB; have HO_3 := n0_; have HO_4 := n1_; have HO_5 := n2_; have HO_9 := n3_; have HB := n4_; clear n0_ n1_ n2_ n3_ n4_; clear hg hw hp_)))
                go_roundg k2
                case measure => have := HJ5.out; have := HK2.out; omega
                case rel => exact ⟨(y579), (wrap64 (x10_2 + 1)), (by first | rfl | (simp; done) | (simp [*]; done)), H', ⟨by have := HJ5.out; have := HK2.out; omega⟩, ⟨by (with_reducible repeat (first | apply Kd.R_alloc | apply Kd.R_drewN | apply Kd.R_drew)); exact HO_3.out⟩, ⟨by (with_reducible repeat (first | apply Kd.R_alloc | apply Kd.R_drewN | apply Kd.R_drew)); exact HO_4.out⟩, ⟨by (with_reducible repeat (first | apply Kd.R_alloc | apply Kd.R_drewN | apply Kd.R_drew)); exact HO_5.out⟩, ⟨by (with_reducible repeat (first | apply Kd.R_alloc | apply Kd.R_drewN | apply Kd.R_drew)); exact HO_9.out⟩, ⟨by repeat (first | (with_reducible first | exact HB.out | apply below_alloc | apply pw_below_drewN | apply below_drew1) | exact HB.out)⟩⟩
               ·rw [if_neg c36] at H
                exact absurd H (by simp)
              ·rw [if_neg c35] at H
               exact absurd H (by simp)
            ·rw [if_neg c32] at H
             exact absurd H (by simp)
           ·rw [if_neg c31] at H
            exact absurd H (by simp)
          ·rw [if_neg c29] at H
           exact absurd H (by simp)
         ·rw [if_neg c28] at H
          have c28b0 : decide (0 < x10_2) = false := decide_eq_false c28
          clear c28
          by_cases c41 : 0 ≤ x10_2
          ·rw [if_pos c41] at H
           have c41b0 : decide (0 ≤ x10_2) = true := decide_eq_true c41
           clear c41
           by_cases c42 : 0 ≤ (rd t563 x10_2)
           ·rw [if_pos c42] at H
            have c42b0 : decide (0 ≤ (rd t563 x10_2)) = true := decide_eq_true c42
            clear c42
            by_cases c43 : (rd t563 x10_2) < (x9_2.length : Int)
            ·rw [if_pos c43] at H
             have c43b0 : decide ((rd t563 x10_2) < (x9_2.length : Int)) = true := decide_eq_true c43
             clear c43
             obtain ⟨y581, hy581⟩ : ∃ y_ : List Bool, y_ = (x9_2.set ((rd t563 x10_2) : Int).toNat true) := ⟨_, rfl⟩
             replace H : (laws_FnSpan.l0 k2 t557 t558 t563 y581 (wrap64 (x10_2 + 1))) = some r := by first | (rw [hy581]; with_reducible exact H) | (have H2_ := (Option.bind_some _ _).symm.trans H; rw [hy581]; with_reducible exact H2_) | (have H2_ := (Option.bind_some _ _).symm.trans H; with_reducible exact H2_) | with_reducible exact H | (rw [hy581]; exact H) | exact H
             have Ny581 := Aside0.mk hy581
             clear hy581
             have H' := Aside0.mk H
             clear H
             obtain ⟨Ao45, co45, eo45⟩ := Kd.R_slice HO_5.out
             subst eo45
             have p580 : 0 ≤ (x10_2 : Int) := of_decide_eq_true (by first | (with_reducible assumption) | assumption)
             have q580 : x10_2 < (t563.length : Int) := of_decide_eq_true (by first | (with_reducible assumption) | assumption)
             obtain ⟨ad580, e580, hx580_0⟩ := Kd.at_int (Kd.R_reads' HO_5.out).2.2 x10_2 p580 q580
             cases e580
             replace p580 := eq_true p580
             replace q580 := eq_true q580
             have p44 : 0 ≤ ((rd t563 x10_2) : Int) := of_decide_eq_true (by first | (with_reducible assumption) | assumption)
             have q44 : ((rd t563 x10_2) : Int) < ((x9_2.length : Int) : Int) := of_decide_eq_true (by first | (with_reducible assumption) | assumption)
             obtain ⟨go44, co44, eo44, gb44, gl44, cl44, HG44⟩ := Kd.R_form HO_9.out (by omega)
             (first | cases eo44 | (injection eo44 with ea_ en_ ec_; (first | subst ea_ | (injection ea_ with ea_; subst ea_)); subst ec_; clear en_))
             have GB44 := Aside0.mk gb44
             have GG44 := Aside0.mk HG44
             clear gb44 gl44 HG44
             obtain ⟨hx44_0, hf44_0⟩ := Kd.R_celln false HO_9.out ((rd t563 x10_2) : Int) p44 q44
             replace p44 := eq_true p44
             replace q44 := eq_true q44
             have HP46 := Kd.R_putg HO_9.out ((rd t563 x10_2) : Int) true
             go_wp2_with (first | ((with_reducible refine gate_store (t := 4) (p := 81) rfl ?_); (try (rw [dself_ wr]; generalize hq_ : World.drewN wr _ = wr; have n0_ := Aside0.mk (Kd.R_at hq_ HO_3.out); have n1_ := Aside0.mk (Kd.R_at hq_ HO_4.out); have n2_ := Aside0.mk (Kd.R_at hq_ HO_5.out); have n3_ := Aside0.mk (Kd.R_at hq_ HO_9.out); have n4_ := Aside0.mk (below_at hq_ HB.out); clear hq_ HO_3 HO_4 HO_5 HO_9 HB; have HO_3 := n0_; have HO_4 := n1_; have HO_5 := n2_; have HO_9 := n3_; have HB := n4_; clear n0_ n1_ n2_ n3_ n4_; (try (have HP46 := Kd.R_putg HO_9.out ((rd t563 x10_2) : Int) true)); (try (obtain ⟨hxr_, hfr_⟩ := Kd.R_celln false HO_9.out ((rd t563 x10_2) : Int) (of_decide_eq_true (by first | (with_reducible assumption) | assumption)) (of_decide_eq_true (by first | (with_reducible assumption) | assumption)))))); refine store_event (t := 4) (p := 81) (v := ?vo_w47) (w1 := (wr.setCell ⟨go44, ((rd t563 x10_2) : Int).toNat, none⟩ (.bool true))) ?hg ?ho ?hn ?hr ?_; (case ho => rfl); (case hg => rfl); (case hn => rfl); (case hr => first | (go_simp; done) | (go_simp; rfl)); intro w47 hw; have hg : wr.grownBy w47 (some go44) := (by rw [hw]; exact HP46.2); have hp_ : Kd.R Kd.bool 4 w47 w.heap.size (fun _ => True) (.slice (some ⟨go44, 0, none⟩) x9_2.length co44) y581 := (by rw [hw, Ny581.out]; exact HP46.1); clear HP46; have n0_ := Aside0.mk (Kd.R_over' (v := (.slice (some ⟨go44, 0, none⟩) x9_2.length co44)) (by (with_reducible repeat (first | apply Kd.R_alloc | apply Kd.R_drewN | apply Kd.R_drew)); exact HO_3.out) (Kd.R_typed HO_9.out) (by decide) hg); have n1_ := Aside0.mk (Kd.R_over' (v := (.slice (some ⟨go44, 0, none⟩) x9_2.length co44)) (by (with_reducible repeat (first | apply Kd.R_alloc | apply Kd.R_drewN | apply Kd.R_drew)); exact HO_4.out) (Kd.R_typed HO_9.out) (by decide) hg); have n2_ := Aside0.mk (Kd.R_over' (v := (.slice (some ⟨go44, 0, none⟩) x9_2.length co44)) (by (with_reducible repeat (first | apply Kd.R_alloc | apply Kd.R_drewN | apply Kd.R_drew)); exact HO_5.out) (Kd.R_typed HO_9.out) (by decide) hg); have n3_ := Aside0.mk (hp_); have n4_ := Aside0.mk ((by rw [hw]; exact below_set (HB.out) GB44.out : Below w.heap.size w w47)); clear HO_3; clear HO_4; clear HO_5; clear HO_9; clear HB; have HO_3 := n0_; have HO_4 := n1_; have HO_5 := n2_; have HO_9 := n3_; have HB := n4_; clear n0_ n1_ n2_ n3_ n4_; clear hg hw hp_))
             repeat (go_quiet (first | ((with_reducible refine gate_store (t := 4) (p := 81) rfl ?_); (try (rw [dself_ wr]; generalize hq_ : World.drewN wr _ = wr; have n0_ := Aside0.mk (Kd.R_at hq_ HO_3.out); have n1_ := Aside0.mk (Kd.R_at hq_ HO_4.out); have n2_ := Aside0.mk (Kd.R_at hq_ HO_5.out); have n3_ := Aside0.mk (Kd.R_at hq_ HO_9.out); have n4_ := Aside0.mk (below_at hq_ HB.out); clear hq_ HO_3 HO_4 HO_5 HO_9 HB; have HO_3 := n0_; have HO_4 := n1_; have HO_5 := n2_; have HO_9 := n3_; have HB := n4_; clear n0_ n1_ n2_ n3_ n4_; (try (have HP46 := Kd.R_putg HO_9.out ((rd t563 x10_2) : Int) true)); (try (obtain ⟨hxr_, hfr_⟩ := Kd.R_celln false HO_9.out ((rd t563 x10_2) : Int) (of_decide_eq_true (by first | (with_reducible assumption) | assumption)) (of_decide_eq_true (by first | (with_reducible assumption) | assumption)))))); refine store_event (t := 4) (p := 81) (v := ?vo_w47) (w1 := (wr.setCell ⟨go44, ((rd t563 x10_2) : Int).toNat, none⟩ (.bool true))) ?hg ?ho ?hn ?hr ?_; (case ho => rfl); (case hg => rfl); (case hn => rfl); (case hr => first | (go_simp; done) | (go_simp; rfl)); intro w47 hw; have hg : wr.grownBy w47 (some go44) := (by rw [hw]; exact HP46.2); have hp_ : Kd.R Kd.bool 4 w47 w.heap.size (fun _ => True) (.slice (some ⟨go44, 0, none⟩) x9_2.length co44) y581 := (by rw [hw, Ny581.out]; exact HP46.1); clear HP46; have n0_ := Aside0.mk (Kd.R_over' (v := (.slice (some ⟨go44, 0, none⟩) x9_2.length co44)) (by (with_reducible repeat (first | apply Kd.R_alloc | apply Kd.R_drewN | apply Kd.R_drew)); exact HO_3.out) (Kd.R_typed HO_9.out) (by decide) hg); have n1_ := Aside0.mk (Kd.R_over' (v := (.slice (some ⟨go44, 0, none⟩) x9_2.length co44)) (by (with_reducible repeat (first | apply Kd.R_alloc | apply Kd.R_drewN | apply Kd.R_drew)); exact HO_4.out) (Kd.R_typed HO_9.out) (by decide) hg); have n2_ := Aside0.mk (Kd.R_over' (v := (.slice (some ⟨go44, 0, none⟩) x9_2.length co44)) (by (with_reducible repeat (first | apply Kd.R_alloc | apply Kd.R_drewN | apply Kd.R_drew)); exact HO_5.out) (Kd.R_typed HO_9.out) (by decide) hg); have n3_ := Aside0.mk (hp_); have n4_ := Aside0.mk ((by rw [hw]; exact below_set (HB.out) GB44.out : Below w.heap.size w w47)); clear HO_3; clear HO_4; clear HO_5; clear HO_9; clear HB; have HO_3 := n0_; have HO_4 := n1_; have HO_5 := n2_; have HO_9 := n3_; have HB := n4_; clear n0_ n1_ n2_ n3_ n4_; clear hg hw hp_)); try go_wp2_with (first | ((with_reducible refine gate_store (t := 4) (p := 81) rfl ?_); (try (rw [dself_ wr]; generalize hq_ : World.drewN wr _ = wr; have n0_ := Aside0.mk (Kd.R_at hq_ HO_3.out); have n1_ := Aside0.mk (Kd.R_at hq_ HO_4.out); have n2_ := Aside0.mk (Kd.R_at hq_ HO_5.out); have n3_ := Aside0.mk (Kd.R_at hq_ HO_9.out); have n4_ := Aside0.mk (below_at hq_ HB.out); clear hq_ HO_3 HO_4 HO_5 HO_9 HB; have HO_3 := n0_; have HO_4 := n1_; have HO_5 := n2_; have HO_9 := n3_; have HB := n4_; clear n0_ n1_ n2_ n3_ n4_; (try (have HP46 := Kd.R_putg HO_9.out ((rd t563 x10_2) : Int) true)); (try (obtain ⟨hxr_, hfr_⟩ := Kd.R_celln false HO_9.out ((rd t563 x10_2) : Int) (of_decide_eq_true (by first | (with_reducible assumption) | assumption)) (of_decide_eq_true (by first | (with_reducible assumption) | assumption)))))); refine store_event (t := 4) (p := 81) (v := ?vo_w47) (w1 := (wr.setCell ⟨go44, ((rd t563 x10_2) : Int).toNat, none⟩ (.bool true))) ?hg ?ho ?hn ?hr ?_; (case ho => rfl); (case hg => rfl); (case hn => rfl); (case hr => first | (go_simp; done) | (go_simp; rfl)); intro w47 hw; have hg : wr.grownBy w47 (some go44) := (by rw [hw]; exact HP46.2); have hp_ : Kd.R Kd.bool 4 w47 w.heap.size (fun _ => True) (.slice (some ⟨go44, 0, none⟩) x9_2.length co44) y581 := (by rw [hw, Ny581.out]; exact HP46.1); clear HP46; have n0_ := Aside0.mk (Kd.R_over' (v := (.slice (some ⟨go44, 0, none⟩) x9_2.length co44)) (by (with_reducible repeat (first | apply Kd.R_alloc | apply Kd.R_drewN | apply Kd.R_drew)); exact HO_3.out) (Kd.R_typed HO_9.out) (by decide) hg); have n1_ := Aside0.mk (Kd.R_over' (v := (.slice (some ⟨go44, 0, none⟩) x9_2.length co44)) (by (with_reducible repeat (first | apply Kd.R_alloc | apply Kd.R_drewN | apply Kd.R_drew)); exact HO_4.out) (Kd.R_typed HO_9.out) (by decide) hg); have n2_ := Aside0.mk (Kd.R_over' (v := (.slice (some ⟨go44, 0, none⟩) x9_2.length co44)) (by (with_reducible repeat (first | apply Kd.R_alloc | apply Kd.R_drewN | apply Kd.R_drew)); exact HO_5.out) (Kd.R_typed HO_9.out) (by decide) hg); have n3_ := Aside0.mk (hp_); have n4_ := Aside0.mk ((by rw [hw]; exact below_set (HB.out) GB44.out : Below w.heap.size w w47)); clear HO_3; clear HO_4; clear HO_5; clear HO_9; clear HB; have HO_3 := n0_; have HO_4 := n1_; have HO_5 := n2_; have HO_9 := n3_; have HB := n4_; clear n0_ n1_ n2_ n3_ n4_; clear hg hw hp_)))
             go_roundg k2
             case measure => have := HJ5.out; have := HK2.out; omega
             case rel => exact ⟨(y581), (wrap64 (x10_2 + 1)), (by first | rfl | (simp; done) | (simp [*]; done)), H', ⟨by have := HJ5.out; have := HK2.out; omega⟩, ⟨by (with_reducible repeat (first | apply Kd.R_alloc | apply Kd.R_drewN | apply Kd.R_drew)); exact HO_3.out⟩, ⟨by (with_reducible repeat (first | apply Kd.R_alloc | apply Kd.R_drewN | apply Kd.R_drew)); exact HO_4.out⟩, ⟨by (with_reducible repeat (first | apply Kd.R_alloc | apply Kd.R_drewN | apply Kd.R_drew)); exact HO_5.out⟩, ⟨by (with_reducible repeat (first | apply Kd.R_alloc | apply Kd.R_drewN | apply Kd.R_drew)); exact HO_9.out⟩, ⟨by repeat (first | (with_reducible first | exact HB.out | apply below_alloc | apply pw_below_drewN | apply below_drew1) | exact HB.out)⟩⟩
            ·rw [if_neg c43] at H
             exact absurd H (by simp)
           ·rw [if_neg c42] at H
            exact absurd H (by simp)
          ·rw [if_neg c41] at H
           exact absurd H (by simp)
        ·rw [if_neg c27] at H
         have c27b0 : decide (x10_2 < (t563.length : Int)) = false := decide_eq_false c27
         clear c27
         have H' := Aside0.mk H
         clear H
         obtain ⟨Ao48, co48, eo48⟩ := Kd.R_slice HO_5.out
         subst eo48
         go_wp2
         repeat (go_quiet (fail); try go_wp2)
         go_loopg [11] k2 (fun kq v11 w' => ∃ (x11_3 : Int), v11 = .int .i64 x11_3 ∧ Aside0 (laws_FnSpan.l1 kq t557 t558 x9_2 x11_3 = some r) ∧ Aside0 (kq ≤ k2) ∧ Aside0 (Kd.R (Kd.int .i64) 3 w' w.heap.size (fun k_ => some k_ ≠ ((.slice Ao9 t558.length co9) : Value).ownBlock) (.slice Ao8 t557.length co8) t557) ∧ Aside0 (Kd.R (Kd.int .i64) 3 w' w.heap.size (fun k_ => some k_ ≠ ((.slice Ao8 t557.length co8) : Value).ownBlock) (.slice Ao9 t558.length co9) t558) ∧ Aside0 (Kd.R Kd.bool 4 w' w.heap.size (fun _ => True) v574 x9_2) ∧ Aside0 (Below w.heap.size w w'))
         case atStart => exact ⟨(0), (by first | rfl | (simp; done) | (simp [*]; done)), H', ⟨Nat.le_refl _⟩, ⟨by (with_reducible repeat (first | apply Kd.R_alloc | apply Kd.R_drewN | apply Kd.R_drew)); exact Kd.R_mono HO_3.out (fun _ hk => hk.1)⟩, ⟨by (with_reducible repeat (first | apply Kd.R_alloc | apply Kd.R_drewN | apply Kd.R_drew)); exact Kd.R_mono HO_4.out (fun _ hk => hk.1)⟩, ⟨by (with_reducible repeat (first | apply Kd.R_alloc | apply Kd.R_drewN | apply Kd.R_drew)); exact HO_9.out⟩, ⟨by repeat (first | (with_reducible first | exact HB.out | apply below_alloc | apply pw_below_drewN | apply below_drew1) | exact HB.out)⟩⟩
         case round =>
          clear H'
          try clear c1
          try clear c2
          try clear c2b0
          try clear c2b1
          try clear p2
          try clear c3
          try clear p3
          try clear q3
          try clear hx3
          try clear hf3
          try clear c4
          try clear p4
          try clear q4
          try clear hx4
          try clear hf4
          try clear p5
          try clear q5
          try clear hx5
          try clear p6
          try clear c7
          try clear c12
          try clear c12b0
          try clear c12b1
          try clear c12b2
          try clear c14
          try clear c19
          try clear c20
          try clear c20b0
          try clear c20b1
          try clear c20b2
          try clear c24
          try clear c24b0
          try clear c24b1
          try clear c27
          try clear c27b0
          try clear c28
          try clear c28b0
          try clear c29
          try clear c29b0
          try clear c31
          try clear c31b0
          try clear c32
          try clear c32b0
          try clear c33
          try clear c33b0
          try clear c35
          try clear c35b0
          try clear c36
          try clear c36b0
          try clear p37
          try clear q37
          try clear hx37
          try clear hf37
          try clear c41
          try clear c41b0
          try clear c42
          try clear c42b0
          try clear c43
          try clear c43b0
          try clear p44
          try clear q44
          try clear hx44
          try clear hf44
          try clear hx37_0
          try clear hx44_0
          try clear hx576_0
          try clear hx577_0
          try clear hx578_0
          try clear hx580_0
          try clear p2
          try clear p37
          try clear p44
          try clear p576
          try clear p577
          try clear p578
          try clear p580
          try clear q37
          try clear q44
          try clear q576
          try clear q577
          try clear q578
          try clear q580
          obtain ⟨x11_3, rfl, HA, HK3, HO_3, HO_4, HO_9, HB⟩ := hrel
          cases gk with
          | zero => exact absurd HA.out (by simp [laws_FnSpan.l1])
          | succ k3 =>
           have H := HA.out
           clear HA
           simp only [laws_FnSpan.l1] at H
           by_cases c49 : x11_3 < (t558.length : Int)
           ·rw [if_pos c49] at H
            have c49b0 : decide (x11_3 < (t558.length : Int)) = true := decide_eq_true c49
            clear c49
            by_cases c50 : 0 ≤ x11_3
            ·rw [if_pos c50] at H
             have c50b0 : decide (0 ≤ x11_3) = true := decide_eq_true c50
             clear c50
             by_cases c51 : 0 ≤ (rd t558 x11_3)
             ·rw [if_pos c51] at H
              have c51b0 : decide (0 ≤ (rd t558 x11_3)) = true := decide_eq_true c51
              clear c51
              by_cases c52 : (rd t558 x11_3) < (x9_2.length : Int)
              ·rw [if_pos c52] at H
               have c52b0 : decide ((rd t558 x11_3) < (x9_2.length : Int)) = true := decide_eq_true c52
               clear c52
               obtain ⟨bq53, hbq53⟩ : ∃ b_ : Bool, b_ = (rdOf false x9_2 (rd t558 x11_3)) := ⟨_, rfl⟩
               replace H : (if (bq53 = true) then (laws_FnSpan.l1 k3 t557 t558 x9_2 (wrap64 (x11_3 + 1))) else (some false)) = some r := by rw [← hbq53] at H; exact H
               have Nbq53 := Aside0.mk hbq53
               clear hbq53
               by_cases c54 : (bq53 = true)
               ·subst c54
                have H1 : (laws_FnSpan.l1 k3 t557 t558 x9_2 (wrap64 (x11_3 + 1))) = some r := by rw [if_pos rfl] at H; exact H
                clear H
                have H := H1
                clear H1
                have H' := Aside0.mk H
                clear H
                have p582 : 0 ≤ (x11_3 : Int) := of_decide_eq_true (by first | (with_reducible assumption) | assumption)
                have q582 : x11_3 < (t558.length : Int) := of_decide_eq_true (by first | (with_reducible assumption) | assumption)
                obtain ⟨ad582, e582, hx582_0⟩ := Kd.at_int (Kd.R_reads' HO_4.out).2.2 x11_3 p582 q582
                cases e582
                replace p582 := eq_true p582
                replace q582 := eq_true q582
                obtain ⟨Ao55, co55, eo55⟩ := Kd.R_slice HO_9.out
                subst eo55
                have p583 : 0 ≤ ((rd t558 x11_3) : Int) := of_decide_eq_true (by first | (with_reducible assumption) | assumption)
                have q583 : (rd t558 x11_3) < (x9_2.length : Int) := of_decide_eq_true (by first | (with_reducible assumption) | assumption)
                obtain ⟨ad583, e583, hx583_0⟩ := Kd.at_bool (Kd.R_reads' HO_9.out).2.2 (rd t558 x11_3) p583 q583
                (try rw [← Nbq53.out] at hx583_0)
                cases e583
                replace p583 := eq_true p583
                replace q583 := eq_true q583
                go_wp2
                repeat (go_quiet (fail); try go_wp2)
                go_roundg k3
                case measure => have := HJ5.out; have := HK2.out; have := HK3.out; omega
                case rel => exact ⟨(wrap64 (x11_3 + 1)), (by first | rfl | (simp; done) | (simp [*]; done)), H', ⟨by have := HJ5.out; have := HK2.out; have := HK3.out; omega⟩, ⟨by (with_reducible repeat (first | apply Kd.R_alloc | apply Kd.R_drewN | apply Kd.R_drew)); exact HO_3.out⟩, ⟨by (with_reducible repeat (first | apply Kd.R_alloc | apply Kd.R_drewN | apply Kd.R_drew)); exact HO_4.out⟩, ⟨by (with_reducible repeat (first | apply Kd.R_alloc | apply Kd.R_drewN | apply Kd.R_drew)); exact HO_9.out⟩, ⟨by repeat (first | (with_reducible first | exact HB.out | apply below_alloc | apply pw_below_drewN | apply below_drew1) | exact HB.out)⟩⟩
               ·replace c54 := Bool.eq_false_iff.mpr c54
                subst c54
                have H1 : (some false) = some r := by rw [if_neg (show ¬ (false = true) by decide)] at H; exact H
                clear H
                have H := H1
                clear H1
                obtain rfl := Option.some.inj H
                have p582 : 0 ≤ (x11_3 : Int) := of_decide_eq_true (by first | (with_reducible assumption) | assumption)
                have q582 : x11_3 < (t558.length : Int) := of_decide_eq_true (by first | (with_reducible assumption) | assumption)
                obtain ⟨ad582, e582, hx582_0⟩ := Kd.at_int (Kd.R_reads' HO_4.out).2.2 x11_3 p582 q582
                cases e582
                replace p582 := eq_true p582
                replace q582 := eq_true q582
                obtain ⟨Ao56, co56, eo56⟩ := Kd.R_slice HO_9.out
                subst eo56
                have p583 : 0 ≤ ((rd t558 x11_3) : Int) := of_decide_eq_true (by first | (with_reducible assumption) | assumption)
                have q583 : (rd t558 x11_3) < (x9_2.length : Int) := of_decide_eq_true (by first | (with_reducible assumption) | assumption)
                obtain ⟨ad583, e583, hx583_0⟩ := Kd.at_bool (Kd.R_reads' HO_9.out).2.2 (rd t558 x11_3) p583 q583
                (try rw [← Nbq53.out] at hx583_0)
                cases e583
                replace p583 := eq_true p583
                replace q583 := eq_true q583
                go_wp2
                repeat (go_quiet (fail); try go_wp2)
                go_ret
                exact ⟨by first | rfl | (simp [errW_none, errW_some] <;> rfl) | (simp [*, errW_none, errW_some] <;> rfl), by repeat (first | (with_reducible first | exact HB.out | apply below_alloc | apply pw_below_drewN | apply below_drew1) | exact HB.out)⟩
              ·rw [if_neg c52] at H
               exact absurd H (by simp)
             ·rw [if_neg c51] at H
              exact absurd H (by simp)
            ·rw [if_neg c50] at H
             exact absurd H (by simp)
           ·rw [if_neg c49] at H
            have c49b0 : decide (x11_3 < (t558.length : Int)) = false := decide_eq_false c49
            clear c49
            replace H := Option.bind_eq_some_iff.mp H
            obtain ⟨⟨t584, t585⟩, A570, H⟩ := H
            replace H : (if t585 = true then (if 0 < (t584.length : Int) then (if 0 ≤ (rd t584 0) then (if (rd t584 0) < (x9_2.length : Int) then (if rdOf false x9_2 (rd t584 0) = true then (if 1 < (t584.length : Int) then (if 0 ≤ (rd t584 1) then (if (rd t584 1) < (x9_2.length : Int) then (if rdOf false x9_2 (rd t584 1) = true then (if 2 < (t584.length : Int) then (if 0 ≤ (rd t584 2) then (if (rd t584 2) < (x9_2.length : Int) then (some (rdOf false x9_2 (rd t584 2))) else (none)) else (none)) else (none)) else (some false)) else (none)) else (none)) else (none)) else (some false)) else (none)) else (none)) else (none)) else (some true)) = some r := H
            have A57 := Aside0.mk A570
            clear A570
            by_cases c58 : t585 = true
            ·subst c58
             have H1 : (if 0 < (t584.length : Int) then (if 0 ≤ (rd t584 0) then (if (rd t584 0) < (x9_2.length : Int) then (if rdOf false x9_2 (rd t584 0) = true then (if 1 < (t584.length : Int) then (if 0 ≤ (rd t584 1) then (if (rd t584 1) < (x9_2.length : Int) then (if rdOf false x9_2 (rd t584 1) = true then (if 2 < (t584.length : Int) then (if 0 ≤ (rd t584 2) then (if (rd t584 2) < (x9_2.length : Int) then (some (rdOf false x9_2 (rd t584 2))) else (none)) else (none)) else (none)) else (some false)) else (none)) else (none)) else (none)) else (some false)) else (none)) else (none)) else (none)) = some r := by rw [if_pos rfl] at H; exact H
             clear H
             have H := H1
             clear H1
             by_cases c59 : 0 < (t584.length : Int)
             ·rw [if_pos c59] at H
              have c59b0 : decide (0 < (t584.length : Int)) = true := decide_eq_true c59
              have c59b1 : decide (0 < t584.length) = true := decide_eq_true (by omega)
              clear c59
              by_cases c60 : 0 ≤ (rd t584 0)
              ·rw [if_pos c60] at H
               have c60b0 : decide (0 ≤ (rd t584 0)) = true := decide_eq_true c60
               clear c60
               by_cases c61 : (rd t584 0) < (x9_2.length : Int)
               ·rw [if_pos c61] at H
                have c61b0 : decide ((rd t584 0) < (x9_2.length : Int)) = true := decide_eq_true c61
                clear c61
                obtain ⟨bq62, hbq62⟩ : ∃ b_ : Bool, b_ = (rdOf false x9_2 (rd t584 0)) := ⟨_, rfl⟩
                replace H : (if bq62 = true then (if 1 < (t584.length : Int) then (if 0 ≤ (rd t584 1) then (if (rd t584 1) < (x9_2.length : Int) then (if rdOf false x9_2 (rd t584 1) = true then (if 2 < (t584.length : Int) then (if 0 ≤ (rd t584 2) then (if (rd t584 2) < (x9_2.length : Int) then (some (rdOf false x9_2 (rd t584 2))) else (none)) else (none)) else (none)) else (some false)) else (none)) else (none)) else (none)) else (some false)) = some r := by rw [← hbq62] at H; exact H
                have Nbq62 := Aside0.mk hbq62
                clear hbq62
                by_cases c63 : bq62 = true
                ·subst c63
                 have H1 : (if 1 < (t584.length : Int) then (if 0 ≤ (rd t584 1) then (if (rd t584 1) < (x9_2.length : Int) then (if rdOf false x9_2 (rd t584 1) = true then (if 2 < (t584.length : Int) then (if 0 ≤ (rd t584 2) then (if (rd t584 2) < (x9_2.length : Int) then (some (rdOf false x9_2 (rd t584 2))) else (none)) else (none)) else (none)) else (some false)) else (none)) else (none)) else (none)) = some r := by rw [if_pos rfl] at H; exact H
                 clear H
                 have H := H1
                 clear H1
                 by_cases c64 : 1 < (t584.length : Int)
                 ·rw [if_pos c64] at H
                  have c64b0 : decide (1 < (t584.length : Int)) = true := decide_eq_true c64
                  have c64b1 : decide (1 < t584.length) = true := decide_eq_true (by omega)
                  clear c64
                  by_cases c65 : 0 ≤ (rd t584 1)
                  ·rw [if_pos c65] at H
                   have c65b0 : decide (0 ≤ (rd t584 1)) = true := decide_eq_true c65
                   clear c65
                   by_cases c66 : (rd t584 1) < (x9_2.length : Int)
                   ·rw [if_pos c66] at H
                    have c66b0 : decide ((rd t584 1) < (x9_2.length : Int)) = true := decide_eq_true c66
                    clear c66
                    obtain ⟨bq67, hbq67⟩ : ∃ b_ : Bool, b_ = (rdOf false x9_2 (rd t584 1)) := ⟨_, rfl⟩
                    replace H : (if bq67 = true then (if 2 < (t584.length : Int) then (if 0 ≤ (rd t584 2) then (if (rd t584 2) < (x9_2.length : Int) then (some (rdOf false x9_2 (rd t584 2))) else (none)) else (none)) else (none)) else (some false)) = some r := by rw [← hbq67] at H; exact H
                    have Nbq67 := Aside0.mk hbq67
                    clear hbq67
                    by_cases c68 : bq67 = true
                    ·subst c68
                     have H1 : (if 2 < (t584.length : Int) then (if 0 ≤ (rd t584 2) then (if (rd t584 2) < (x9_2.length : Int) then (some (rdOf false x9_2 (rd t584 2))) else (none)) else (none)) else (none)) = some r := by rw [if_pos rfl] at H; exact H
                     clear H
                     have H := H1
                     clear H1
                     by_cases c69 : 2 < (t584.length : Int)
                     ·rw [if_pos c69] at H
                      have c69b0 : decide (2 < (t584.length : Int)) = true := decide_eq_true c69
                      have c69b1 : decide (2 < t584.length) = true := decide_eq_true (by omega)
                      clear c69
                      by_cases c70 : 0 ≤ (rd t584 2)
                      ·rw [if_pos c70] at H
                       have c70b0 : decide (0 ≤ (rd t584 2)) = true := decide_eq_true c70
                       clear c70
                       by_cases c71 : (rd t584 2) < (x9_2.length : Int)
                       ·rw [if_pos c71] at H
                        have c71b0 : decide ((rd t584 2) < (x9_2.length : Int)) = true := decide_eq_true c71
                        clear c71
                        obtain rfl := Option.some.inj H
                        go_wp2_with (first | (go_at_call 31; (with_reducible refine (impl_QuadPoints.calls k3 _ _ t557 _ _ t558 t584 true _ ?side1 ?side2 ?side3 ?side4 A57.out).mono ?_); (case side1 => repeat (first | exact (Kd.R_reads' HO_3.out).2.2 | (with_reducible refine Kd.C_alloc ?_ _) | (with_reducible refine Kd.C_drewN ?_ _) | (with_reducible refine Kd.C_drew ?_))); (case side2 => exact (Kd.R_reads' HO_3.out).2.1); (case side3 => repeat (first | exact (Kd.R_reads' HO_4.out).2.2 | (with_reducible refine Kd.C_alloc ?_ _) | (with_reducible refine Kd.C_drewN ?_ _) | (with_reducible refine Kd.C_drew ?_))); (case side4 => exact (Kd.R_reads' HO_4.out).2.1); rintro e w72 ⟨v586, rfl, ho0, hb⟩; have n0_ := Aside0.mk (Kd.R_elder' (by (with_reducible repeat (first | apply Kd.R_alloc | apply Kd.R_drewN | apply Kd.R_drew)); exact HO_3.out) (Kd.R_base ho0) hb); have n1_ := Aside0.mk (Kd.R_elder' (by (with_reducible repeat (first | apply Kd.R_alloc | apply Kd.R_drewN | apply Kd.R_drew)); exact HO_4.out) (Kd.R_base ho0) hb); have n2_ := Aside0.mk (Kd.R_below (by (with_reducible repeat (first | apply Kd.R_alloc | apply Kd.R_drewN | apply Kd.R_drew)); exact HO_9.out) hb); have n3_ := Aside0.mk (Kd.R_lower (Kd.R_new' (Kd.R_new' ho0 (Kd.R_lt (by (with_reducible repeat (first | apply Kd.R_alloc | apply Kd.R_drewN | apply Kd.R_drew)); exact HO_3.out))) (Kd.R_lt (by (with_reducible repeat (first | apply Kd.R_alloc | apply Kd.R_drewN | apply Kd.R_drew)); exact HO_4.out))) (below_size (by repeat (first | (with_reducible first | exact HB.out | apply below_alloc | apply pw_below_drewN | apply below_drew1) | exact HB.out)))); have n4_ := Aside0.mk (below_step (by repeat (first | (with_reducible first | exact HB.out | apply below_alloc | apply pw_below_drewN | apply below_drew1) | exact HB.out)) hb); clear HO_3; clear HO_4; clear HO_9; clear HB; have HO_3 := n0_; have HO_4 := n1_; have HO_9 := n2_; have HO587 := n3_; have HB := n4_; clear n0_ n1_ n2_ n3_ n4_; (try clear hb); (try clear hb2); (try clear hk); (try clear hi); (try clear ho0); obtain ⟨Ao73, co73, eo73⟩ := Kd.R_slice HO587.out; subst eo73; have p588 : 0 ≤ (0 : Int) := (by omega); have q588 : 0 < (t584.length : Int) := of_decide_eq_true (by first | (with_reducible assumption) | assumption); obtain ⟨ad588, e588, hx588_0⟩ := Kd.at_int (Kd.R_reads' HO587.out).2.2 0 p588 q588; cases e588; have qi588 : (0 < t584.length) = True := eq_true (by omega); (try rw [show ((0 : Int)).toNat = 0 from rfl] at hx588_0); (try rw [Addr.add_zero'] at hx588_0); replace p588 := eq_true p588; replace q588 := eq_true q588; obtain ⟨Ao74, co74, eo74⟩ := Kd.R_slice HO_9.out; subst eo74; have p589 : 0 ≤ ((rd t584 0) : Int) := of_decide_eq_true (by first | (with_reducible assumption) | assumption); have q589 : (rd t584 0) < (x9_2.length : Int) := of_decide_eq_true (by first | (with_reducible assumption) | assumption); obtain ⟨ad589, e589, hx589_0⟩ := Kd.at_bool (Kd.R_reads' HO_9.out).2.2 (rd t584 0) p589 q589; (try rw [← Nbq62.out] at hx589_0); (try rw [← Nbq67.out] at hx589_0); cases e589; replace p589 := eq_true p589; replace q589 := eq_true q589; have p590 : 0 ≤ (1 : Int) := (by omega); have q590 : 1 < (t584.length : Int) := of_decide_eq_true (by first | (with_reducible assumption) | assumption); obtain ⟨ad590, e590, hx590_0⟩ := Kd.at_int (Kd.R_reads' HO587.out).2.2 1 p590 q590; obtain rfl : ad588 = ad590 := (by injection e590); (try simp only [show (1 : Int).toNat = 1 from rfl, Nat.reduceMul, Nat.reduceEqDiff, Go.Addr.add, ↓reduceIte] at hx590_0); have qi590 : (1 < t584.length) = True := eq_true (by omega); (try rw [show ((1 : Int)).toNat = 1 from rfl] at hx590_0); replace p590 := eq_true p590; replace q590 := eq_true q590; have p591 : 0 ≤ ((rd t584 1) : Int) := of_decide_eq_true (by first | (with_reducible assumption) | assumption); have q591 : (rd t584 1) < (x9_2.length : Int) := of_decide_eq_true (by first | (with_reducible assumption) | assumption); obtain ⟨ad591, e591, hx591_0⟩ := Kd.at_bool (Kd.R_reads' HO_9.out).2.2 (rd t584 1) p591 q591; (try rw [← Nbq62.out] at hx591_0); (try rw [← Nbq67.out] at hx591_0); obtain rfl : ad589 = ad591 := (by injection e591); replace p591 := eq_true p591; replace q591 := eq_true q591; have p592 : 0 ≤ (2 : Int) := (by omega); have q592 : 2 < (t584.length : Int) := of_decide_eq_true (by first | (with_reducible assumption) | assumption); obtain ⟨ad592, e592, hx592_0⟩ := Kd.at_int (Kd.R_reads' HO587.out).2.2 2 p592 q592; obtain rfl : ad588 = ad592 := (by injection e592); (try simp only [show (2 : Int).toNat = 2 from rfl, Nat.reduceMul, Nat.reduceEqDiff, Go.Addr.add, ↓reduceIte] at hx592_0); have qi592 : (2 < t584.length) = True := eq_true (by omega); (try rw [show ((2 : Int)).toNat = 2 from rfl] at hx592_0); replace p592 := eq_true p592; replace q592 := eq_true q592; have p593 : 0 ≤ ((rd t584 2) : Int) := of_decide_eq_true (by first | (with_reducible assumption) | assumption); have q593 : (rd t584 2) < (x9_2.length : Int) := of_decide_eq_true (by first | (with_reducible assumption) | assumption); obtain ⟨ad593, e593, hx593_0⟩ := Kd.at_bool (Kd.R_reads' HO_9.out).2.2 (rd t584 2) p593 q593; (try rw [← Nbq62.out] at hx593_0); (try rw [← Nbq67.out] at hx593_0); obtain rfl : ad589 = ad593 := (by injection e593); replace p593 := eq_true p593; replace q593 := eq_true q593))
                        repeat (go_quiet (first | (go_at_call 31; (with_reducible refine (impl_QuadPoints.calls k3 _ _ t557 _ _ t558 t584 true _ ?side1 ?side2 ?side3 ?side4 A57.out).mono ?_); (case side1 => repeat (first | exact (Kd.R_reads' HO_3.out).2.2 | (with_reducible refine Kd.C_alloc ?_ _) | (with_reducible refine Kd.C_drewN ?_ _) | (with_reducible refine Kd.C_drew ?_))); (case side2 => exact (Kd.R_reads' HO_3.out).2.1); (case side3 => repeat (first | exact (Kd.R_reads' HO_4.out).2.2 | (with_reducible refine Kd.C_alloc ?_ _) | (with_reducible refine Kd.C_drewN ?_ _) | (with_reducible refine Kd.C_drew ?_))); (case side4 => exact (Kd.R_reads' HO_4.out).2.1); rintro e w72 ⟨v586, rfl, ho0, hb⟩; have n0_ := Aside0.mk (Kd.R_elder' (by (with_reducible repeat (first | apply Kd.R_alloc | apply Kd.R_drewN | apply Kd.R_drew)); exact HO_3.out) (Kd.R_base ho0) hb); have n1_ := Aside0.mk (Kd.R_elder' (by (with_reducible repeat (first | apply Kd.R_alloc | apply Kd.R_drewN | apply Kd.R_drew)); exact HO_4.out) (Kd.R_base ho0) hb); have n2_ := Aside0.mk (Kd.R_below (by (with_reducible repeat (first | apply Kd.R_alloc | apply Kd.R_drewN | apply Kd.R_drew)); exact HO_9.out) hb); have n3_ := Aside0.mk (Kd.R_lower (Kd.R_new' (Kd.R_new' ho0 (Kd.R_lt (by (with_reducible repeat (first | apply Kd.R_alloc | apply Kd.R_drewN | apply Kd.R_drew)); exact HO_3.out))) (Kd.R_lt (by (with_reducible repeat (first | apply Kd.R_alloc | apply Kd.R_drewN | apply Kd.R_drew)); exact HO_4.out))) (below_size (by repeat (first | (with_reducible first | exact HB.out | apply below_alloc | apply pw_below_drewN | apply below_drew1) | exact HB.out)))); have n4_ := Aside0.mk (below_step (by repeat (first | (with_reducible first | exact HB.out | apply below_alloc | apply pw_below_drewN | apply below_drew1) | exact HB.out)) hb); clear HO_3; clear HO_4; clear HO_9; clear HB; have HO_3 := n0_; have HO_4 := n1_; have HO_9 := n2_; have HO587 := n3_; have HB := n4_; clear n0_ n1_ n2_ n3_ n4_; (try clear hb); (try clear hb2); (try clear hk); (try clear hi); (try clear ho0); obtain ⟨Ao73, co73, eo73⟩ := Kd.R_slice HO587.out; subst eo73; have p588 : 0 ≤ (0 : Int) := (by omega); have q588 : 0 < (t584.length : Int) := of_decide_eq_true (by first | (with_reducible assumption) | assumption); obtain ⟨ad588, e588, hx588_0⟩ := Kd.at_int (Kd.R_reads' HO587.out).2.2 0 p588 q588; cases e588; have qi588 : (0 < t584.length) = True := eq_true (by omega); (try rw [show ((0 : Int)).toNat = 0 from rfl] at hx588_0); (try rw [Addr.add_zero'] at hx588_0); replace p588 := eq_true p588; replace q588 := eq_true q588; obtain ⟨Ao74, co74, eo74⟩ := Kd.R_slice HO_9.out; subst eo74; have p589 : 0 ≤ ((rd t584 0) : Int) := of_decide_eq_true (by first | (with_reducible assumption) | assumption); have q589 : (rd t584 0) < (x9_2.length : Int) := of_decide_eq_true (by first | (with_reducible assumption) | assumption); obtain ⟨ad589, e589, hx589_0⟩ := Kd.at_bool (Kd.R_reads' HO_9.out).2.2 (rd t584 0) p589 q589; (try rw [← Nbq62.out] at hx589_0); (try rw [← Nbq67.out] at hx589_0); cases e589; replace p589 := eq_true p589; replace q589 := eq_true q589; have p590 : 0 ≤ (1 : Int) := (by omega); have q590 : 1 < (t584.length : Int) := of_decide_eq_true (by first | (with_reducible assumption) | assumption); obtain ⟨ad590, e590, hx590_0⟩ := Kd.at_int (Kd.R_reads' HO587.out).2.2 1 p590 q590; obtain rfl : ad588 = ad590 := (by injection e590); (try simp only [show (1 : Int).toNat = 1 from rfl, Nat.reduceMul, Nat.reduceEqDiff, Go.Addr.add, ↓reduceIte] at hx590_0); have qi590 : (1 < t584.length) = True := eq_true (by omega); (try rw [show ((1 : Int)).toNat = 1 from rfl] at hx590_0); replace p590 := eq_true p590; replace q590 := eq_true q590; have p591 : 0 ≤ ((rd t584 1) : Int) := of_decide_eq_true (by first | (with_reducible assumption) | assumption); have q591 : (rd t584 1) < (x9_2.length : Int) := of_decide_eq_true (by first | (with_reducible assumption) | assumption); obtain ⟨ad591, e591, hx591_0⟩ := Kd.at_bool (Kd.R_reads' HO_9.out).2.2 (rd t584 1) p591 q591; (try rw [← Nbq62.out] at hx591_0); (try rw [← Nbq67.out] at hx591_0); obtain rfl : ad589 = ad591 := (by injection e591); replace p591 := eq_true p591; replace q591 := eq_true q591; have p592 : 0 ≤ (2 : Int) := (by omega); have q592 : 2 < (t584.length : Int) := of_decide_eq_true (by first | (with_reducible assumption) | assumption); obtain ⟨ad592, e592, hx592_0⟩ := Kd.at_int (Kd.R_reads' HO587.out).2.2 2 p592 q592; obtain rfl : ad588 = ad592 := (by injection e592); (try simp only [show (2 : Int).toNat = 2 from rfl, Nat.reduceMul, Nat.reduceEqDiff, Go.Addr.add, ↓reduceIte] at hx592_0); have qi592 : (2 < t584.length) = True := eq_true (by omega); (try rw [show ((2 : Int)).toNat = 2 from rfl] at hx592_0); replace p592 := eq_true p592; replace q592 := eq_true q592; have p593 : 0 ≤ ((rd t584 2) : Int) := of_decide_eq_true (by first | (with_reducible assumption) | assumption); have q593 : (rd t584 2) < (x9_2.length : Int) := of_decide_eq_true (by first | (with_reducible assumption) | assumption); obtain ⟨ad593, e593, hx593_0⟩ := Kd.at_bool (Kd.R_reads' HO_9.out).2.2 (rd t584 2) p593 q593; (try rw [← Nbq62.out] at hx593_0); (try rw [← Nbq67.out] at hx593_0); obtain rfl : ad589 = ad593 := (by injection e593); replace p593 := eq_true p593; replace q593 := eq_true q593)); try go_wp2_with (first | (go_at_call 31; (with_reducible refine (impl_QuadPoints.calls k3 _ _ t557 _ _ t558 t584 true _ ?side1 ?side2 ?side3 ?side4 A57.out).mono ?_); (case side1 => repeat (first | exact (Kd.R_reads' HO_3.out).2.2 | (with_reducible refine Kd.C_alloc ?_ _) | (with_reducible refine Kd.C_drewN ?_ _) | (with_reducible refine Kd.C_drew ?_))); (case side2 => exact (Kd.R_reads' HO_3.out).2.1); (case side3 => repeat (first | exact (Kd.R_reads' HO_4.out).2.2 | (with_reducible refine Kd.C_alloc ?_ _) | (with_reducible refine Kd.C_drewN ?_ _) | (with_reducible refine Kd.C_drew ?_))); (case side4 => exact (Kd.R_reads' HO_4.out).2.1); rintro e w72 ⟨v586, rfl, ho0, hb⟩; have n0_ := Aside0.mk (Kd.R_elder' (by (with_reducible repeat (first | apply Kd.R_alloc | apply Kd.R_drewN | apply Kd.R_drew)); exact HO_3.out) (Kd.R_base ho0) hb); have n1_ := Aside0.mk (Kd.R_elder' (by (with_reducible repeat (first | apply Kd.R_alloc | apply Kd.R_drewN | apply Kd.R_drew)); exact HO_4.out) (Kd.R_base ho0) hb); have n2_ := Aside0.mk (Kd.R_below (by (with_reducible repeat (first | apply Kd.R_alloc | apply Kd.R_drewN | apply Kd.R_drew)); exact HO_9.out) hb); have n3_ := Aside0.mk (Kd.R_lower (Kd.R_new' (Kd.R_new' ho0 (Kd.R_lt (by (with_reducible repeat (first | apply Kd.R_alloc | apply Kd.R_drewN | apply Kd.R_drew)); exact HO_3.out))) (Kd.R_lt (by (with_reducible repeat (first | apply Kd.R_alloc | apply Kd.R_drewN | apply Kd.R_drew)); exact HO_4.out))) (below_size (by repeat (first | (with_reducible first | exact HB.out | apply below_alloc | apply pw_below_drewN | apply below_drew1) | exact HB.out)))); have n4_ := Aside0.mk (below_step (by repeat (first | (with_reducible first | exact HB.out | apply below_alloc | apply pw_below_drewN | apply below_drew1) | exact HB.out)) hb); clear HO_3; clear HO_4; clear HO_9; clear HB; have HO_3 := n0_; have HO_4 := n1_; have HO_9 := n2_; have HO587 := n3_; have HB := n4_; clear n0_ n1_ n2_ n3_ n4_; (try clear hb); (try clear hb2); (try clear hk); (try clear hi); (try clear ho0); obtain ⟨Ao73, co73, eo73⟩ := Kd.R_slice HO587.out; subst eo73; have p588 : 0 ≤ (0 : Int) := (by omega); have q588 : 0 < (t584.length : Int) := of_decide_eq_true (by first | (with_reducible assumption) | assumption); obtain ⟨ad588, e588, hx588_0⟩ := Kd.at_int (Kd.R_reads' HO587.out).2.2 0 p588 q588; cases e588; have qi588 : (0 < t584.length) = True := eq_true (by omega); (try rw [show ((0 : Int)).toNat = 0 from rfl] at hx588_0); (try rw [Addr.add_zero'] at hx588_0); replace p588 := eq_true p588; replace q588 := eq_true q588; obtain ⟨Ao74, co74, eo74⟩ := Kd.R_slice HO_9.out; subst eo74; have p589 : 0 ≤ ((rd t584 0) : Int) := of_decide_eq_true (by first | (with_reducible assumption) | assumption); have q589 : (rd t584 0) < (x9_2.length : Int) := of_decide_eq_true (by first | (with_reducible assumption) | assumption); obtain ⟨ad589, e589, hx589_0⟩ := Kd.at_bool (Kd.R_reads' HO_9.out).2.2 (rd t584 0) p589 q589; (try rw [← Nbq62.out] at hx589_0); (try rw [← Nbq67.out] at hx589_0); cases e589; replace p589 := eq_true p589; replace q589 := eq_true q589; have p590 : 0 ≤ (1 : Int) := (by omega); have q590 : 1 < (t584.length : Int) := of_decide_eq_true (by first | (with_reducible assumption) | assumption); obtain ⟨ad590, e590, hx590_0⟩ := Kd.at_int (Kd.R_reads' HO587.out).2.2 1 p590 q590; obtain rfl : ad588 = ad590 := (by injection e590); (try simp only [show (1 : Int).toNat = 1 from rfl, Nat.reduceMul, Nat.reduceEqDiff, Go.Addr.add, ↓reduceIte] at hx590_0); have qi590 : (1 < t584.length) = True := eq_true (by omega); (try rw [show ((1 : Int)).toNat = 1 from rfl] at hx590_0); replace p590 := eq_true p590; replace q590 := eq_true q590; have p591 : 0 ≤ ((rd t584 1) : Int) := of_decide_eq_true (by first | (with_reducible assumption) | assumption); have q591 : (rd t584 1) < (x9_2.length : Int) := of_decide_eq_true (by first | (with_reducible assumption) | assumption); obtain ⟨ad591, e591, hx591_0⟩ := Kd.at_bool (Kd.R_reads' HO_9.out).2.2 (rd t584 1) p591 q591; (try rw [← Nbq62.out] at hx591_0); (try rw [← Nbq67.out] at hx591_0); obtain rfl : ad589 = ad591 := (by injection e591); replace p591 := eq_true p591; replace q591 := eq_true q591; have p592 : 0 ≤ (2 : Int) := (by omega); have q592 : 2 < (t584.length : Int) := of_decide_eq_true (by first | (with_reducible assumption) | assumption); obtain ⟨ad592, e592, hx592_0⟩ := Kd.at_int (Kd.R_reads' HO587.out).2.2 2 p592 q592; obtain rfl : ad588 = ad592 := (by injection e592); (try simp only [show (2 : Int).toNat = 2 from rfl, Nat.reduceMul, Nat.reduceEqDiff, Go.Addr.add, ↓reduceIte] at hx592_0); have qi592 : (2 < t584.length) = True := eq_true (by omega); (try rw [show ((2 : Int)).toNat = 2 from rfl] at hx592_0); replace p592 := eq_true p592; replace q592 := eq_true q592; have p593 : 0 ≤ ((rd t584 2) : Int) := of_decide_eq_true (by first | (with_reducible assumption) | assumption); have q593 : (rd t584 2) < (x9_2.length : Int) := of_decide_eq_true (by first | (with_reducible assumption) | assumption); obtain ⟨ad593, e593, hx593_0⟩ := Kd.at_bool (Kd.R_reads' HO_9.out).2.2 (rd t584 2) p593 q593; (try rw [← Nbq62.out] at hx593_0); (try rw [← Nbq67.out] at hx593_0); obtain rfl : ad589 = ad593 := (by injection e593); replace p593 := eq_true p593; replace q593 := eq_true q593)))
                        go_ret
                        exact ⟨by first | rfl | (simp [errW_none, errW_some] <;> rfl) | (simp [*, errW_none, errW_some] <;> rfl), by repeat (first | (with_reducible first | exact HB.out | apply below_alloc | apply pw_below_drewN | apply below_drew1) | exact HB.out)⟩
                       ·rw [if_neg c71] at H
                        exact absurd H (by simp)
                      ·rw [if_neg c70] at H
                       exact absurd H (by simp)
                     ·rw [if_neg c69] at H
                      exact absurd H (by simp)
                    ·replace c68 := Bool.eq_false_iff.mpr c68
                     subst c68
                     have H1 : (some false) = some r := by rw [if_neg (show ¬ (false = true) by decide)] at H; exact H
                     clear H
                     have H := H1
                     clear H1
                     obtain rfl := Option.some.inj H
                     go_wp2_with (first | (go_at_call 31; (with_reducible refine (impl_QuadPoints.calls k3 _ _ t557 _ _ t558 t584 true _ ?side1 ?side2 ?side3 ?side4 A57.out).mono ?_); (case side1 => repeat (first | exact (Kd.R_reads' HO_3.out).2.2 | (with_reducible refine Kd.C_alloc ?_ _) | (with_reducible refine Kd.C_drewN ?_ _) | (with_reducible refine Kd.C_drew ?_))); (case side2 => exact (Kd.R_reads' HO_3.out).2.1); (case side3 => repeat (first | exact (Kd.R_reads' HO_4.out).2.2 | (with_reducible refine Kd.C_alloc ?_ _) | (with_reducible refine Kd.C_drewN ?_ _) | (with_reducible refine Kd.C_drew ?_))); (case side4 => exact (Kd.R_reads' HO_4.out).2.1); rintro e w75 ⟨v586, rfl, ho0, hb⟩; have n0_ := Aside0.mk (Kd.R_elder' (by (with_reducible repeat (first | apply Kd.R_alloc | apply Kd.R_drewN | apply Kd.R_drew)); exact HO_3.out) (Kd.R_base ho0) hb); have n1_ := Aside0.mk (Kd.R_elder' (by (with_reducible repeat (first | apply Kd.R_alloc | apply Kd.R_drewN | apply Kd.R_drew)); exact HO_4.out) (Kd.R_base ho0) hb); have n2_ := Aside0.mk (Kd.R_below (by (with_reducible repeat (first | apply Kd.R_alloc | apply Kd.R_drewN | apply Kd.R_drew)); exact HO_9.out) hb); have n3_ := Aside0.mk (Kd.R_lower (Kd.R_new' (Kd.R_new' ho0 (Kd.R_lt (by (with_reducible repeat (first | apply Kd.R_alloc | apply Kd.R_drewN | apply Kd.R_drew)); exact HO_3.out))) (Kd.R_lt (by (with_reducible repeat (first | apply Kd.R_alloc | apply Kd.R_drewN | apply Kd.R_drew)); exact HO_4.out))) (below_size (by repeat (first | (with_reducible first | exact HB.out | apply below_alloc | apply pw_below_drewN | apply below_drew1) | exact HB.out)))); have n4_ := Aside0.mk (below_step (by repeat (first | (with_reducible first | exact HB.out | apply below_alloc | apply pw_below_drewN | apply below_drew1) | exact HB.out)) hb); clear HO_3; clear HO_4; clear HO_9; clear HB; have HO_3 := n0_; have HO_4 := n1_; have HO_9 := n2_; have HO587 := n3_; have HB := n4_; clear n0_ n1_ n2_ n3_ n4_; (try clear hb); (try clear hb2); (try clear hk); (try clear hi); (try clear ho0); obtain ⟨Ao76, co76, eo76⟩ := Kd.R_slice HO587.out; subst eo76; have p588 : 0 ≤ (0 : Int) := (by omega); have q588 : 0 < (t584.length : Int) := of_decide_eq_true (by first | (with_reducible assumption) | assumption); obtain ⟨ad588, e588, hx588_0⟩ := Kd.at_int (Kd.R_reads' HO587.out).2.2 0 p588 q588; cases e588; have qi588 : (0 < t584.length) = True := eq_true (by omega); (try rw [show ((0 : Int)).toNat = 0 from rfl] at hx588_0); (try rw [Addr.add_zero'] at hx588_0); replace p588 := eq_true p588; replace q588 := eq_true q588; obtain ⟨Ao77, co77, eo77⟩ := Kd.R_slice HO_9.out; subst eo77; have p589 : 0 ≤ ((rd t584 0) : Int) := of_decide_eq_true (by first | (with_reducible assumption) | assumption); have q589 : (rd t584 0) < (x9_2.length : Int) := of_decide_eq_true (by first | (with_reducible assumption) | assumption); obtain ⟨ad589, e589, hx589_0⟩ := Kd.at_bool (Kd.R_reads' HO_9.out).2.2 (rd t584 0) p589 q589; (try rw [← Nbq62.out] at hx589_0); (try rw [← Nbq67.out] at hx589_0); cases e589; replace p589 := eq_true p589; replace q589 := eq_true q589; have p590 : 0 ≤ (1 : Int) := (by omega); have q590 : 1 < (t584.length : Int) := of_decide_eq_true (by first | (with_reducible assumption) | assumption); obtain ⟨ad590, e590, hx590_0⟩ := Kd.at_int (Kd.R_reads' HO587.out).2.2 1 p590 q590; obtain rfl : ad588 = ad590 := (by injection e590); (try simp only [show (1 : Int).toNat = 1 from rfl, Nat.reduceMul, Nat.reduceEqDiff, Go.Addr.add, ↓reduceIte] at hx590_0); have qi590 : (1 < t584.length) = True := eq_true (by omega); (try rw [show ((1 : Int)).toNat = 1 from rfl] at hx590_0); replace p590 := eq_true p590; replace q590 := eq_true q590; have p591 : 0 ≤ ((rd t584 1) : Int) := of_decide_eq_true (by first | (with_reducible assumption) | assumption); have q591 : (rd t584 1) < (x9_2.length : Int) := of_decide_eq_true (by first | (with_reducible assumption) | assumption); obtain ⟨ad591, e591, hx591_0⟩ := Kd.at_bool (Kd.R_reads' HO_9.out).2.2 (rd t584 1) p591 q591; (try rw [← Nbq62.out] at hx591_0); (try rw [← Nbq67.out] at hx591_0); obtain rfl : ad589 = ad591 := (by injection e591); replace p591 := eq_true p591; replace q591 := eq_true q591))
                     repeat (go_quiet (first | (go_at_call 31; (with_reducible refine (impl_QuadPoints.calls k3 _ _ t557 _ _ t558 t584 true _ ?side1 ?side2 ?side3 ?side4 A57.out).mono ?_); (case side1 => repeat (first | exact (Kd.R_reads' HO_3.out).2.2 | (with_reducible refine Kd.C_alloc ?_ _) | (with_reducible refine Kd.C_drewN ?_ _) | (with_reducible refine Kd.C_drew ?_))); (case side2 => exact (Kd.R_reads' HO_3.out).2.1); (case side3 => repeat (first | exact (Kd.R_reads' HO_4.out).2.2 | (with_reducible refine Kd.C_alloc ?_ _) | (with_reducible refine Kd.C_drewN ?_ _) | (with_reducible refine Kd.C_drew ?_))); (case side4 => exact (Kd.R_reads' HO_4.out).2.1); rintro e w75 ⟨v586, rfl, ho0, hb⟩; have n0_ := Aside0.mk (Kd.R_elder' (by (with_reducible repeat (first | apply Kd.R_alloc | apply Kd.R_drewN | apply Kd.R_drew)); exact HO_3.out) (Kd.R_base ho0) hb); have n1_ := Aside0.mk (Kd.R_elder' (by (with_reducible repeat (first | apply Kd.R_alloc | apply Kd.R_drewN | apply Kd.R_drew)); exact HO_4.out) (Kd.R_base ho0) hb); have n2_ := Aside0.mk (Kd.R_below (by (with_reducible repeat (first | apply Kd.R_alloc | apply Kd.R_drewN | apply Kd.R_drew)); exact HO_9.out) hb); have n3_ := Aside0.mk (Kd.R_lower (Kd.R_new' (Kd.R_new' ho0 (Kd.R_lt (by (with_reducible repeat (first | apply Kd.R_alloc | apply Kd.R_drewN | apply Kd.R_drew)); exact HO_3.out))) (Kd.R_lt (by (with_reducible repeat (first | apply Kd.R_alloc | apply Kd.R_drewN | apply Kd.R_drew)); exact HO_4.out))) (below_size (by repeat (first | (with_reducible first | exact HB.out | apply below_alloc | apply pw_below_drewN | apply below_drew1) | exact HB.out)))); have n4_ := Aside0.mk (below_step (by repeat (first | (with_reducible first | exact HB.out | apply below_alloc | apply pw_below_drewN | apply below_drew1) | exact HB.out)) hb); clear HO_3; clear HO_4; clear HO_9; clear HB; have HO_3 := n0_; have HO_4 := n1_; have HO_9 := n2_; have HO587 := n3_; have HB := n4_; clear n0_ n1_ n2_ n3_ n4_; (try clear hb); (try clear hb2); (try clear hk); (try clear hi); (try clear ho0); obtain ⟨Ao76, co76, eo76⟩ := Kd.R_slice HO587.out; subst eo76; have p588 : 0 ≤ (0 : Int) := (by omega); have q588 : 0 < (t584.length : Int) := of_decide_eq_true (by first | (with_reducible assumption) | assumption); obtain ⟨ad588, e588, hx588_0⟩ := Kd.at_int (Kd.R_reads' HO587.out).2.2 0 p588 q588; cases e588; have qi588 : (0 < t584.length) = True := eq_true (by omega); (try rw [show ((0 : Int)).toNat = 0 from rfl] at hx588_0); (try rw [Addr.add_zero'] at hx588_0); replace p588 := eq_true p588; replace q588 := eq_true q588; obtain ⟨Ao77, co77, eo77⟩ := Kd.R_slice HO_9.out; subst eo77; have p589 : 0 ≤ ((rd t584 0) : Int) := of_decide_eq_true (by first | (with_reducible assumption) | assumption); have q589 : (rd t584 0) < (x9_2.length : Int) := of_decide_eq_true (by first | (with_reducible assumption) | assumption); obtain ⟨ad589, e589, hx589_0⟩ := Kd.at_bool (Kd.R_reads' HO_9.out).2.2 (rd t584 0) p589 q589; (try rw [← Nbq62.out] at hx589_0); (try rw [← Nbq67.out] at hx589_0); cases e589; replace p589 := eq_true p589; replace q589 := eq_true q589; have p590 : 0 ≤ (1 : Int) := (by omega); have q590 : 1 < (t584.length : Int) := of_decide_eq_true (by first | (with_reducible assumption) | assumption); obtain ⟨ad590, e590, hx590_0⟩ := Kd.at_int (Kd.R_reads' HO587.out).2.2 1 p590 q590; obtain rfl : ad588 = ad590 := (by injection e590); (try simp only [show (1 : Int).toNat = 1 from rfl, Nat.reduceMul, Nat.reduceEqDiff, Go.Addr.add, ↓reduceIte] at hx590_0); have qi590 : (1 < t584.length) = True := eq_true (by omega); (try rw [show ((1 : Int)).toNat = 1 from rfl] at hx590_0); replace p590 := eq_true p590; replace q590 := eq_true q590; have p591 : 0 ≤ ((rd t584 1) : Int) := of_decide_eq_true (by first | (with_reducible assumption) | assumption); have q591 : (rd t584 1) < (x9_2.length : Int) := of_decide_eq_true (by first | (with_reducible assumption) | assumption); obtain ⟨ad591, e591, hx591_0⟩ := Kd.at_bool (Kd.R_reads' HO_9.out).2.2 (rd t584 1) p591 q591; (try rw [← Nbq62.out] at hx591_0); (try rw [← Nbq67.out] at hx591_0); obtain rfl : ad589 = ad591 := (by injection e591); replace p591 := eq_true p591; replace q591 := eq_true q591)); try go_wp2_with (first | (go_at_call 31; (with_reducible refine (impl_QuadPoints.calls k3 _ _ t557 _ _ t558 t584 true _ ?side1 ?side2 ?side3 ?side4 A57.out).mono ?_); (case side1 => repeat (first | exact (Kd.R_reads' HO_3.out).2.2 | (with_reducible refine Kd.C_alloc ?_ _) | (with_reducible refine Kd.C_drewN ?_ _) | (with_reducible refine Kd.C_drew ?_))); (case side2 => exact (Kd.R_reads' HO_3.out).2.1); (case side3 => repeat (first | exact (Kd.R_reads' HO_4.out).2.2 | (with_reducible refine Kd.C_alloc ?_ _) | (with_reducible refine Kd.C_drewN ?_ _) | (with_reducible refine Kd.C_drew ?_))); (case side4 => exact (Kd.R_reads' HO_4.out).2.1); rintro e w75 ⟨v586, rfl, ho0, hb⟩; have n0_ := Aside0.mk (Kd.R_elder' (by (with_reducible repeat (first | apply Kd.R_alloc | apply Kd.R_drewN | apply Kd.R_drew)); exact HO_3.out) (Kd.R_base ho0) hb); have n1_ := Aside0.mk (Kd.R_elder' (by (with_reducible repeat (first | apply Kd.R_alloc | apply Kd.R_drewN | apply Kd.R_drew)); exact HO_4.out) (Kd.R_base ho0) hb); have n2_ := Aside0.mk (Kd.R_below (by (with_reducible repeat (first | apply Kd.R_alloc | apply Kd.R_drewN | apply Kd.R_drew)); exact HO_9.out) hb); have n3_ := Aside0.mk (Kd.R_lower (Kd.R_new' (Kd.R_new' ho0 (Kd.R_lt (by (with_reducible repeat (first | apply Kd.R_alloc | apply Kd.R_drewN | apply Kd.R_drew)); exact HO_3.out))) (Kd.R_lt (by (with_reducible repeat (first | apply Kd.R_alloc | apply Kd.R_drewN | apply Kd.R_drew)); exact HO_4.out))) (below_size (by repeat (first | (with_reducible first | exact HB.out | apply below_alloc | apply pw_below_drewN | apply below_drew1) | exact HB.out)))); have n4_ := Aside0.mk (below_step (by repeat (first | (with_reducible first | exact HB.out | apply below_alloc | apply pw_below_drewN | apply below_drew1) | exact HB.out)) hb); clear HO_3; clear HO_4; clear HO_9; clear HB; have HO_3 := n0_; have HO_4 := n1_; have HO_9 := n2_; have HO587 := n3_; have HB := n4_; clear n0_ n1_ n2_ n3_ n4_; (try clear hb); (try clear hb2); (try clear hk); (try clear hi); (try clear ho0); obtain ⟨Ao76, co76, eo76⟩ := Kd.R_slice HO587.out; subst eo76; have p588 : 0 ≤ (0 : Int) := (by omega); have q588 : 0 < (t584.length : Int) := of_decide_eq_true (by first | (with_reducible assumption) | assumption); obtain ⟨ad588, e588, hx588_0⟩ := Kd.at_int (Kd.R_reads' HO587.out).2.2 0 p588 q588; cases e588; have qi588 : (0 < t584.length) = True := eq_true (by omega); (try rw [show ((0 : Int)).toNat = 0 from rfl] at hx588_0); (try rw [Addr.add_zero'] at hx588_0); replace p588 := eq_true p588; replace q588 := eq_true q588; obtain ⟨Ao77, co77, eo77⟩ := Kd.R_slice HO_9.out; subst eo77; have p589 : 0 ≤ ((rd t584 0) : Int) := of_decide_eq_true (by first | (with_reducible assumption) | assumption); have q589 : (rd t584 0) < (x9_2.length : Int) := of_decide_eq_true (by first | (with_reducible assumption) | assumption); obtain ⟨ad589, e589, hx589_0⟩ := Kd.at_bool (Kd.R_reads' HO_9.out).2.2 (rd t584 0) p589 q589; (try rw [← Nbq62.out] at hx589_0); (try rw [← Nbq67.out] at hx589_0); cases e589; replace p589 := eq_true p589; replace q589 := eq_true q589; have p590 : 0 ≤ (1 : Int) := (by omega); have q590 : 1 < (t584.length : Int) := of_decide_eq_true (by first | (with_reducible assumption) | assumption); obtain ⟨ad590, e590, hx590_0⟩ := Kd.at_int (Kd.R_reads' HO587.out).2.2 1 p590 q590; obtain rfl : ad588 = ad590 := (by injection e590); (try simp only [show (1 : Int).toNat = 1 from rfl, Nat.reduceMul, Nat.reduceEqDiff, Go.Addr.add, ↓reduceIte] at hx590_0); have qi590 : (1 < t584.length) = True := eq_true (by omega); (try rw [show ((1 : Int)).toNat = 1 from rfl] at hx590_0); replace p590 := eq_true p590; replace q590 := eq_true q590; have p591 : 0 ≤ ((rd t584 1) : Int) := of_decide_eq_true (by first | (with_reducible assumption) | assumption); have q591 : (rd t584 1) < (x9_2.length : Int) := of_decide_eq_true (by first | (with_reducible assumption) | assumption); obtain ⟨ad591, e591, hx591_0⟩ := Kd.at_bool (Kd.R_reads' HO_9.out).2.2 (rd t584 1) p591 q591; (try rw [← Nbq62.out] at hx591_0); (try rw [← Nbq67.out] at hx591_0); obtain rfl : ad589 = ad591 := (by injection e591); replace p591 := eq_true p591; replace q591 := eq_true q591)))
                     go_ret
                     exact ⟨by first | rfl | (simp [errW_none, errW_some] <;> rfl) | (simp [*, errW_none, errW_some] <;> rfl), by repeat (first | (with_reducible first | exact HB.out | apply below_alloc | apply pw_below_drewN | apply below_drew1) | exact HB.out)⟩
                   ·rw [if_neg c66] at H
                    exact absurd H (by simp)
                  ·rw [if_neg c65] at H
                   exact absurd H (by simp)
                 ·rw [if_neg c64] at H
                  exact absurd H (by simp)
                ·replace c63 := Bool.eq_false_iff.mpr c63
                 subst c63
                 have H1 : (some false) = some r := by rw [if_neg (show ¬ (false = true) by decide)] at H; exact H
                 clear H
                 have H := H1
                 clear H1
                 obtain rfl := Option.some.inj H
                 go_wp2_with (first | (go_at_call 31; (with_reducible refine (impl_QuadPoints.calls k3 _ _ t557 _ _ t558 t584 true _ ?side1 ?side2 ?side3 ?side4 A57.out).mono ?_); (case side1 => repeat (first | exact (Kd.R_reads' HO_3.out).2.2 | (with_reducible refine Kd.C_alloc ?_ _) | (with_reducible refine Kd.C_drewN ?_ _) | (with_reducible refine Kd.C_drew ?_))); (case side2 => exact (Kd.R_reads' HO_3.out).2.1); (case side3 => repeat (first | exact (Kd.R_reads' HO_4.out).2.2 | (with_reducible refine Kd.C_alloc ?_ _) | (with_reducible refine Kd.C_drewN ?_ _) | (with_reducible refine Kd.C_drew ?_))); (case side4 => exact (Kd.R_reads' HO_4.out).2.1); rintro e w78 ⟨v586, rfl, ho0, hb⟩; have n0_ := Aside0.mk (Kd.R_elder' (by (with_reducible repeat (first | apply Kd.R_alloc | apply Kd.R_drewN | apply Kd.R_drew)); exact HO_3.out) (Kd.R_base ho0) hb); have n1_ := Aside0.mk (Kd.R_elder' (by (with_reducible repeat (first | apply Kd.R_alloc | apply Kd.R_drewN | apply Kd.R_drew)); exact HO_4.out) (Kd.R_base ho0) hb); have n2_ := Aside0.mk (Kd.R_below (by (with_reducible repeat (first | apply Kd.R_alloc | apply Kd.R_drewN | apply Kd.R_drew)); exact HO_9.out) hb); have n3_ := Aside0.mk (Kd.R_lower (Kd.R_new' (Kd.R_new' ho0 (Kd.R_lt (by (with_reducible repeat (first | apply Kd.R_alloc | apply Kd.R_drewN | apply Kd.R_drew)); exact HO_3.out))) (Kd.R_lt (by (with_reducible repeat (first | apply Kd.R_alloc | apply Kd.R_drewN | apply Kd.R_drew)); exact HO_4.out))) (below_size (by repeat (first | (with_reducible first | exact HB.out | apply below_alloc | apply pw_below_drewN | apply below_drew1) | exact HB.out)))); have n4_ := Aside0.mk (below_step (by repeat (first | (with_reducible first | exact HB.out | apply below_alloc | apply pw_below_drewN | apply below_drew1) | exact HB.out)) hb); clear HO_3; clear HO_4; clear HO_9; clear HB; have HO_3 := n0_; have HO_4 := n1_; have HO_9 := n2_; have HO587 := n3_; have HB := n4_; clear n0_ n1_ n2_ n3_ n4_; (try clear hb); (try clear hb2); (try clear hk); (try clear hi); (try clear ho0); obtain ⟨Ao79, co79, eo79⟩ := Kd.R_slice HO587.out; subst eo79; have p588 : 0 ≤ (0 : Int) := (by omega); have q588 : 0 < (t584.length : Int) := of_decide_eq_true (by first | (with_reducible assumption) | assumption); obtain ⟨ad588, e588, hx588_0⟩ := Kd.at_int (Kd.R_reads' HO587.out).2.2 0 p588 q588; cases e588; have qi588 : (0 < t584.length) = True := eq_true (by omega); (try rw [show ((0 : Int)).toNat = 0 from rfl] at hx588_0); (try rw [Addr.add_zero'] at hx588_0); replace p588 := eq_true p588; replace q588 := eq_true q588; obtain ⟨Ao80, co80, eo80⟩ := Kd.R_slice HO_9.out; subst eo80; have p589 : 0 ≤ ((rd t584 0) : Int) := of_decide_eq_true (by first | (with_reducible assumption) | assumption); have q589 : (rd t584 0) < (x9_2.length : Int) := of_decide_eq_true (by first | (with_reducible assumption) | assumption); obtain ⟨ad589, e589, hx589_0⟩ := Kd.at_bool (Kd.R_reads' HO_9.out).2.2 (rd t584 0) p589 q589; (try rw [← Nbq62.out] at hx589_0); cases e589; replace p589 := eq_true p589; replace q589 := eq_true q589))
                 repeat (go_quiet (first | (go_at_call 31; (with_reducible refine (impl_QuadPoints.calls k3 _ _ t557 _ _ t558 t584 true _ ?side1 ?side2 ?side3 ?side4 A57.out).mono ?_); (case side1 => repeat (first | exact (Kd.R_reads' HO_3.out).2.2 | (with_reducible refine Kd.C_alloc ?_ _) | (with_reducible refine Kd.C_drewN ?_ _) | (with_reducible refine Kd.C_drew ?_))); (case side2 => exact (Kd.R_reads' HO_3.out).2.1); (case side3 => repeat (first | exact (Kd.R_reads' HO_4.out).2.2 | (with_reducible refine Kd.C_alloc ?_ _) | (with_reducible refine Kd.C_drewN ?_ _) | (with_reducible refine Kd.C_drew ?_))); (case side4 => exact (Kd.R_reads' HO_4.out).2.1); rintro e w78 ⟨v586, rfl, ho0, hb⟩; have n0_ := Aside0.mk (Kd.R_elder' (by (with_reducible repeat (first | apply Kd.R_alloc | apply Kd.R_drewN | apply Kd.R_drew)); exact HO_3.out) (Kd.R_base ho0) hb); have n1_ := Aside0.mk (Kd.R_elder' (by (with_reducible repeat (first | apply Kd.R_alloc | apply Kd.R_drewN | apply Kd.R_drew)); exact HO_4.out) (Kd.R_base ho0) hb); have n2_ := Aside0.mk (Kd.R_below (by (with_reducible repeat (first | apply Kd.R_alloc | apply Kd.R_drewN | apply Kd.R_drew)); exact HO_9.out) hb); have n3_ := Aside0.mk (Kd.R_lower (Kd.R_new' (Kd.R_new' ho0 (Kd.R_lt (by (with_reducible repeat (first | apply Kd.R_alloc | apply Kd.R_drewN | apply Kd.R_drew)); exact HO_3.out))) (Kd.R_lt (by (with_reducible repeat (first | apply Kd.R_alloc | apply Kd.R_drewN | apply Kd.R_drew)); exact HO_4.out))) (below_size (by repeat (first | (with_reducible first | exact HB.out | apply below_alloc | apply pw_below_drewN | apply below_drew1) | exact HB.out)))); have n4_ := Aside0.mk (below_step (by repeat (first | (with_reducible first | exact HB.out | apply below_alloc | apply pw_below_drewN | apply below_drew1) | exact HB.out)) hb); clear HO_3; clear HO_4; clear HO_9; clear HB; have HO_3 := n0_; have HO_4 := n1_; have HO_9 := n2_; have HO587 := n3_; have HB := n4_; clear n0_ n1_ n2_ n3_ n4_; (try clear hb); (try clear hb2); (try clear hk); (try clear hi); (try clear ho0); obtain ⟨Ao79, co79, eo79⟩ := Kd.R_slice HO587.out; subst eo79; have p588 : 0 ≤ (0 : Int) := (by omega); have q588 : 0 < (t584.length : Int) := of_decide_eq_true (by first | (with_reducible assumption) | assumption); obtain ⟨ad588, e588, hx588_0⟩ := Kd.at_int (Kd.R_reads' HO587.out).2.2 0 p588 q588; cases e588; have qi588 : (0 < t584.length) = True := eq_true (by omega); (try rw [show ((0 : Int)).toNat = 0 from rfl] at hx588_0); (try rw [Addr.add_zero'] at hx588_0); replace p588 := eq_true p588; replace q588 := eq_true q588; obtain ⟨Ao80, co80, eo80⟩ := Kd.R_slice HO_9.out; subst eo80; have p589 : 0 ≤ ((rd t584 0) : Int) := of_decide_eq_true (by first | (with_reducible assumption) | assumption); have q589 : (rd t584 0) < (x9_2.length : Int) := of_decide_eq_true (by first | (with_reducible assumption) | assumption); obtain ⟨ad589, e589, hx589_0⟩ := Kd.at_bool (Kd.R_reads' HO_9.out).2.2 (rd t584 0) p589 q589; (try rw [← Nbq62.out] at hx589_0); cases e589; replace p589 := eq_true p589; replace q589 := eq_true q589)); try go_wp2_with (first | (go_at_call 31; (with_reducible refine (impl_QuadPoints.calls k3 _ _ t557 _ _ t558 t584 true _ ?side1 ?side2 ?side3 ?side4 A57.out).mono ?_); (case side1 => repeat (first | exact (Kd.R_reads' HO_3.out).2.2 | (with_reducible refine Kd.C_alloc ?_ _) | (with_reducible refine Kd.C_drewN ?_ _) | (with_reducible refine Kd.C_drew ?_))); (case side2 => exact (Kd.R_reads' HO_3.out).2.1); (case side3 => repeat (first | exact (Kd.R_reads' HO_4.out).2.2 | (with_reducible refine Kd.C_alloc ?_ _) | (with_reducible refine Kd.C_drewN ?_ _) | (with_reducible refine Kd.C_drew ?_))); (case side4 => exact (Kd.R_reads' HO_4.out).2.1); rintro e w78 ⟨v586, rfl, ho0, hb⟩; have n0_ := Aside0.mk (Kd.R_elder' (by (with_reducible repeat (first | apply Kd.R_alloc | apply Kd.R_drewN | apply Kd.R_drew)); exact HO_3.out) (Kd.R_base ho0) hb); have n1_ := Aside0.mk (Kd.R_elder' (by (with_reducible repeat (first | apply Kd.R_alloc | apply Kd.R_drewN | apply Kd.R_drew)); exact HO_4.out) (Kd.R_base ho0) hb); have n2_ := Aside0.mk (Kd.R_below (by (with_reducible repeat (first | apply Kd.R_alloc | apply Kd.R_drewN | apply Kd.R_drew)); exact HO_9.out) hb); have n3_ := Aside0.mk (Kd.R_lower (Kd.R_new' (Kd.R_new' ho0 (Kd.R_lt (by (with_reducible repeat (first | apply Kd.R_alloc | apply Kd.R_drewN | apply Kd.R_drew)); exact HO_3.out))) (Kd.R_lt (by (with_reducible repeat (first | apply Kd.R_alloc | apply Kd.R_drewN | apply Kd.R_drew)); exact HO_4.out))) (below_size (by repeat (first | (with_reducible first | exact HB.out | apply below_alloc | apply pw_below_drewN | apply below_drew1) | exact HB.out)))); have n4_ := Aside0.mk (below_step (by repeat (first | (with_reducible first | exact HB.out | apply below_alloc | apply pw_below_drewN | apply below_drew1) | exact HB.out)) hb); clear HO_3; clear HO_4; clear HO_9; clear HB; have HO_3 := n0_; have HO_4 := n1_; have HO_9 := n2_; have HO587 := n3_; have HB := n4_; clear n0_ n1_ n2_ n3_ n4_; (try clear hb); (try clear hb2); (try clear hk); (try clear hi); (try clear ho0); obtain ⟨Ao79, co79, eo79⟩ := Kd.R_slice HO587.out; subst eo79; have p588 : 0 ≤ (0 : Int) := (by omega); have q588 : 0 < (t584.length : Int) := of_decide_eq_true (by first | (with_reducible assumption) | assumption); obtain ⟨ad588, e588, hx588_0⟩ := Kd.at_int (Kd.R_reads' HO587.out).2.2 0 p588 q588; cases e588; have qi588 : (0 < t584.length) = True := eq_true (by omega); (try rw [show ((0 : Int)).toNat = 0 from rfl] at hx588_0); (try rw [Addr.add_zero'] at hx588_0); replace p588 := eq_true p588; replace q588 := eq_true q588; obtain ⟨Ao80, co80, eo80⟩ := Kd.R_slice HO_9.out; subst eo80; have p589 : 0 ≤ ((rd t584 0) : Int) := of_decide_eq_true (by first | (with_reducible assumption) | assumption); have q589 : (rd t584 0) < (x9_2.length : Int) := of_decide_eq_true (by first | (with_reducible assumption) | assumption); obtain ⟨ad589, e589, hx589_0⟩ := Kd.at_bool (Kd.R_reads' HO_9.out).2.2 (rd t584 0) p589 q589; (try rw [← Nbq62.out] at hx589_0); cases e589; replace p589 := eq_true p589; replace q589 := eq_true q589)))
                 go_ret
                 exact ⟨by first | rfl | (simp [errW_none, errW_some] <;> rfl) | (simp [*, errW_none, errW_some] <;> rfl), by repeat (first | (with_reducible first | exact HB.out | apply below_alloc | apply pw_below_drewN | apply below_drew1) | exact HB.out)⟩
               ·rw [if_neg c61] at H
                exact absurd H (by simp)
              ·rw [if_neg c60] at H
               exact absurd H (by simp)
             ·rw [if_neg c59] at H
              exact absurd H (by simp)
            ·replace c58 := Bool.eq_false_iff.mpr c58
             subst c58
             have H1 : (some true) = some r := by rw [if_neg (show ¬ (false = true) by decide)] at H; exact H
             clear H
             have H := H1
             clear H1
             obtain rfl := Option.some.inj H
             go_wp2_with (first | (go_at_call 31; (with_reducible refine (impl_QuadPoints.calls k3 _ _ t557 _ _ t558 t584 false _ ?side1 ?side2 ?side3 ?side4 A57.out).mono ?_); (case side1 => repeat (first | exact (Kd.R_reads' HO_3.out).2.2 | (with_reducible refine Kd.C_alloc ?_ _) | (with_reducible refine Kd.C_drewN ?_ _) | (with_reducible refine Kd.C_drew ?_))); (case side2 => exact (Kd.R_reads' HO_3.out).2.1); (case side3 => repeat (first | exact (Kd.R_reads' HO_4.out).2.2 | (with_reducible refine Kd.C_alloc ?_ _) | (with_reducible refine Kd.C_drewN ?_ _) | (with_reducible refine Kd.C_drew ?_))); (case side4 => exact (Kd.R_reads' HO_4.out).2.1); rintro e w81 ⟨v586, rfl, ho0, hb⟩; have n0_ := Aside0.mk (Kd.R_elder' (by (with_reducible repeat (first | apply Kd.R_alloc | apply Kd.R_drewN | apply Kd.R_drew)); exact HO_3.out) (Kd.R_base ho0) hb); have n1_ := Aside0.mk (Kd.R_elder' (by (with_reducible repeat (first | apply Kd.R_alloc | apply Kd.R_drewN | apply Kd.R_drew)); exact HO_4.out) (Kd.R_base ho0) hb); have n2_ := Aside0.mk (Kd.R_below (by (with_reducible repeat (first | apply Kd.R_alloc | apply Kd.R_drewN | apply Kd.R_drew)); exact HO_9.out) hb); have n3_ := Aside0.mk (Kd.R_lower (Kd.R_new' (Kd.R_new' ho0 (Kd.R_lt (by (with_reducible repeat (first | apply Kd.R_alloc | apply Kd.R_drewN | apply Kd.R_drew)); exact HO_3.out))) (Kd.R_lt (by (with_reducible repeat (first | apply Kd.R_alloc | apply Kd.R_drewN | apply Kd.R_drew)); exact HO_4.out))) (below_size (by repeat (first | (with_reducible first | exact HB.out | apply below_alloc | apply pw_below_drewN | apply below_drew1) | exact HB.out)))); have n4_ := Aside0.mk (below_step (by repeat (first | (with_reducible first | exact HB.out | apply below_alloc | apply pw_below_drewN | apply below_drew1) | exact HB.out)) hb); clear HO_3; clear HO_4; clear HO_9; clear HB; have HO_3 := n0_; have HO_4 := n1_; have HO_9 := n2_; have HO587 := n3_; have HB := n4_; clear n0_ n1_ n2_ n3_ n4_; (try clear hb); (try clear hb2); (try clear hk); (try clear hi); (try clear ho0)))
             repeat (go_quiet (first | (go_at_call 31; (with_reducible refine (impl_QuadPoints.calls k3 _ _ t557 _ _ t558 t584 false _ ?side1 ?side2 ?side3 ?side4 A57.out).mono ?_); (case side1 => repeat (first | exact (Kd.R_reads' HO_3.out).2.2 | (with_reducible refine Kd.C_alloc ?_ _) | (with_reducible refine Kd.C_drewN ?_ _) | (with_reducible refine Kd.C_drew ?_))); (case side2 => exact (Kd.R_reads' HO_3.out).2.1); (case side3 => repeat (first | exact (Kd.R_reads' HO_4.out).2.2 | (with_reducible refine Kd.C_alloc ?_ _) | (with_reducible refine Kd.C_drewN ?_ _) | (with_reducible refine Kd.C_drew ?_))); (case side4 => exact (Kd.R_reads' HO_4.out).2.1); rintro e w81 ⟨v586, rfl, ho0, hb⟩; have n0_ := Aside0.mk (Kd.R_elder' (by (with_reducible repeat (first | apply Kd.R_alloc | apply Kd.R_drewN | apply Kd.R_drew)); exact HO_3.out) (Kd.R_base ho0) hb); have n1_ := Aside0.mk (Kd.R_elder' (by (with_reducible repeat (first | apply Kd.R_alloc | apply Kd.R_drewN | apply Kd.R_drew)); exact HO_4.out) (Kd.R_base ho0) hb); have n2_ := Aside0.mk (Kd.R_below (by (with_reducible repeat (first | apply Kd.R_alloc | apply Kd.R_drewN | apply Kd.R_drew)); exact HO_9.out) hb); have n3_ := Aside0.mk (Kd.R_lower (Kd.R_new' (Kd.R_new' ho0 (Kd.R_lt (by (with_reducible repeat (first | apply Kd.R_alloc | apply Kd.R_drewN | apply Kd.R_drew)); exact HO_3.out))) (Kd.R_lt (by (with_reducible repeat (first | apply Kd.R_alloc | apply Kd.R_drewN | apply Kd.R_drew)); exact HO_4.out))) (below_size (by repeat (first | (with_reducible first | exact HB.out | apply below_alloc | apply pw_below_drewN | apply below_drew1) | exact HB.out)))); have n4_ := Aside0.mk (below_step (by repeat (first | (with_reducible first | exact HB.out | apply below_alloc | apply pw_below_drewN | apply below_drew1) | exact HB.out)) hb); clear HO_3; clear HO_4; clear HO_9; clear HB; have HO_3 := n0_; have HO_4 := n1_; have HO_9 := n2_; have HO587 := n3_; have HB := n4_; clear n0_ n1_ n2_ n3_ n4_; (try clear hb); (try clear hb2); (try clear hk); (try clear hi); (try clear ho0))); try go_wp2_with (first | (go_at_call 31; (with_reducible refine (impl_QuadPoints.calls k3 _ _ t557 _ _ t558 t584 false _ ?side1 ?side2 ?side3 ?side4 A57.out).mono ?_); (case side1 => repeat (first | exact (Kd.R_reads' HO_3.out).2.2 | (with_reducible refine Kd.C_alloc ?_ _) | (with_reducible refine Kd.C_drewN ?_ _) | (with_reducible refine Kd.C_drew ?_))); (case side2 => exact (Kd.R_reads' HO_3.out).2.1); (case side3 => repeat (first | exact (Kd.R_reads' HO_4.out).2.2 | (with_reducible refine Kd.C_alloc ?_ _) | (with_reducible refine Kd.C_drewN ?_ _) | (with_reducible refine Kd.C_drew ?_))); (case side4 => exact (Kd.R_reads' HO_4.out).2.1); rintro e w81 ⟨v586, rfl, ho0, hb⟩; have n0_ := Aside0.mk (Kd.R_elder' (by (with_reducible repeat (first | apply Kd.R_alloc | apply Kd.R_drewN | apply Kd.R_drew)); exact HO_3.out) (Kd.R_base ho0) hb); have n1_ := Aside0.mk (Kd.R_elder' (by (with_reducible repeat (first | apply Kd.R_alloc | apply Kd.R_drewN | apply Kd.R_drew)); exact HO_4.out) (Kd.R_base ho0) hb); have n2_ := Aside0.mk (Kd.R_below (by (with_reducible repeat (first | apply Kd.R_alloc | apply Kd.R_drewN | apply Kd.R_drew)); exact HO_9.out) hb); have n3_ := Aside0.mk (Kd.R_lower (Kd.R_new' (Kd.R_new' ho0 (Kd.R_lt (by (with_reducible repeat (first | apply Kd.R_alloc | apply Kd.R_drewN | apply Kd.R_drew)); exact HO_3.out))) (Kd.R_lt (by (with_reducible repeat (first | apply Kd.R_alloc | apply Kd.R_drewN | apply Kd.R_drew)); exact HO_4.out))) (below_size (by repeat (first | (with_reducible first | exact HB.out | apply below_alloc | apply pw_below_drewN | apply below_drew1) | exact HB.out)))); have n4_ := Aside0.mk (below_step (by repeat (first | (with_reducible first | exact HB.out | apply below_alloc | apply pw_below_drewN | apply below_drew1) | exact HB.out)) hb); clear HO_3; clear HO_4; clear HO_9; clear HB; have HO_3 := n0_; have HO_4 := n1_; have HO_9 := n2_; have HO587 := n3_; have HB := n4_; clear n0_ n1_ n2_ n3_ n4_; (try clear hb); (try clear hb2); (try clear hk); (try clear hi); (try clear ho0))))
             go_ret
             exact ⟨by first | rfl | (simp [errW_none, errW_some] <;> rfl) | (simp [*, errW_none, errW_some] <;> rfl), by repeat (first | (with_reducible first | exact HB.out | apply below_alloc | apply pw_below_drewN | apply below_drew1) | exact HB.out)⟩
     ·rw [if_neg c24] at H
      exact absurd H (by simp)

/-- THE ONE PURE STATEMENT of laws_FnSpan: yours. -/
def laws_FnSpan.Pure : Prop := ∀ (l0 : List Int), l0.length ≤ maxLen → l0.length * 1 ≤ 140737488351232 → (∀ x ∈ l0, (Lit.int .u8 x).wf = true) → ∃ k, laws_FnSpan.f k l0 = some true
theorem laws_FnSpan.walk (P : laws_FnSpan.Pure) (a0 : Option Addr) (len0 cap0 : Nat) (z0 : List Int) (w : World) (w0 : (a0 = none ∧ len0 = 0 ∧ cap0 = 0 ∧ z0 = []) ∨ ∃ x, a0 = some x ∧ len0 ≤ cap0 ∧ cap0 ≤ maxLen ∧ z0.length = cap0 ∧ (∀ i, i < z0.length → w.cell? (x.add i) = some (.int .u8 (z0.getD i 0))) ∧ ∀ n ∈ z0, (Lit.int .u8 n).wf = true) (y0 : len0 * 1 ≤ 140737488351232) :
  Calls Try.prog 7 #[.slice a0 len0 cap0] w fun e w' => e = .returned (.bool true) ∧ Below w.heap.size w w' := by
 obtain ⟨l0, rfl, hr0, hm0, hw0, hc0⟩ := ReadsInt.ofRowC w0
 obtain ⟨k, h⟩ := P l0 hm0 y0 hw0
 refine (laws_FnSpan.calls k _ _ l0 true w (Kd.C_of_reads (d := (0 : Int)) (h1 := fun _ => rfl) hr0) hc0 h).mono ?_
 rintro e w' ⟨rfl, hd⟩
 exact ⟨rfl, hd⟩


end Go.Proofs.Ytcbkoecanldlpaa.P

set_option linter.unusedVariables false
set_option linter.unusedSimpArgs false
namespace Go.Proofs.Ytcbkoecanldlpaa.X
open Go.RowKit Go.Proofs.YtcbkoecanldlpaaW.PrintWords Go.Proofs.YtcbkoecanldlpaaW.PrintLast Go.Proofs.Ytcbkoecanldlpaa.P

theorem l6In_eq (a b c : Int) : spec_l6In.f a b c = some (decide (b ≤ a) && decide (a ≤ c)) := by
  unfold spec_l6In.f
  by_cases h : a ≥ b
  · rw [if_pos h, decide_eq_true h]; simp
  · rw [if_neg h, decide_eq_false h]; simp
theorem l1In_eq (a : Int) : spec_l1In.f a = some (isN a) := by
  unfold spec_l1In.f isN
  rw [l6In_eq]
  show some _ = _
  rw [show decide (a ≤ 8) = decide (a < 9) from decide_eq_decide.2 (by omega)]
theorem l2Table_loop (l : List Int) (hl : l.length ≤ 1048576) (d : Nat) : ∀ (i : Int), 0 ≤ i → i + d = l.length → (∀ j : Nat, (j : Int) < i → isN (rd l j) = true) → Ev (fun k => spec_l2Table.l0 k l i) (ninesB l 81) := by
  induction d with
  | zero =>
    intro i h0 h1 h
    refine Ev.step (fun k => by rw [spec_l2Table.l0]) ?_
    refine Ev.neg (by omega) (Ev.done ?_)
    have ha : l.all isN = true := by
      rw [List.all_eq_true]
      intro x hx
      obtain ⟨j, hj, rfl⟩ := List.mem_iff_getElem.1 hx
      rw [← rd_cast l j hj]
      exact h j (by omega)
    unfold ninesB
    rw [ha, Bool.and_true]
    congr 1
    rw [Bool.eq_iff_iff]; simp; omega
  | succ d ih =>
    intro i h0 h1 h
    refine Ev.step (fun k => by rw [spec_l2Table.l0]) ?_
    simp (disch := omega) only [w64, l1In_eq, Option.bind_some]
    refine Ev.pos (by omega) (Ev.pos (by omega) ?_)
    by_cases e : isN (rd l i) = true
    · refine Ev.pos e (ih (i + 1) (by omega) (by omega) fun j hj => ?_)
      by_cases ej : (j : Int) = i
      · rw [ej]; exact e
      · exact h j (by omega)
    · refine Ev.neg e (Ev.done ?_)
      have : l.all isN = false := by
        rw [List.all_eq_false]
        exact ⟨rd l i, rd_mem (by omega) h0, e⟩
      unfold ninesB
      rw [this, Bool.and_false]
theorem l2Table_ev (l : List Int) (hl : l.length ≤ 1048576) : Ev (fun k => spec_l2Table.f k l) (ninesB l 81) :=
  l2Table_loop l hl l.length 0 (by omega) (by omega) (fun j h => by omega)
theorem l2Units_loop (t : List Int) (hl : t.length = 81) (d : Nat) : ∀ (i : Int), 0 ≤ i → i + d = 9 → (∀ x : Int, 0 ≤ x → x < i → unitB t x = true) → Ev (fun k => spec_l2Units.l0 k t i) (unitsB t) := by
  induction d with
  | zero =>
    intro i h0 h1 h
    refine Ev.step (fun k => by rw [spec_l2Units.l0]) ?_
    refine Ev.neg (by omega) (Ev.done ?_)
    rw [unitsB_iff.2 fun x x0 x1 => h x x0 (by omega)]
  | succ d ih =>
    intro i h0 h1 h
    have hu : unitB t i = (decide (rd t i = 0) && decide (rd t (9 * i) = 0) && decide (rd t (9 + i) = i) && decide (rd t (9 * i + 1) = i)) := rfl
    refine Ev.step (fun k => by rw [spec_l2Units.l0]) ?_
    have z1 : wrap64 (9 * i) = 9 * i := w64 (by omega) (by omega)
    have z2 : wrap64 (9 + i) = 9 + i := w64 (by omega) (by omega)
    have z3 : wrap64 (9 * i + 1) = 9 * i + 1 := w64 (by omega) (by omega)
    have z4 : wrap64 (i + 1) = i + 1 := w64 (by omega) (by omega)
    simp only [z1, z2, z3, z4]
    refine Ev.pos (by omega) (Ev.pos (by omega) (Ev.pos (by omega) ?_))
    by_cases e1 : rd t i = 0
    case neg => exact Ev.neg e1 (Ev.done (by rw [unitsB_hit h0 (by omega) (by rw [hu, decide_eq_false e1]; rfl)]))
    refine Ev.pos e1 (Ev.pos (by omega) (Ev.pos (by omega) ?_))
    by_cases e2 : rd t (9 * i) = 0
    case neg => exact Ev.neg e2 (Ev.done (by rw [unitsB_hit h0 (by omega) (by rw [hu, decide_eq_false e2, Bool.and_false]; rfl)]))
    refine Ev.pos e2 (Ev.pos (by omega) (Ev.pos (by omega) ?_))
    by_cases e3 : rd t (9 + i) = i
    case neg => exact Ev.neg e3 (Ev.done (by rw [unitsB_hit h0 (by omega) (by rw [hu, decide_eq_false e3, Bool.and_false]; rfl)]))
    refine Ev.pos e3 (Ev.pos (by omega) (Ev.pos (by omega) ?_))
    by_cases e4 : rd t (9 * i + 1) = i
    case neg => exact Ev.neg e4 (Ev.done (by rw [unitsB_hit h0 (by omega) (by rw [hu, decide_eq_false e4, Bool.and_false])]))
    refine Ev.pos e4 (ih (i + 1) (by omega) (by omega) fun x x0 x1 => ?_)
    by_cases e : x = i
    · rw [e, hu, decide_eq_true e1, decide_eq_true e2, decide_eq_true e3, decide_eq_true e4]; rfl
    · exact h x x0 (by omega)
theorem l2Units_ev (t : List Int) (hl : t.length = 81) : Ev (fun k => spec_l2Units.f k t) (unitsB t) :=
  l2Units_loop t hl 9 0 (by omega) (by omega) (fun x h0 h1 => by omega)
theorem SystemIn_l1 (t : List Int) (hn : ninesB t 81 = true) (c : Int) (hc : In9 c) (hr : (∀ d : Int, 0 ≤ d → d < c → gapsB t c d = true) → Ev (fun k => spec_SystemIn.l0 k t (c + 1)) (solvesB t)) (n : Nat) :
    ∀ (d : Int), 0 ≤ d → d + n = c → (∀ x : Int, 0 ≤ x → x < d → gapsB t c x = true) → Ev (fun k => spec_SystemIn.l1 k t c d) (solvesB t) := by
  obtain ⟨c0, c1⟩ := hc
  induction n with
  | zero =>
    intro d h0 h1 h
    refine Ev.step (fun k => by rw [spec_SystemIn.l1]) ?_
    simp (disch := omega) only [w64]
    exact Ev.neg (by omega) (hr fun x x0 x1 => h x x0 (by omega))
  | succ n ih =>
    intro d h0 h1 h
    refine Ev.step (fun k => by rw [spec_SystemIn.l1]) ?_
    have hs : spec_l2Solves.f t c d = some (gapsB t c d) := by unfold spec_l2Solves.f; exact if_pos ⟨hn, ⟨c0, c1⟩, ⟨h0, by omega⟩⟩
    simp (disch := omega) only [w64, hs, Option.bind_some]
    refine Ev.pos (by omega) ?_
    by_cases e : gapsB t c d = true
    · refine Ev.pos e (ih (d + 1) (by omega) (by omega) fun x x0 x1 => ?_)
      by_cases ex : x = d
      · rw [ex]; exact e
      · exact h x x0 (by omega)
    · refine Ev.neg e (Ev.done ?_)
      rw [solvesB_hit h0 (by omega) c1 (Bool.eq_false_iff.2 e)]
theorem SystemIn_l0 (t : List Int) (hn : ninesB t 81 = true) (n : Nat) : ∀ (c : Int), 0 ≤ c → c + n = 9 → (∀ x y : Int, 0 ≤ y → y < x → x < c → gapsB t x y = true) → Ev (fun k => spec_SystemIn.l0 k t c) (solvesB t) := by
  induction n with
  | zero =>
    intro c h0 h1 h
    refine Ev.step (fun k => by rw [spec_SystemIn.l0]) ?_
    refine Ev.neg (by omega) (Ev.done ?_)
    rw [solvesB_all fun x y y0 yx x9 => h x y y0 yx (by omega)]
  | succ n ih =>
    intro c h0 h1 h
    refine Ev.step (fun k => by rw [spec_SystemIn.l0]) ?_
    refine Ev.pos (by omega) ?_
    refine SystemIn_l1 t hn c ⟨h0, by omega⟩ (fun hg => ih (c + 1) (by omega) (by omega) fun x y y0 yx x1 => ?_) c.toNat 0 (by omega) (by omega) (fun x x0 x1 => by omega)
    by_cases e : x = c
    · subst e; exact hg y y0 yx
    · exact h x y y0 yx (by omega)
theorem SystemIn_ev (t : List Int) (hl : t.length ≤ 1048576) : Ev (fun k => spec_SystemIn.f k t) (sysB t) := by
  unfold spec_SystemIn.f
  refine Ev.bind (l2Table_ev t hl) ?_
  by_cases hn : ninesB t 81 = true
  case neg =>
    refine Ev.neg hn (Ev.step (fun k => by rw [spec_SystemIn.j0]) (Ev.pos rfl (Ev.done ?_)))
    unfold sysB; rw [Bool.eq_false_iff.2 hn]; rfl
  refine Ev.pos hn (Ev.bind (l2Units_ev t (ninesB_iff.1 hn).1) ?_)
  by_cases hu : unitsB t = true
  case neg =>
    refine Ev.neg hu (Ev.step (fun k => by rw [spec_SystemIn.j0]) (Ev.pos rfl (Ev.done ?_)))
    rw [sysB_of hn, Bool.eq_false_iff.2 hu]; rfl
  have hs : spec_l2Shares.f t = some (sharesB t) := by unfold spec_l2Shares.f; exact if_pos hn
  refine Ev.pos hu (Ev.fix hs ?_)
  rw [sysB_of hn, hu]
  by_cases h : sharesB t = true
  · rw [h]
    refine Ev.step (fun k => by rw [spec_SystemIn.j0]) ?_
    refine Ev.neg (by simp) ?_
    exact SystemIn_l0 t hn 9 0 (by omega) (by omega) (fun x y h0 h1 h2 => by omega)
  · rw [Bool.eq_false_iff.2 h]
    refine Ev.step (fun k => by rw [spec_SystemIn.j0]) ?_
    exact Ev.pos rfl (Ev.done rfl)

end Go.Proofs.Ytcbkoecanldlpaa.X

set_option linter.unusedVariables false
set_option linter.unusedSimpArgs false
namespace Go.Proofs.Ytcbkoecanldlpaa.X
open Go.RowKit Go.Proofs.YtcbkoecanldlpaaW.PrintWords Go.Proofs.YtcbkoecanldlpaaW.PrintLast Go.Proofs.Ytcbkoecanldlpaa.P

/-- What a reader reads. -/
def RdS (s : List Int) : Prop := s.length ≤ 2000 ∧ ∀ x ∈ s, 0 ≤ x ∧ x ≤ 255
theorem u8_range {x : Int} (h : (Lit.int .u8 x).wf = true) : 0 ≤ x ∧ x ≤ 255 := by
  simp [Lit.wf, IntKind.min, IntKind.max, IntKind.signed, IntKind.bits] at h
  omega
theorem open_ev (l : List Int) (h : ∀ x ∈ l, (Lit.int .u8 x).wf = true) : ∃ s, RdS s ∧ spec_l6Open.f l = some (s, 0) := by
  unfold spec_l6Open.f
  by_cases hl : (l.length : Int) > 2000
  · rw [if_pos hl, if_pos (by omega)]
    exact ⟨_, ⟨by rw [List.length_take]; omega, fun x hx => u8_range (h x (List.mem_of_mem_take hx))⟩, rfl⟩
  · rw [if_neg hl]
    exact ⟨_, ⟨by omega, fun x hx => u8_range (h x hx)⟩, rfl⟩
theorem xor_nn {a b : Int} (h0 : 0 ≤ a) (h1 : a < 9223372036854775808) (h2 : 0 ≤ b) (h3 : b < 9223372036854775808) : 0 ≤ Go.bits .xor .i64 a b := by
  obtain ⟨x, rfl⟩ := Int.eq_ofNat_of_zero_le h0
  obtain ⟨y, rfl⟩ := Int.eq_ofNat_of_zero_le h2
  have hx : x ^^^ y < 2 ^ 63 := Nat.xor_lt_two_pow (by omega) (by omega)
  have e1 : (BitVec.ofInt 64 (x : Int)).toNat = x := by
    rw [BitVec.ofInt_natCast, BitVec.toNat_ofNat]; exact Nat.mod_eq_of_lt (by omega)
  have e2 : (BitVec.ofInt 64 (y : Int)).toNat = y := by
    rw [BitVec.ofInt_natCast, BitVec.toNat_ofNat]; exact Nat.mod_eq_of_lt (by omega)
  have e : Go.bits .xor .i64 (x : Int) (y : Int) = IntKind.i64.wrap ((BitVec.ofInt 64 (x : Int) ^^^ BitVec.ofInt 64 (y : Int)).toNat : Int) := rfl
  rw [e, BitVec.toNat_xor, e1, e2]
  generalize x ^^^ y = z at hx
  simp [IntKind.wrap, IntKind.bits, IntKind.signed]
  omega
theorem tmod_range {a n : Int} (h : 0 ≤ a) (hn : 1 ≤ n) : 0 ≤ Int.tmod a n ∧ Int.tmod a n < n := by
  rw [tmod_nn h]
  exact ⟨Int.emod_nonneg _ (by omega), Int.emod_lt_of_pos _ (by omega)⟩
theorem rd_byte {s : List Int} (hs : RdS s) {i : Int} (h0 : 0 ≤ i) (h1 : i < s.length) : 0 ≤ rd s i ∧ rd s i ≤ 255 := hs.2 _ (rd_mem h1 h0)
theorem pick_j0 (s : List Int) (hs : RdS s) (p : Int) (h0 : 0 ≤ p) (h1 : p ≤ 1099511627776) (n : Int) (n0 : 1 ≤ n) (n1 : n ≤ 1000000) :
    ∃ v, (0 ≤ v ∧ v < n) ∧ Ev (fun k => spec_l6Rd_pick.j0 k n ((s.length : Int) == 0) s (p + 1)) (v, p + 1) := by
  have hl := hs.1
  by_cases e : s.length = 0
  · refine ⟨0, by omega, ?_⟩
    refine Ev.step (fun k => by rw [spec_l6Rd_pick.j0]) ?_
    refine Ev.pos (by rw [e]; rfl) (Ev.done rfl)
  have ez : wrap64 (p + 1 - 1) = p := by rw [w64 (by omega) (by omega)]; omega
  have er : ∀ i : Int, 0 ≤ i → i < s.length → wrap64 (rd s i) = rd s i := fun i i0 i1 => by
    have := rd_byte hs i0 i1; exact w64 (by omega) (by omega)
  by_cases hp : p < s.length
  · obtain ⟨b0, b1⟩ := rd_byte hs h0 hp
    refine ⟨Int.tmod (rd s p) n, tmod_range b0 n0, ?_⟩
    refine Ev.step (fun k => by rw [spec_l6Rd_pick.j0]) ?_
    rw [ez]
    refine Ev.neg (by simp; intro hh; apply e; simp [hh]) (Ev.pos hp (Ev.pos h0 (Ev.neg (by omega) ?_)))
    rw [er p h0 hp]
    exact Ev.done rfl
  · have hL : (1 : Int) ≤ s.length := by omega
    have ha : 0 ≤ p % (s.length : Int) ∧ p % (s.length : Int) < s.length := ⟨Int.emod_nonneg _ (by omega), Int.emod_lt_of_pos _ (by omega)⟩
    have hb : 0 ≤ (p * 7 + 3) % (s.length : Int) ∧ (p * 7 + 3) % (s.length : Int) < s.length := ⟨Int.emod_nonneg _ (by omega), Int.emod_lt_of_pos _ (by omega)⟩
    have hd : 0 ≤ p / (s.length : Int) ∧ p / (s.length : Int) ≤ p := ⟨Int.ediv_nonneg h0 (by omega), Int.ediv_le_self _ h0⟩
    obtain ⟨a0, a1⟩ := rd_byte hs ha.1 ha.2
    obtain ⟨b0, b1⟩ := rd_byte hs hb.1 hb.2
    have ea := er _ ha.1 ha.2
    have eb := er _ hb.1 hb.2
    have e7 : wrap64 (wrap64 (p * 7) + 3) = p * 7 + 3 := by rw [w64 (x := p * 7) (by omega) (by omega), w64 (by omega) (by omega)]
    have em : Int.tmod p (s.length : Int) = p % (s.length : Int) := tmod_nn h0
    have en : Int.tmod (p * 7 + 3) (s.length : Int) = (p * 7 + 3) % (s.length : Int) := tmod_nn (by omega)
    have ed : Int.tdiv p (s.length : Int) = p / (s.length : Int) := tdiv_nn h0
    generalize hA : rd s (p % (s.length : Int)) = A at *
    generalize hB : rd s ((p * 7 + 3) % (s.length : Int)) = B at *
    generalize hD : p / (s.length : Int) = D at *
    have eX : wrap64 (wrap64 (wrap64 (wrap64 (A * 131) + wrap64 (B * 1117)) + wrap64 (p * 29)) + wrap64 (wrap64 D * 53)) = A * 131 + B * 1117 + p * 29 + D * 53 := by
      rw [w64 (x := A * 131) (by omega) (by omega), w64 (x := B * 1117) (by omega) (by omega), w64 (x := A * 131 + B * 1117) (by omega) (by omega), w64 (x := p * 29) (by omega) (by omega), w64 (x := D) (by omega) (by omega), w64 (x := D * 53) (by omega) (by omega), w64 (x := A * 131 + B * 1117 + p * 29) (by omega) (by omega), w64 (by omega) (by omega)]
    have hX0 : 0 ≤ A * 131 + B * 1117 + p * 29 + D * 53 := by omega
    have hX1 : A * 131 + B * 1117 + p * 29 + D * 53 ≤ 9223372036854775807 := by omega
    generalize A * 131 + B * 1117 + p * 29 + D * 53 = X at *
    have eY : wrap64 (Int.tdiv X 64) = X / 64 := by rw [tdiv_nn hX0]; exact w64 (by omega) (by omega)
    refine ⟨Int.tmod (Go.bits .xor .i64 X (X / 64)) n, tmod_range (xor_nn hX0 (by omega) (by omega) (by omega)) n0, ?_⟩
    refine Ev.step (fun k => by rw [spec_l6Rd_pick.j0]) ?_
    rw [ez]
    refine Ev.neg (by simp; intro hh; apply e; simp [hh]) (Ev.neg hp (Ev.neg (by omega) ?_))
    rw [e7, em, en, ed, hA, hB, ea, eb, eX, eY]
    exact Ev.pos ha.1 (Ev.pos ha.2 (Ev.pos hb.1 (Ev.pos hb.2 (Ev.neg (by omega) (Ev.done rfl)))))
/-- A number from 0 to n - 1, and the reader is one further. -/
theorem pick_ev {s : List Int} (hs : RdS s) {p : Int} (h0 : 0 ≤ p) (h1 : p ≤ 1099511627776) {n : Int} (n0 : 1 ≤ n) (n1 : n ≤ 1000000) :
    ∃ v, (0 ≤ v ∧ v < n) ∧ Ev (fun k => spec_l6Rd_pick.f k s p n) (v, p + 1) := by
  obtain ⟨v, hv, he⟩ := pick_j0 s hs p h0 h1 n n0 n1
  refine ⟨v, hv, ?_⟩
  unfold spec_l6Rd_pick.f
  rw [w64 (by omega) (by omega)]
  exact Ev.neg (by omega) he


/-! ### The five tables -/
def kindL (c : Int) : List Int := (spec_l2Of.f 300 c).getD []
theorem five {P : Int → Prop} (h : ∀ i : Fin 5, P (i.val : Int)) (a : Int) (h0 : 0 ≤ a) (h1 : a < 5) : P a := by
  have := h ⟨a.toNat, by omega⟩
  simpa [Int.toNat_of_nonneg h0] using this
theorem kindL_some : ∀ i : Fin 5, spec_l2Of.f 300 (i.val : Int) = some (kindL (i.val : Int)) := by decide +kernel
theorem kindL_nines : ∀ i : Fin 5, ninesB (kindL (i.val : Int)) 81 = true := by decide +kernel
theorem kind_ev (c : Int) (h0 : 0 ≤ c) (h1 : c < 5) : Ev (fun k => spec_l2Of.f k c) (kindL c) :=
  Ev.of (fun k => spec_l2Of.mono c k) (five (P := fun c => spec_l2Of.f 300 c = some (kindL c)) kindL_some c h0 h1)
theorem kind_nines (c : Int) (h0 : 0 ≤ c) (h1 : c < 5) : ninesB (kindL c) 81 = true := five (P := fun c => ninesB (kindL c) 81 = true) kindL_nines c h0 h1
/-- What is drawn for a system: a kind's table, that with one entry set, or too short. -/
def DrawnT (t : List Int) : Prop := ∃ c : Int, 0 ≤ c ∧ c < 5 ∧ (t = kindL c ∨ (∃ i v : Int, 0 ≤ i ∧ i < 81 ∧ 0 ≤ v ∧ v < 9 ∧ t = (kindL c).set i.toNat v) ∨ t = (kindL c).take 80)
theorem DrawnT.len {t : List Int} (h : DrawnT t) : t.length ≤ 81 := by
  obtain ⟨c, c0, c1, h⟩ := h
  have hl := (ninesB_iff.1 (kind_nines c c0 c1)).1
  rcases h with rfl | ⟨i, v, _, _, _, _, rfl⟩ | rfl
  · omega
  · rw [List.length_set]; omega
  · rw [List.length_take]; omega
theorem system_ev {s : List Int} (hs : RdS s) {p : Int} (h0 : 0 ≤ p) (h1 : p ≤ 1099511000000) : ∃ t q, DrawnT t ∧ (p ≤ q ∧ q ≤ p + 5) ∧ Ev (fun k => spec_l91System.f k s p) (t, q) := by
  obtain ⟨c, hc, ec⟩ := pick_ev hs h0 (by omega) (n := 5) (by omega) (by omega)
  obtain ⟨a, ha, ea⟩ := pick_ev hs (p := p + 1) (by omega) (by omega) (n := 30) (by omega) (by omega)
  obtain ⟨i, hi, ei⟩ := pick_ev hs (p := p + 1 + 1) (by omega) (by omega) (n := 9) (by omega) (by omega)
  obtain ⟨j, hj, ej⟩ := pick_ev hs (p := p + 1 + 1 + 1) (by omega) (by omega) (n := 9) (by omega) (by omega)
  obtain ⟨v, hv, ev⟩ := pick_ev hs (p := p + 1 + 1 + 1 + 1) (by omega) (by omega) (n := 9) (by omega) (by omega)
  have hl := (ninesB_iff.1 (kind_nines c hc.1 hc.2)).1
  have ew : wrap64 (wrap64 (9 * i) + j) = 9 * i + j := by rw [w64 (x := 9 * i) (by omega) (by omega), w64 (by omega) (by omega)]
  by_cases e : a = 0
  · refine ⟨(kindL c).set (9 * i + j).toNat v, p + 1 + 1 + 1 + 1 + 1, ⟨c, hc.1, hc.2, .inr (.inl ⟨9 * i + j, v, by omega, by omega, hv.1, hv.2, rfl⟩)⟩, by omega, ?_⟩
    unfold spec_l91System.f
    refine Ev.bind ec (Ev.bind (kind_ev c hc.1 hc.2) (Ev.bind ea (Ev.pos e (Ev.bind ei (Ev.bind ej (Ev.bind ev ?_))))))
    dsimp only
    rw [ew]
    exact Ev.pos (by omega) (Ev.pos (by omega) (Ev.done rfl))
  by_cases e1 : a = 1
  · refine ⟨(kindL c).take 80, p + 1 + 1, ⟨c, hc.1, hc.2, .inr (.inr rfl)⟩, by omega, ?_⟩
    unfold spec_l91System.f
    refine Ev.bind ec (Ev.bind (kind_ev c hc.1 hc.2) (Ev.bind ea (Ev.neg e (Ev.pos e1 (Ev.pos ?_ (Ev.done rfl))))))
    omega
  · refine ⟨kindL c, p + 1 + 1, ⟨c, hc.1, hc.2, .inl rfl⟩, by omega, ?_⟩
    unfold spec_l91System.f
    exact Ev.bind ec (Ev.bind (kind_ev c hc.1 hc.2) (Ev.bind ea (Ev.neg e (Ev.neg e1 (Ev.done rfl)))))

end Go.Proofs.Ytcbkoecanldlpaa.X

set_option linter.unusedVariables false
set_option linter.unusedSimpArgs false
namespace Go.Proofs.Ytcbkoecanldlpaa.X
open Go.RowKit Go.Proofs.YtcbkoecanldlpaaW.PrintWords Go.Proofs.YtcbkoecanldlpaaW.PrintLast Go.Proofs.Ytcbkoecanldlpaa.P

theorem point_ev {s : List Int} (hs : RdS s) {p : Int} (h0 : 0 ≤ p) (h1 : p ≤ 1099511000000) : ∃ v q, (-1 ≤ v ∧ v ≤ 91) ∧ (p ≤ q ∧ q ≤ p + 3) ∧ Ev (fun k => spec_l91Point.f k s p) (v, q) := by
  obtain ⟨a, ha, ea⟩ := pick_ev hs h0 (by omega) (n := 30) (by omega) (by omega)
  obtain ⟨b, hb, eb⟩ := pick_ev hs (p := p + 1) (by omega) (by omega) (n := 2) (by omega) (by omega)
  obtain ⟨c, hc, ec⟩ := pick_ev hs (p := p + 1) (by omega) (by omega) (n := 4) (by omega) (by omega)
  obtain ⟨d, hd, ed⟩ := pick_ev hs (p := p + 1 + 1) (by omega) (by omega) (n := 10) (by omega) (by omega)
  obtain ⟨e, he, ee⟩ := pick_ev hs (p := p + 1 + 1) (by omega) (by omega) (n := 81) (by omega) (by omega)
  by_cases h : a = 0
  · refine ⟨rd [-1, 91] b, p + 1 + 1, ?_, by omega, ?_⟩
    · have : b = 0 ∨ b = 1 := by omega
      rcases this with rfl | rfl <;> decide
    · unfold spec_l91Point.f
      refine Ev.bind ea (Ev.pos h (Ev.fix rfl (Ev.bind eb ?_)))
      exact Ev.pos hb.1 (Ev.pos hb.2 (Ev.done rfl))
  by_cases h' : c = 0
  · refine ⟨81 + d, p + 1 + 1 + 1, by omega, by omega, ?_⟩
    unfold spec_l91Point.f
    refine Ev.bind ea (Ev.neg h (Ev.bind ec (Ev.pos h' (Ev.bind ed ?_))))
    dsimp only
    rw [w64 (x := 81 + d) (by omega) (by omega)]
    exact Ev.done rfl
  · refine ⟨e, p + 1 + 1 + 1, by omega, by omega, ?_⟩
    unfold spec_l91Point.f
    exact Ev.bind ea (Ev.neg h (Ev.bind ec (Ev.neg h' (Ev.bind ee (Ev.done rfl)))))
theorem quad_l0 {s : List Int} (hs : RdS s) (d : Nat) : ∀ (i p : Int) (l : List Int), 0 ≤ i → i + d = 4 → 0 ≤ p → p ≤ 1099510000000 + 3 * i → (l.length : Int) = i → (∀ x ∈ l, -1 ≤ x ∧ x ≤ 91) → ∃ l' q, l'.length = 4 ∧ (∀ x ∈ l', -1 ≤ x ∧ x ≤ 91) ∧ (p ≤ q ∧ q ≤ p + 3 * d) ∧ Ev (fun k => spec_l91Quad.l0 k l i s p) (l', q) := by
  induction d with
  | zero =>
    intro i p l i0 i1 p0 p1 hl ha
    refine ⟨l, p, by omega, ha, by omega, ?_⟩
    refine Ev.step (fun k => by rw [spec_l91Quad.l0]) ?_
    exact Ev.neg (by omega) (Ev.done rfl)
  | succ d ih =>
    intro i p l i0 i1 p0 p1 hl ha
    obtain ⟨v, q, hv, hq, ev⟩ := point_ev hs p0 (by omega)
    obtain ⟨l', q', h1, h2, h3, h4⟩ := ih (i + 1) q (l ++ [v]) (by omega) (by omega) (by omega) (by omega) (by rw [List.length_append, List.length_singleton]; omega) (fun x hx => by
      rcases List.mem_append.1 hx with h | h
      · exact ha x h
      · rw [List.mem_singleton.1 h]; exact hv)
    refine ⟨l', q', h1, h2, by omega, ?_⟩
    refine Ev.step (fun k => by rw [spec_l91Quad.l0]) ?_
    rw [w64 (x := i + 1) (by omega) (by omega)]
    exact Ev.pos (by omega) (Ev.bind ev (Ev.pos (by omega) h4))
theorem quad_ev {s : List Int} (hs : RdS s) {p : Int} (h0 : 0 ≤ p) (h1 : p ≤ 1099510000000) : ∃ l q, l.length = 4 ∧ (∀ x ∈ l, -1 ≤ x ∧ x ≤ 91) ∧ (p ≤ q ∧ q ≤ p + 12) ∧ Ev (fun k => spec_l91Quad.f k s p) (l, q) := by
  obtain ⟨l, q, a, b, c, d⟩ := quad_l0 hs 4 0 p [] (by omega) (by omega) h0 (by omega) rfl (fun x hx => by cases hx)
  exact ⟨l, q, a, b, by omega, d⟩

end Go.Proofs.Ytcbkoecanldlpaa.X
