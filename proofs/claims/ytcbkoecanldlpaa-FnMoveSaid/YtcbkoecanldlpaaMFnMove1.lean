/- The law FnMove of the given program: for every input the call returns true, and each argument reads afterwards as it read before. No conditions. (Part 2 of 4; the last part holds the theorem.) -/
import Derived.Test.YtcbkoecanldlpaaMFnMove0
import Derived.Test.YtcbkoecanldlpaaWKept
import Derived.Test.YtcbkoecanldlpaaWApart
namespace Go.Proofs.Ytcbkoecanldlpaa.P
open Go.RowKit Go.Proofs.YtcbkoecanldlpaaW.PrintWords Go.Proofs.YtcbkoecanldlpaaW.PrintLast
set_option linter.unusedVariables false
set_option linter.unusedSimpArgs false

mutual
def spec_SystemIn.j0 : Nat → List Int → Bool → Option (Bool)
 | 0, _, _ => none
 | k + 1, x0, x17 => if x17 = true then (some false) else (spec_SystemIn.l0 k x0 0)
def spec_SystemIn.l0 : Nat → List Int → Int → Option (Bool)
 | 0, _, _ => none
 | k + 1, x0, x3 => if x3 < 9 then (spec_SystemIn.l1 k x0 x3 0) else (some true)
def spec_SystemIn.l1 : Nat → List Int → Int → Int → Option (Bool)
 | 0, _, _, _ => none
 | k + 1, x0, x3, x4 => if x4 < x3 then ((spec_l2Solves.f x0 x3 x4).bind fun t175 => (if t175 = true then (spec_SystemIn.l1 k x0 x3 (wrap64 (x4 + 1))) else (some false))) else (spec_SystemIn.l0 k x0 (wrap64 (x3 + 1)))
end
def spec_SystemIn.f (k : Nat) (l0 : List Int) : Option (Bool) := (spec_l2Table.f k l0).bind fun t172 => (if t172 = true then ((spec_l2Units.f k l0).bind fun t173 => (if t173 = true then ((spec_l2Shares.f l0).bind fun t174 => (spec_SystemIn.j0 k l0 (!t174))) else (spec_SystemIn.j0 k l0 true))) else (spec_SystemIn.j0 k l0 true))
set_option maxHeartbeats 8000000 in
set_option maxRecDepth 100000 in
theorem spec_SystemIn.calls (k : Nat) (A0 : Option Addr) (c0 : Nat) (l0 : List Int) (r : Bool) (w : World) (hr0 : Kd.C (Kd.int .i64) w A0 l0.length l0) (hc0 : l0.length ≤ c0) (h : spec_SystemIn.f k l0 = some r) :
  Calls Try.prog 63 #[.slice A0 l0.length c0] w fun e w' => e = .returned (.bool r) ∧ Below w.heap.size w w' := by
 have HR0 := Aside0.mk hr0
 have HC0 := Aside0.mk hc0
 clear hr0 hc0
 have HB := Aside0.mk (Below.refl w.heap.size w)
 have H : ((spec_l2Table.f k l0).bind fun t172 => (if t172 = true then ((spec_l2Units.f k l0).bind fun t173 => (if t173 = true then ((spec_l2Shares.f l0).bind fun t174 => (spec_SystemIn.j0 k l0 (!t174))) else (spec_SystemIn.j0 k l0 true))) else (spec_SystemIn.j0 k l0 true))) = some r := h
 clear h
 have HC2 := Aside0.mk H
 clear H
 go_enter Try.func63, Try.ntmps63
 go_upto_region 1 with (fail)
 go_cut [17] (fun v17 wc => ∃ (kq : Nat) (x17_1 : Bool), v17 = .bool x17_1 ∧ Aside0 (spec_SystemIn.j0 kq l0 x17_1 = some r) ∧ Aside0 (kq ≤ k) ∧ Aside0 (Below w.heap.size w wc))
 case first =>
  have H := HC2.out
  clear HC2
  replace H := Option.bind_eq_some_iff.mp H
  obtain ⟨t172, A30, H⟩ := H
  replace H : (if t172 = true then ((spec_l2Units.f k l0).bind fun t173 => (if t173 = true then ((spec_l2Shares.f l0).bind fun t174 => (spec_SystemIn.j0 k l0 (!t174))) else (spec_SystemIn.j0 k l0 true))) else (spec_SystemIn.j0 k l0 true)) = some r := H
  have A3 := Aside0.mk A30
  clear A30
  by_cases c4 : t172 = true
  ·subst c4
   have H1 : ((spec_l2Units.f k l0).bind fun t173 => (if t173 = true then ((spec_l2Shares.f l0).bind fun t174 => (spec_SystemIn.j0 k l0 (!t174))) else (spec_SystemIn.j0 k l0 true))) = some r := by rw [if_pos rfl] at H; exact H
   clear H
   have H := H1
   clear H1
   replace H := Option.bind_eq_some_iff.mp H
   obtain ⟨t173, A50, H⟩ := H
   replace H : (if t173 = true then ((spec_l2Shares.f l0).bind fun t174 => (spec_SystemIn.j0 k l0 (!t174))) else (spec_SystemIn.j0 k l0 true)) = some r := H
   have A5 := Aside0.mk A50
   clear A50
   by_cases c6 : t173 = true
   ·subst c6
    have H1 : ((spec_l2Shares.f l0).bind fun t174 => (spec_SystemIn.j0 k l0 (!t174))) = some r := by rw [if_pos rfl] at H; exact H
    clear H
    have H := H1
    clear H1
    replace H := Option.bind_eq_some_iff.mp H
    obtain ⟨t174, A70, H⟩ := H
    replace H : (spec_SystemIn.j0 k l0 (!t174)) = some r := H
    have A7 := Aside0.mk A70
    clear A70
    have H' := Aside0.mk H
    clear H
    go_wp2_with (first | (refine goesL_ (some 6) rfl rfl Try.func128 (by kernel_rfl) rfl #[.slice A0 l0.length c0] rfl ll_ ?_; (with_reducible refine (spec_l2Table.calls k _ _ l0 true _ ?side1 ?side2 A3.out).mono ?_); (case side1 => exact sb_ HR0 HB); (case side2 => exact HC0.out); rintro e w' ⟨rfl, ⟨nd, rfl⟩⟩; refine ⟨_, rfl, ?_⟩) | (go_at_call 129; (with_reducible refine (spec_l2Units.calls k _ _ l0 true _ ?side1 ?side2 A5.out).mono ?_); (case side1 => repeat (first | exact (Kd.C_below HR0.out (bb_ HB)) | (with_reducible refine Kd.C_alloc ?_ _) | (with_reducible refine Kd.C_drewN ?_ _) | (with_reducible refine Kd.C_drew ?_))); (case side2 => exact HC0.out); rintro e w' ⟨rfl, ⟨nd, rfl⟩⟩) | (go_at_call 130; (with_reducible refine (spec_l2Shares.calls _ _ l0 t174 _ ?side1 ?side2 A7.out).mono ?_); (case side1 => repeat (first | exact (Kd.C_below HR0.out (bb_ HB)) | (with_reducible refine Kd.C_alloc ?_ _) | (with_reducible refine Kd.C_drewN ?_ _) | (with_reducible refine Kd.C_drew ?_))); (case side2 => exact HC0.out); rintro e w' ⟨rfl, ⟨nd, rfl⟩⟩))
    go_meet
    case rel => exact ⟨_, (!t174), (by first | rfl | (simp; done) | (simp [*]; done)), H', ⟨by first | omega | exact Nat.le_refl _⟩, ⟨by repeat (first | (with_reducible first | exact HB.out | apply below_alloc | apply pw_below_drewN | apply below_drew1) | exact HB.out)⟩⟩
   ·replace c6 := Bool.eq_false_iff.mpr c6
    subst c6
    have H1 : (spec_SystemIn.j0 k l0 true) = some r := by rw [if_neg (show ¬ (false = true) by decide)] at H; exact H
    clear H
    have H := H1
    clear H1
    have H' := Aside0.mk H
    clear H
    go_wp2_with (first | (refine goesL_ (some 6) rfl rfl Try.func128 (by kernel_rfl) rfl #[.slice A0 l0.length c0] rfl ll_ ?_; (with_reducible refine (spec_l2Table.calls k _ _ l0 true _ ?side1 ?side2 A3.out).mono ?_); (case side1 => exact sb_ HR0 HB); (case side2 => exact HC0.out); rintro e w' ⟨rfl, ⟨nd, rfl⟩⟩; refine ⟨_, rfl, ?_⟩) | (go_at_call 129; (with_reducible refine (spec_l2Units.calls k _ _ l0 false _ ?side1 ?side2 A5.out).mono ?_); (case side1 => repeat (first | exact (Kd.C_below HR0.out (bb_ HB)) | (with_reducible refine Kd.C_alloc ?_ _) | (with_reducible refine Kd.C_drewN ?_ _) | (with_reducible refine Kd.C_drew ?_))); (case side2 => exact HC0.out); rintro e w' ⟨rfl, ⟨nd, rfl⟩⟩))
    go_meet
    case rel => exact ⟨_, (true), (by first | rfl | (simp; done) | (simp [*]; done)), H', ⟨by first | omega | exact Nat.le_refl _⟩, ⟨by repeat (first | (with_reducible first | exact HB.out | apply below_alloc | apply pw_below_drewN | apply below_drew1) | exact HB.out)⟩⟩
  ·replace c4 := Bool.eq_false_iff.mpr c4
   subst c4
   have H1 : (spec_SystemIn.j0 k l0 true) = some r := by rw [if_neg (show ¬ (false = true) by decide)] at H; exact H
   clear H
   have H := H1
   clear H1
   have H' := Aside0.mk H
   clear H
   go_wp2_with (first | (refine goesL_ (some 6) rfl rfl Try.func128 (by kernel_rfl) rfl #[.slice A0 l0.length c0] rfl ll_ ?_; (with_reducible refine (spec_l2Table.calls k _ _ l0 false _ ?side1 ?side2 A3.out).mono ?_); (case side1 => exact sb_ HR0 HB); (case side2 => exact HC0.out); rintro e w' ⟨rfl, ⟨nd, rfl⟩⟩; refine ⟨_, rfl, ?_⟩))
   go_meet
   case rel => exact ⟨_, (true), (by first | rfl | (simp; done) | (simp [*]; done)), H', ⟨by first | omega | exact Nat.le_refl _⟩, ⟨by repeat (first | (with_reducible first | exact HB.out | apply below_alloc | apply pw_below_drewN | apply below_drew1) | exact HB.out)⟩⟩
 case rest =>
  clear HC2
  try clear c1
  try clear p2
  try clear c4
  try clear c6
  obtain ⟨kq, x17_1, rfl, HA, HJ1, HB⟩ := hcut
  cases kq with
  | zero => exact absurd HA.out (by simp [spec_SystemIn.j0])
  | succ kj1 =>
   have H := HA.out
   clear HA
   simp only [spec_SystemIn.j0] at H
   by_cases c8 : x17_1 = true
   ·subst c8
    have H1 : (some false) = some r := by rw [if_pos rfl] at H; exact H
    clear H
    have H := H1
    clear H1
    obtain rfl := Option.some.inj H
    go_wp2
    go_ret
    exact ⟨ee_, bb_ HB⟩
   ·replace c8 := Bool.eq_false_iff.mpr c8
    subst c8
    have H1 : (spec_SystemIn.l0 kj1 l0 0) = some r := by rw [if_neg (show ¬ (false = true) by decide)] at H; exact H
    clear H
    have H := H1
    clear H1
    have H' := Aside0.mk H
    clear H
    go_wp2
    go_loopg [3] kj1 (fun kq v3 w' => ∃ (x3_2 : Int), v3 = .int .i64 x3_2 ∧ Aside0 (spec_SystemIn.l0 kq l0 x3_2 = some r) ∧ Aside0 (kq ≤ kj1) ∧ Aside0 (Below w.heap.size w w'))
    case atStart => exact ⟨(0), (by first | rfl | (simp; done) | (simp [*]; done)), H', ⟨Nat.le_refl _⟩, ⟨by repeat (first | (with_reducible first | exact HB.out | apply below_alloc | apply pw_below_drewN | apply below_drew1) | exact HB.out)⟩⟩
    case round =>
     clear H'
     try clear c1
     try clear p2
     try clear c4
     try clear c6
     try clear c8
     try clear p2
     obtain ⟨x3_2, rfl, HA, HK2, HB⟩ := hrel
     cases gk with
     | zero => exact absurd HA.out (by simp [spec_SystemIn.l0])
     | succ k2 =>
      have H := HA.out
      clear HA
      simp only [spec_SystemIn.l0] at H
      by_cases c9 : x3_2 < 9
      ·rw [if_pos c9] at H
       have c9b0 : decide (x3_2 < 9) = true := decide_eq_true c9
       clear c9
       have H' := Aside0.mk H
       clear H
       go_wp2
       go_loopg [4] k2 (fun kq v4 w' => ∃ (x4_3 : Int), v4 = .int .i64 x4_3 ∧ Aside0 (spec_SystemIn.l1 kq l0 x3_2 x4_3 = some r) ∧ Aside0 (kq ≤ k2) ∧ Aside0 (Below w.heap.size w w'))
       case atStart => exact ⟨(0), (by first | rfl | (simp; done) | (simp [*]; done)), H', ⟨Nat.le_refl _⟩, ⟨by repeat (first | (with_reducible first | exact HB.out | apply below_alloc | apply pw_below_drewN | apply below_drew1) | exact HB.out)⟩⟩
       case round =>
        clear H'
        try clear c1
        try clear p2
        try clear c4
        try clear c6
        try clear c8
        try clear c9
        try clear c9b0
        try clear p2
        obtain ⟨x4_3, rfl, HA, HK3, HB⟩ := hrel
        cases gk with
        | zero => exact absurd HA.out (by simp [spec_SystemIn.l1])
        | succ k3 =>
         have H := HA.out
         clear HA
         simp only [spec_SystemIn.l1] at H
         by_cases c10 : x4_3 < x3_2
         ·rw [if_pos c10] at H
          have c10b0 : decide (x4_3 < x3_2) = true := decide_eq_true c10
          clear c10
          replace H := Option.bind_eq_some_iff.mp H
          obtain ⟨t175, A110, H⟩ := H
          replace H : (if t175 = true then (spec_SystemIn.l1 k3 l0 x3_2 (wrap64 (x4_3 + 1))) else (some false)) = some r := H
          have A11 := Aside0.mk A110
          clear A110
          by_cases c12 : t175 = true
          ·subst c12
           have H1 : (spec_SystemIn.l1 k3 l0 x3_2 (wrap64 (x4_3 + 1))) = some r := by rw [if_pos rfl] at H; exact H
           clear H
           have H := H1
           clear H1
           have H' := Aside0.mk H
           clear H
           go_wp2_with (first | (refine goesL_ (some 30) rfl rfl Try.func131 (by kernel_rfl) rfl #[.slice A0 l0.length c0, .int .i64 x3_2, .int .i64 x4_3] rfl ll_ ?_; (with_reducible refine (spec_l2Solves.calls _ _ l0 x3_2 x4_3 true _ ?side1 ?side2 A11.out).mono ?_); (case side1 => exact sb_ HR0 HB); (case side2 => exact HC0.out); rintro e w13 ⟨rfl, hb⟩; refine ⟨_, rfl, ?_⟩; have n0_ := Aside0.mk (below_step (bb_ HB) hb); clear HB; have HB := n0_; clear n0_; (try clear hb); (try clear hb2); (try clear hk); (try clear hi)))
           go_roundg k3
           case measure => have := HJ1.out; have := HK2.out; have := HK3.out; omega
           case rel => exact ⟨(wrap64 (x4_3 + 1)), (by first | rfl | (simp; done) | (simp [*]; done)), H', ⟨by have := HJ1.out; have := HK2.out; have := HK3.out; omega⟩, ⟨by repeat (first | (with_reducible first | exact HB.out | apply below_alloc | apply pw_below_drewN | apply below_drew1) | exact HB.out)⟩⟩
          ·replace c12 := Bool.eq_false_iff.mpr c12
           subst c12
           have H1 : (some false) = some r := by rw [if_neg (show ¬ (false = true) by decide)] at H; exact H
           clear H
           have H := H1
           clear H1
           obtain rfl := Option.some.inj H
           go_wp2_with (first | (refine goesL_ (some 30) rfl rfl Try.func131 (by kernel_rfl) rfl #[.slice A0 l0.length c0, .int .i64 x3_2, .int .i64 x4_3] rfl ll_ ?_; (with_reducible refine (spec_l2Solves.calls _ _ l0 x3_2 x4_3 false _ ?side1 ?side2 A11.out).mono ?_); (case side1 => exact sb_ HR0 HB); (case side2 => exact HC0.out); rintro e w14 ⟨rfl, hb⟩; refine ⟨_, rfl, ?_⟩; have n0_ := Aside0.mk (below_step (bb_ HB) hb); clear HB; have HB := n0_; clear n0_; (try clear hb); (try clear hb2); (try clear hk); (try clear hi)))
           go_ret
           exact ⟨ee_, bb_ HB⟩
         ·rw [if_neg c10] at H
          have c10b0 : decide (x4_3 < x3_2) = false := decide_eq_false c10
          clear c10
          have H' := Aside0.mk H
          clear H
          go_wp2
          go_roundg k3
          case measure => have := HJ1.out; have := HK2.out; have := HK3.out; omega
          case rel => exact ⟨(wrap64 (x3_2 + 1)), (by first | rfl | (simp; done) | (simp [*]; done)), H', ⟨by have := HJ1.out; have := HK2.out; have := HK3.out; omega⟩, ⟨by repeat (first | (with_reducible first | exact HB.out | apply below_alloc | apply pw_below_drewN | apply below_drew1) | exact HB.out)⟩⟩
      ·rw [if_neg c9] at H
       have c9b0 : decide (x3_2 < 9) = false := decide_eq_false c9
       clear c9
       obtain rfl := Option.some.inj H
       go_wp2
       go_ret
       exact ⟨ee_, bb_ HB⟩
end Go.Proofs.Ytcbkoecanldlpaa.P

namespace Go.Proofs.Ytcbkoecanldlpaa.P
open Go.RowKit Go.Proofs.YtcbkoecanldlpaaW.PrintWords Go.Proofs.YtcbkoecanldlpaaW.PrintLast
set_option linter.unusedVariables false
set_option linter.unusedSimpArgs false

def spec_l5Far.l0 : Nat → List Int → Int → Option (List Int)
 | 0, _, _ => none
 | k + 1, x0, x3 => if x3 < 91 then (if x0.length < 17592186044416 then (spec_l5Far.l0 k (x0 ++ [x3]) (wrap64 (x3 + 1))) else (none)) else (some x0)
def spec_l5Far.f (k : Nat) (l0 : List Int) : Option (List Int) := spec_l5Far.l0 k l0 81
set_option maxHeartbeats 8000000 in
set_option maxRecDepth 100000 in
theorem spec_l5Far.calls (k : Nat) (P0_ : Nat → Prop) (u9000_ : Value) (l0 : List Int) (r : List Int) (w0 w : World) (hB : Below w0.heap.size w0 w) (ho0 : Kd.R (Kd.int .i64) 3 w w0.heap.size P0_ u9000_ l0) (h : spec_l5Far.f k l0 = some r) :
  Calls Try.prog 200 #[u9000_] w fun e w' => ∃ v0_ : Value, e = .returned (v0_) ∧ Kd.R (Kd.int .i64) 3 w' w0.heap.size (fun k_ => (P0_ k_ ∨ w.heap.size ≤ k_)) v0_ r ∧ Below w0.heap.size w0 w' ∧ Kept w w' (fun k_ => P0_ k_) := by
 have HO0 := Aside0.mk (show Kd.R (Kd.int .i64) 3 w w0.heap.size (fun k_ => (P0_ k_ ∨ w.heap.size ≤ k_)) u9000_ l0 from Kd.R_mono ho0 (fun k_ hk => (.inl hk)))
 have HK := Aside0.mk (Kept.refl w (fun k_ => P0_ k_))
 have HW0 := Aside0.mk hB.size
 have HB := Aside0.mk hB
 clear hB
 have H : (spec_l5Far.l0 k l0 81) = some r := h
 clear h
 have H' := Aside0.mk H
 clear H
 go_enter Try.func200, Try.ntmps200
 go_wp2
 go_loopg [0, 3] k (fun kq v0 v3 w' => ∃ (x0_1 : List Int) (x3_1 : Int), v3 = .int .i64 x3_1 ∧ Aside0 (spec_l5Far.l0 kq x0_1 x3_1 = some r) ∧ Aside0 (kq ≤ k) ∧ Aside0 (Kd.R (Kd.int .i64) 3 w' w0.heap.size (fun k_ => (P0_ k_ ∨ w.heap.size ≤ k_)) v0 x0_1) ∧ Aside0 (Kept w w' (fun k_ => P0_ k_)) ∧ Aside0 (Below w0.heap.size w0 w'))
 case atStart => exact ⟨(l0), (81), (by first | rfl | (simp; done) | (simp [*]; done)), H', ⟨Nat.le_refl _⟩, ⟨rr_ HO0⟩, ⟨by repeat (first | (with_reducible first | exact HK.out | apply Kept.alloc | apply Kept.drewN | apply Kept.drew) | exact HK.out)⟩, ⟨by repeat (first | (with_reducible first | exact HB.out | apply below_alloc | apply pw_below_drewN | apply below_drew1) | exact HB.out)⟩⟩
 case round =>
  clear H'
  obtain ⟨x0_1, x3_1, rfl, HA, HK1, HO_0, HK, HB⟩ := hrel
  cases gk with
  | zero => exact absurd HA.out (by simp [spec_l5Far.l0])
  | succ k1 =>
   have H := HA.out
   clear HA
   simp only [spec_l5Far.l0] at H
   by_cases c2 : x3_1 < 91
   ·rw [if_pos c2] at H
    have c2b0 : decide (x3_1 < 91) = true := decide_eq_true c2
    clear c2
    by_cases c3 : x0_1.length < 17592186044416
    ·rw [if_pos c3] at H
     have LMc3 := Aside0.mk c3
     clear c3
     obtain ⟨y1202, hy1202⟩ : ∃ y_ : List Int, y_ = (x0_1 ++ [x3_1]) := ⟨_, rfl⟩
     replace H : (spec_l5Far.l0 k1 y1202 (wrap64 (x3_1 + 1))) = some r := by first | (rw [hy1202]; with_reducible exact H) | (have H2_ := (Option.bind_some _ _).symm.trans H; rw [hy1202]; with_reducible exact H2_) | (have H2_ := (Option.bind_some _ _).symm.trans H; with_reducible exact H2_) | with_reducible exact H | (rw [hy1202]; exact H) | exact H
     have Ny1202 := Aside0.mk hy1202
     clear hy1202
     have H' := Aside0.mk H
     clear H
     go_wp2_with (first | (at_builtin; refine Kd.R_append (Kd.int .i64) (w0 := w0) w0.heap.size rfl (.tmp 8) (.tmp 10) 23 3 (.int .i64 0) 8 rfl Try.underlying23 info3 rfl (by decide) (by omega) u0 x0_1 x3_1 [.int .i64 x3_1] (fun k_ => (P0_ k_ ∨ w.heap.size ≤ k_)) (fun _ => False) rfl rfl ?aP (fun _ hk => hk.elim) ?aF ?aO ?aB ?aS ?aL ?_; (case aP => exact rfl); (case aB => exact (bb_ HB)); (case aF => exact (fun k_ hk => (.inr (Nat.le_trans (by first | exact HK.out.1 | exact (show Kept w _ (fun k_ => P0_ k_) from by repeat (first | (with_reducible first | exact HK.out | apply Kept.alloc | apply Kept.drewN | apply Kept.drew) | exact HK.out)).1) hk)))); (case aO => exact (rr_ HO_0)); (case aS => exact (below_size (bb_ HB))); (case aL => have := LMc3.out; omega); intro v1203 w4 ho hb hg hat; rw [← Ny1202.out] at ho; have n0_ := Aside0.mk (hb); have n1_ := Aside0.mk (Kept.of_grown (S := (fun k_ => P0_ k_)) hg (by repeat (first | (with_reducible first | exact HK.out | apply Kept.alloc | apply Kept.drewN | apply Kept.drew) | exact HK.out)) (fun k_ e_ => (HO_0.out.1 k_ e_))); have n2_ := Aside0.mk (ho); clear HB; clear HK; clear HO_0; have HB := n0_; have HK := n1_; have HO1204 := n2_; clear n0_ n1_ n2_; clear ho hb hg hat))
     go_roundg k1
     case measure => have := HK1.out; omega
     case rel => exact ⟨(y1202), (wrap64 (x3_1 + 1)), (by first | rfl | (simp; done) | (simp [*]; done)), H', ⟨by have := HK1.out; omega⟩, ⟨rr_ HO1204⟩, ⟨by repeat (first | (with_reducible first | exact HK.out | apply Kept.alloc | apply Kept.drewN | apply Kept.drew) | exact HK.out)⟩, ⟨by repeat (first | (with_reducible first | exact HB.out | apply below_alloc | apply pw_below_drewN | apply below_drew1) | exact HB.out)⟩⟩
    ·rw [if_neg c3] at H
     exact absurd H (by simp)
   ·rw [if_neg c2] at H
    have c2b0 : decide (x3_1 < 91) = false := decide_eq_false c2
    clear c2
    obtain rfl := Option.some.inj H
    go_wp2
    go_ret
    exact ⟨_, ee_, by (with_reducible repeat (first | apply Kd.R_alloc | apply Kd.R_drewN | apply Kd.R_drew)); exact HO_0.out, bb_ HB, by repeat (first | (with_reducible first | exact HK.out | apply Kept.alloc | apply Kept.drewN | apply Kept.drew) | exact HK.out)⟩
end Go.Proofs.Ytcbkoecanldlpaa.P

namespace Go.Proofs.Ytcbkoecanldlpaa.P
open Go.RowKit Go.Proofs.YtcbkoecanldlpaaW.PrintWords Go.Proofs.YtcbkoecanldlpaaW.PrintLast
set_option linter.unusedVariables false
set_option linter.unusedSimpArgs false

mutual
def spec_MoveShift.j0 : Nat → Int → Int → List Int → Bool → Option (List Int × Bool)
 | 0, _, _, _, _ => none
 | k + 1, x1, x2, x8, x23 => if x23 = true then (some (x8, false)) else (spec_MoveShift.l0 k x1 x2 x8 0)
def spec_MoveShift.l0 : Nat → Int → Int → List Int → Int → Option (List Int × Bool)
 | 0, _, _, _, _ => none
 | k + 1, x1, x2, x8, x9 => if x9 < 81 then ((spec_l1Add.f (wrap64 (Int.tdiv x9 9)) x1).bind fun t1211 => ((spec_l1Add.f (Int.tmod x9 9) x2).bind fun t1212 => (if x8.length < 17592186044416 then (spec_MoveShift.l0 k x1 x2 (x8 ++ [wrap64 ((wrap64 (9 * t1211)) + t1212)]) (wrap64 (x9 + 1))) else (none)))) else ((spec_l5Far.f k x8).bind fun t1216 => (some (t1216, true)))
end
def spec_MoveShift.f (k : Nat) (l0 : List Int) (a1 : Int) (a2 : Int) : Option (List Int × Bool) := (some (([] : List Int) : List Int)).bind fun y1205 => ((spec_SystemIn.f k l0).bind fun t1208 => (if t1208 = true then ((spec_l1In.f a1).bind fun t1209 => (if t1209 = true then ((spec_l1In.f a2).bind fun t1210 => (spec_MoveShift.j0 k a1 a2 y1205 (!t1210))) else (spec_MoveShift.j0 k a1 a2 y1205 true))) else (spec_MoveShift.j0 k a1 a2 y1205 true)))
set_option maxHeartbeats 8000000 in
set_option maxRecDepth 100000 in
theorem spec_MoveShift.calls (k : Nat) (A0 : Option Addr) (c0 : Nat) (l0 : List Int) (a1 : Int) (a2 : Int) (r1 : List Int) (r2 : Bool) (w : World) (hr0 : Kd.C (Kd.int .i64) w A0 l0.length l0) (hc0 : l0.length ≤ c0) (h : spec_MoveShift.f k l0 a1 a2 = some (r1, r2)) :
  Calls Try.prog 187 #[.slice A0 l0.length c0, .int .i64 a1, .int .i64 a2] w fun e w' => ∃ v0_ : Value, e = .returned (.tuple #[v0_, .bool r2]) ∧ Kd.R (Kd.int .i64) 3 w' w.heap.size (fun _ => True) v0_ r1 ∧ Below w.heap.size w w' := by
 have HR0 := Aside0.mk hr0
 have HC0 := Aside0.mk hc0
 clear hr0 hc0
 have HB := Aside0.mk (Below.refl w.heap.size w)
 have H : ((some (([] : List Int) : List Int)).bind fun y1205 => ((spec_SystemIn.f k l0).bind fun t1208 => (if t1208 = true then ((spec_l1In.f a1).bind fun t1209 => (if t1209 = true then ((spec_l1In.f a2).bind fun t1210 => (spec_MoveShift.j0 k a1 a2 y1205 (!t1210))) else (spec_MoveShift.j0 k a1 a2 y1205 true))) else (spec_MoveShift.j0 k a1 a2 y1205 true)))) = some (r1, r2) := h
 clear h
 obtain ⟨y1205, hy1205⟩ : ∃ y_ : List Int, y_ = (([] : List Int)) := ⟨_, rfl⟩
 replace H : ((spec_SystemIn.f k l0).bind fun t1208 => (if t1208 = true then ((spec_l1In.f a1).bind fun t1209 => (if t1209 = true then ((spec_l1In.f a2).bind fun t1210 => (spec_MoveShift.j0 k a1 a2 y1205 (!t1210))) else (spec_MoveShift.j0 k a1 a2 y1205 true))) else (spec_MoveShift.j0 k a1 a2 y1205 true))) = some (r1, r2) := by first | (rw [hy1205]; with_reducible exact H) | (have H2_ := (Option.bind_some _ _).symm.trans H; rw [hy1205]; with_reducible exact H2_) | (have H2_ := (Option.bind_some _ _).symm.trans H; with_reducible exact H2_) | with_reducible exact H | (rw [hy1205]; exact H) | exact H
 have Ny1205 := Aside0.mk hy1205
 clear hy1205
 have HC4 := Aside0.mk H
 clear H
 go_enter Try.func187, Try.ntmps187
 go_upto_region 2 with (first | ((with_reducible refine gate_dst (N := 10) rfl ?_); refine Kd.R_lit (Kd.int .i64) _ 3 ?hg (N := 10) ?hd (xs := ([] : List Int)) (inner := []) (ok := fun _ => True) (okp := fun _ => True) ?hr ?hp (fun _ hk => hk) trivial (Below.refl _ _) (Nat.le_refl _) (by simp) ?_; (case hd => rfl); (case hg => rfl); (case hr => first | (go_simp; done) | (go_simp; rfl)); (case hp => exact (Reps.none _ _)); intro v1206 w5 ho6 hb hg_ hnew_; clear hg_ hnew_; (first | rw [← Ny1205.out] at ho6 | (simp only [Int.reduceToNat] at ho6; rw [← Ny1205.out] at ho6)); have n0_ := Aside0.mk (Kd.R_lower ho6 (below_size (bb_ HB))); have n1_ := Aside0.mk (below_step (bb_ HB) hb); clear HB; have HO1207 := n0_; have HB := n1_; clear n0_ n1_; clear hb ho6))
 (try simp only [Act.put, List.setIfInBounds_toArray, List.set_cons_zero, List.set_cons_succ])
 go_cut [23] (fun v23 wc => ∃ (kq : Nat) (x23_3 : Bool), v23 = .bool x23_3 ∧ Aside0 (spec_MoveShift.j0 kq a1 a2 y1205 x23_3 = some (r1, r2)) ∧ Aside0 (kq ≤ k) ∧ Aside0 (Kd.R (Kd.int .i64) 3 wc w.heap.size (fun _ => True) v1206 y1205) ∧ Aside0 (Below w.heap.size w wc))
 case first =>
  have H := HC4.out
  clear HC4
  replace H := Option.bind_eq_some_iff.mp H
  obtain ⟨t1208, A70, H⟩ := H
  replace H : (if t1208 = true then ((spec_l1In.f a1).bind fun t1209 => (if t1209 = true then ((spec_l1In.f a2).bind fun t1210 => (spec_MoveShift.j0 k a1 a2 y1205 (!t1210))) else (spec_MoveShift.j0 k a1 a2 y1205 true))) else (spec_MoveShift.j0 k a1 a2 y1205 true)) = some (r1, r2) := H
  have A7 := Aside0.mk A70
  clear A70
  by_cases c8 : t1208 = true
  ·subst c8
   have H1 : ((spec_l1In.f a1).bind fun t1209 => (if t1209 = true then ((spec_l1In.f a2).bind fun t1210 => (spec_MoveShift.j0 k a1 a2 y1205 (!t1210))) else (spec_MoveShift.j0 k a1 a2 y1205 true))) = some (r1, r2) := by rw [if_pos rfl] at H; exact H
   clear H
   have H := H1
   clear H1
   replace H := Option.bind_eq_some_iff.mp H
   obtain ⟨t1209, A90, H⟩ := H
   replace H : (if t1209 = true then ((spec_l1In.f a2).bind fun t1210 => (spec_MoveShift.j0 k a1 a2 y1205 (!t1210))) else (spec_MoveShift.j0 k a1 a2 y1205 true)) = some (r1, r2) := H
   have A9 := Aside0.mk A90
   clear A90
   by_cases c10 : t1209 = true
   ·subst c10
    have H1 : ((spec_l1In.f a2).bind fun t1210 => (spec_MoveShift.j0 k a1 a2 y1205 (!t1210))) = some (r1, r2) := by rw [if_pos rfl] at H; exact H
    clear H
    have H := H1
    clear H1
    replace H := Option.bind_eq_some_iff.mp H
    obtain ⟨t1210, A110, H⟩ := H
    replace H : (spec_MoveShift.j0 k a1 a2 y1205 (!t1210)) = some (r1, r2) := H
    have A11 := Aside0.mk A110
    clear A110
    have H' := Aside0.mk H
    clear H
    go_wp2_with (first | (refine goesL_ (some 12) rfl rfl Try.func63 (by kernel_rfl) rfl #[.slice A0 l0.length c0] rfl ll_ ?_; (with_reducible refine (spec_SystemIn.calls k _ _ l0 true _ ?side1 ?side2 A7.out).mono ?_); (case side1 => exact sb_ HR0 HB); (case side2 => exact HC0.out); rintro e w12 ⟨rfl, hb⟩; refine ⟨_, rfl, ?_⟩; have n0_ := Aside0.mk (Kd.R_below (rr_ HO1207) hb); have n1_ := Aside0.mk (below_step (bb_ HB) hb); clear HO1207; clear HB; have HO1207 := n0_; have HB := n1_; clear n0_ n1_; (try clear hb); (try clear hb2); (try clear hk); (try clear hi)) | (go_at_call 165; (with_reducible refine (spec_l1In.calls a1 true _ A9.out).mono ?_); rintro e w' ⟨rfl, ⟨nd, rfl⟩⟩) | (go_at_call 165; (with_reducible refine (spec_l1In.calls a2 t1210 _ A11.out).mono ?_); rintro e w' ⟨rfl, ⟨nd, rfl⟩⟩))
    go_meet
    case rel => exact ⟨_, (!t1210), (by first | rfl | (simp; done) | (simp [*]; done)), H', ⟨by first | omega | exact Nat.le_refl _⟩, ⟨rr_ HO1207⟩, ⟨by repeat (first | (with_reducible first | exact HB.out | apply below_alloc | apply pw_below_drewN | apply below_drew1) | exact HB.out)⟩⟩
   ·replace c10 := Bool.eq_false_iff.mpr c10
    subst c10
    have H1 : (spec_MoveShift.j0 k a1 a2 y1205 true) = some (r1, r2) := by rw [if_neg (show ¬ (false = true) by decide)] at H; exact H
    clear H
    have H := H1
    clear H1
    have H' := Aside0.mk H
    clear H
    go_wp2_with (first | (refine goesL_ (some 12) rfl rfl Try.func63 (by kernel_rfl) rfl #[.slice A0 l0.length c0] rfl ll_ ?_; (with_reducible refine (spec_SystemIn.calls k _ _ l0 true _ ?side1 ?side2 A7.out).mono ?_); (case side1 => exact sb_ HR0 HB); (case side2 => exact HC0.out); rintro e w13 ⟨rfl, hb⟩; refine ⟨_, rfl, ?_⟩; have n0_ := Aside0.mk (Kd.R_below (rr_ HO1207) hb); have n1_ := Aside0.mk (below_step (bb_ HB) hb); clear HO1207; clear HB; have HO1207 := n0_; have HB := n1_; clear n0_ n1_; (try clear hb); (try clear hb2); (try clear hk); (try clear hi)) | (go_at_call 165; (with_reducible refine (spec_l1In.calls a1 false _ A9.out).mono ?_); rintro e w' ⟨rfl, ⟨nd, rfl⟩⟩))
    go_meet
    case rel => exact ⟨_, (true), (by first | rfl | (simp; done) | (simp [*]; done)), H', ⟨by first | omega | exact Nat.le_refl _⟩, ⟨rr_ HO1207⟩, ⟨by repeat (first | (with_reducible first | exact HB.out | apply below_alloc | apply pw_below_drewN | apply below_drew1) | exact HB.out)⟩⟩
  ·replace c8 := Bool.eq_false_iff.mpr c8
   subst c8
   have H1 : (spec_MoveShift.j0 k a1 a2 y1205 true) = some (r1, r2) := by rw [if_neg (show ¬ (false = true) by decide)] at H; exact H
   clear H
   have H := H1
   clear H1
   have H' := Aside0.mk H
   clear H
   go_wp2_with (first | (refine goesL_ (some 12) rfl rfl Try.func63 (by kernel_rfl) rfl #[.slice A0 l0.length c0] rfl ll_ ?_; (with_reducible refine (spec_SystemIn.calls k _ _ l0 false _ ?side1 ?side2 A7.out).mono ?_); (case side1 => exact sb_ HR0 HB); (case side2 => exact HC0.out); rintro e w14 ⟨rfl, hb⟩; refine ⟨_, rfl, ?_⟩; have n0_ := Aside0.mk (Kd.R_below (rr_ HO1207) hb); have n1_ := Aside0.mk (below_step (bb_ HB) hb); clear HO1207; clear HB; have HO1207 := n0_; have HB := n1_; clear n0_ n1_; (try clear hb); (try clear hb2); (try clear hk); (try clear hi)))
   go_meet
   case rel => exact ⟨_, (true), (by first | rfl | (simp; done) | (simp [*]; done)), H', ⟨by first | omega | exact Nat.le_refl _⟩, ⟨rr_ HO1207⟩, ⟨by repeat (first | (with_reducible first | exact HB.out | apply below_alloc | apply pw_below_drewN | apply below_drew1) | exact HB.out)⟩⟩
 case rest =>
  clear HC4
  try clear c1
  try clear p2
  try clear c6
  try clear c8
  try clear c10
  obtain ⟨kq, x23_3, rfl, HA, HJ3, HO_8, HB⟩ := hcut
  cases kq with
  | zero => exact absurd HA.out (by simp [spec_MoveShift.j0])
  | succ kj3 =>
   have H := HA.out
   clear HA
   simp only [spec_MoveShift.j0] at H
   by_cases c15 : x23_3 = true
   ·subst c15
    have H1 : (some (y1205, false)) = some (r1, r2) := by rw [if_pos rfl] at H; exact H
    clear H
    have H := H1
    clear H1
    simp only [Option.some.injEq, Prod.mk.injEq] at H
    obtain ⟨rfl, rfl⟩ := H
    go_wp2
    go_ret2
    exact ⟨_, ee_, by (with_reducible repeat (first | apply Kd.R_alloc | apply Kd.R_drewN | apply Kd.R_drew)); exact HO_8.out, bb_ HB⟩
   ·replace c15 := Bool.eq_false_iff.mpr c15
    subst c15
    have H1 : (spec_MoveShift.l0 kj3 a1 a2 y1205 0) = some (r1, r2) := by rw [if_neg (show ¬ (false = true) by decide)] at H; exact H
    clear H
    have H := H1
    clear H1
    have H' := Aside0.mk H
    clear H
    go_wp2
    go_loopg [8, 9] kj3 (fun kq v8 v9 w' => ∃ (x8_2 : List Int) (x9_2 : Int), v9 = .int .i64 x9_2 ∧ Aside0 (spec_MoveShift.l0 kq a1 a2 x8_2 x9_2 = some (r1, r2)) ∧ Aside0 (kq ≤ kj3) ∧ Aside0 (Kd.R (Kd.int .i64) 3 w' w.heap.size (fun _ => True) v8 x8_2) ∧ Aside0 (Below w.heap.size w w'))
    case atStart => exact ⟨(y1205), (0), (by first | rfl | (simp; done) | (simp [*]; done)), H', ⟨Nat.le_refl _⟩, ⟨rr_ HO_8⟩, ⟨by repeat (first | (with_reducible first | exact HB.out | apply below_alloc | apply pw_below_drewN | apply below_drew1) | exact HB.out)⟩⟩
    case round =>
     clear H'
     try clear c1
     try clear p2
     try clear c6
     try clear c8
     try clear c10
     try clear c15
     try clear p2
     obtain ⟨x8_2, x9_2, rfl, HA, HK2, HO_8, HB⟩ := hrel
     cases gk with
     | zero => exact absurd HA.out (by simp [spec_MoveShift.l0])
     | succ k2 =>
      have H := HA.out
      clear HA
      simp only [spec_MoveShift.l0] at H
      by_cases c16 : x9_2 < 81
      ·rw [if_pos c16] at H
       have c16b0 : decide (x9_2 < 81) = true := decide_eq_true c16
       clear c16
       replace H := Option.bind_eq_some_iff.mp H
       obtain ⟨t1211, A170, H⟩ := H
       replace H : ((spec_l1Add.f (Int.tmod x9_2 9) a2).bind fun t1212 => (if x8_2.length < 17592186044416 then (spec_MoveShift.l0 k2 a1 a2 (x8_2 ++ [wrap64 ((wrap64 (9 * t1211)) + t1212)]) (wrap64 (x9_2 + 1))) else (none))) = some (r1, r2) := H
       have A17 := Aside0.mk A170
       clear A170
       replace H := Option.bind_eq_some_iff.mp H
       obtain ⟨t1212, A180, H⟩ := H
       replace H : (if x8_2.length < 17592186044416 then (spec_MoveShift.l0 k2 a1 a2 (x8_2 ++ [wrap64 ((wrap64 (9 * t1211)) + t1212)]) (wrap64 (x9_2 + 1))) else (none)) = some (r1, r2) := H
       have A18 := Aside0.mk A180
       clear A180
       by_cases c19 : x8_2.length < 17592186044416
       ·rw [if_pos c19] at H
        have LMc19 := Aside0.mk c19
        clear c19
        obtain ⟨y1213, hy1213⟩ : ∃ y_ : List Int, y_ = (x8_2 ++ [wrap64 ((wrap64 (9 * t1211)) + t1212)]) := ⟨_, rfl⟩
        replace H : (spec_MoveShift.l0 k2 a1 a2 y1213 (wrap64 (x9_2 + 1))) = some (r1, r2) := by first | (rw [hy1213]; with_reducible exact H) | (have H2_ := (Option.bind_some _ _).symm.trans H; rw [hy1213]; with_reducible exact H2_) | (have H2_ := (Option.bind_some _ _).symm.trans H; with_reducible exact H2_) | with_reducible exact H | (rw [hy1213]; exact H) | exact H
        have Ny1213 := Aside0.mk hy1213
        clear hy1213
        have H' := Aside0.mk H
        clear H
        go_wp2_with (first | (refine goesL_ (some 33) rfl rfl Try.func146 (by kernel_rfl) rfl #[.int .i64 (wrap64 (Int.tdiv x9_2 9)), .int .i64 a1] rfl ll_ ?_; (with_reducible refine (spec_l1Add.calls (wrap64 (Int.tdiv x9_2 9)) a1 t1211 _ A17.out).mono ?_); rintro e w' ⟨rfl, ⟨nd, rfl⟩⟩; refine ⟨_, rfl, ?_⟩) | (refine goesL_ (some 38) rfl rfl Try.func146 (by kernel_rfl) rfl #[.int .i64 (Int.tmod x9_2 9), .int .i64 a2] rfl ll_ ?_; (with_reducible refine (spec_l1Add.calls (Int.tmod x9_2 9) a2 t1212 _ A18.out).mono ?_); rintro e w' ⟨rfl, ⟨nd, rfl⟩⟩; refine ⟨_, rfl, ?_⟩) | (at_builtin; refine Kd.R_append (Kd.int .i64) (w0 := w) w.heap.size rfl (.tmp 29) (.tmp 40) 23 3 (.int .i64 0) 8 rfl Try.underlying23 info3 rfl (by decide) (by omega) u8 x8_2 (wrap64 ((wrap64 (9 * t1211)) + t1212)) [.int .i64 (wrap64 ((wrap64 (9 * t1211)) + t1212))] (fun _ => True) (fun _ => False) rfl rfl ?aP (fun _ hk => hk.elim) ?aF ?aO ?aB ?aS ?aL ?_; (case aP => exact rfl); (case aB => exact (bb_ HB)); (case aF => exact (fun _ _ => trivial)); (case aO => exact (rr_ HO_8)); (case aS => exact (below_size (bb_ HB))); (case aL => have := LMc19.out; omega); intro v1214 w20 ho hb hg hat; rw [← Ny1213.out] at ho; have n0_ := Aside0.mk (hb); have n1_ := Aside0.mk (ho); clear HB; clear HO_8; have HB := n0_; have HO1215 := n1_; clear n0_ n1_; clear ho hb hg hat))
        go_roundg k2
        case measure => have := HJ3.out; have := HK2.out; omega
        case rel => exact ⟨(y1213), (wrap64 (x9_2 + 1)), (by first | rfl | (simp; done) | (simp [*]; done)), H', ⟨by have := HJ3.out; have := HK2.out; omega⟩, ⟨rr_ HO1215⟩, ⟨by repeat (first | (with_reducible first | exact HB.out | apply below_alloc | apply pw_below_drewN | apply below_drew1) | exact HB.out)⟩⟩
       ·rw [if_neg c19] at H
        exact absurd H (by simp)
      ·rw [if_neg c16] at H
       have c16b0 : decide (x9_2 < 81) = false := decide_eq_false c16
       clear c16
       replace H := Option.bind_eq_some_iff.mp H
       obtain ⟨t1216, A210, H⟩ := H
       replace H : (some (t1216, true)) = some (r1, r2) := H
       have A21 := Aside0.mk A210
       clear A210
       simp only [Option.some.injEq, Prod.mk.injEq] at H
       obtain ⟨rfl, rfl⟩ := H
       obtain ⟨Ao22, co22, eo22⟩ := Kd.R_slice HO_8.out
       subst eo22
       go_wp2_with (first | (refine goesL_ (some 43) rfl rfl Try.func200 (by kernel_rfl) rfl #[.slice Ao22 x8_2.length co22] rfl ll_ ?_; (with_reducible refine (spec_l5Far.calls k2 (fun k_ => some k_ = (.slice Ao22 x8_2.length co22 : Value).ownBlock) (.slice Ao22 x8_2.length co22) x8_2 t1216 w _ ?side1 ?side2 A21.out).mono ?_); (case side1 => repeat (first | (with_reducible first | exact HB.out | apply below_alloc | apply pw_below_drewN | apply below_drew1) | exact HB.out)); (case side2 => exact Kd.R_tight rfl HO_8.out); rintro e w23 ⟨v1217, rfl, ho0, hb, hkp⟩; refine ⟨_, rfl, ?_⟩; have n0_ := Aside0.mk (Kd.R_mono (ok' := fun k_ => True) ho0 (fun k_ hk_ => trivial)); have n1_ := Aside0.mk (hb); clear HB; clear HO_8; have HO1218 := n0_; have HB := n1_; clear n0_ n1_; (try clear hb); (try clear hkp); (try clear ho0)))
       go_ret2
       exact ⟨_, ee_, by (with_reducible repeat (first | apply Kd.R_alloc | apply Kd.R_drewN | apply Kd.R_drew)); exact HO1218.out, bb_ HB⟩
end Go.Proofs.Ytcbkoecanldlpaa.P

namespace Go.Proofs.Ytcbkoecanldlpaa.P
open Go.RowKit Go.Proofs.YtcbkoecanldlpaaW.PrintWords Go.Proofs.YtcbkoecanldlpaaW.PrintLast
set_option linter.unusedVariables false
set_option linter.unusedSimpArgs false

mutual
def spec_l2Kernel.l0 : Nat → List Int → Int → Int → Option (Bool)
 | 0, _, _, _ => none
 | k + 1, x0, x1, x5 => if x5 < 9 then (spec_l2Kernel.l1 k x0 x1 x5 0) else (some true)
def spec_l2Kernel.l1 : Nat → List Int → Int → Int → Int → Option (Bool)
 | 0, _, _, _, _ => none
 | k + 1, x0, x1, x5, x6 => if x6 < 9 then (if 0 ≤ (wrap64 ((wrap64 (9 * x5)) + x6)) then (if (wrap64 ((wrap64 (9 * x5)) + x6)) < (x0.length : Int) then (if 0 ≤ (wrap64 ((wrap64 (9 * x1)) + (rd x0 (wrap64 ((wrap64 (9 * x5)) + x6))))) then (if (wrap64 ((wrap64 (9 * x1)) + (rd x0 (wrap64 ((wrap64 (9 * x5)) + x6))))) < (x0.length : Int) then (if 0 ≤ (wrap64 ((wrap64 (9 * x1)) + x5)) then (if (wrap64 ((wrap64 (9 * x1)) + x5)) < (x0.length : Int) then (if 0 ≤ (wrap64 ((wrap64 (9 * (rd x0 (wrap64 ((wrap64 (9 * x1)) + x5))))) + x6)) then (if (wrap64 ((wrap64 (9 * (rd x0 (wrap64 ((wrap64 (9 * x1)) + x5))))) + x6)) < (x0.length : Int) then (if (rd x0 (wrap64 ((wrap64 (9 * x1)) + (rd x0 (wrap64 ((wrap64 (9 * x5)) + x6)))))) = (rd x0 (wrap64 ((wrap64 (9 * (rd x0 (wrap64 ((wrap64 (9 * x1)) + x5))))) + x6))) then ((spec_l1Add.f x5 x6).bind fun t1223 => (if 0 ≤ (wrap64 ((wrap64 (9 * x1)) + t1223)) then (if (wrap64 ((wrap64 (9 * x1)) + t1223)) < (x0.length : Int) then (if 0 ≤ (wrap64 ((wrap64 (9 * x1)) + x6)) then (if (wrap64 ((wrap64 (9 * x1)) + x6)) < (x0.length : Int) then ((spec_l1Add.f (rd x0 (wrap64 ((wrap64 (9 * x1)) + x5))) (rd x0 (wrap64 ((wrap64 (9 * x1)) + x6)))).bind fun t1227 => (if (rd x0 (wrap64 ((wrap64 (9 * x1)) + t1223))) = t1227 then (spec_l2Kernel.l1 k x0 x1 x5 (wrap64 (x6 + 1))) else (some false))) else (none)) else (none)) else (none)) else (none))) else (some false)) else (none)) else (none)) else (none)) else (none)) else (none)) else (none)) else (none)) else (none)) else (spec_l2Kernel.l0 k x0 x1 (wrap64 (x5 + 1)))
end
def spec_l2Kernel.f (k : Nat) (l0 : List Int) (a1 : Int) : Option (Bool) := spec_l2Kernel.l0 k l0 a1 0
def spec_l2Kernel.T7 : Bool × List (List Nat × List Nat) := (true, [([], []), ([], []), ([1], [1]), ([], []), ([], []), ([4], [4]), ([], []), ([5, 6], [5, 6]), ([3, 7], [3, 7]), ([8], [8]), ([2, 9], [2, 9]), ([0, 10], [0, 10]), ([11], [11]), ([], []), ([], []), ([], []), ([15], [15]), ([], []), ([16, 17], [16, 17]), ([14, 18], [14, 18]), ([19], [19]), ([20], [20]), ([], []), ([21, 22], [21, 22]), ([13, 23], [13, 23]), ([24], [24]), ([12, 25], [12, 25]), ([26], [26]), ([27], [27]), ([27], [27]), ([29, 27], [27, 29]), ([27], [27]), ([27], [27]), ([31, 32, 27, 27], [27, 31, 32]), ([30, 33, 27], [27, 30, 33]), ([28, 34, 27], [27, 28, 34]), ([35, 27], [27, 35]), ([27], [27]), ([27], [27]), ([38, 27], [27, 38]), ([27], [27]), ([39, 40, 27], [27, 39, 40]), ([37, 41, 27], [27, 37, 41]), ([42, 27], [27, 42]), ([27], [27]), ([27], [27]), ([45, 27], [27, 45]), ([27], [27]), ([46, 47, 27], [27, 46, 47]), ([44, 48, 27], [27, 44, 48]), ([49, 27], [27, 49]), ([43, 50, 33, 27], [27, 43, 50]), ([36, 51, 27], [27, 36, 51]), ([27, 52], [27, 52])])
def spec_l2Kernel.B7 : List Nat := [0, 0, 2, 0, 0, 16, 0, 112, 248, 504, 1022, 2047, 4095, 0, 0, 0, 32768, 0, 229376, 507904, 1032192, 2080768, 0, 8372224, 16769024, 33546240, 67108863, 134217727, 268435455, 268435455, 805306367, 268435455, 268435455, 6710886399, 16911433727, 34359738367, 68719476735, 268435455, 268435455, 275146342399, 268435455, 1924413784063, 4260875993087, 8658922504191, 268435455, 268435455, 35184640524287, 268435455, 246290873057279, 545358035812351, 1108307989233663, 2251677675552767, 4503599627370495, 9007199254740991]
theorem spec_l2Kernel.tab7 : rtab .any (opsOf Try.f201 7) = spec_l2Kernel.T7 := by kernel_rfl
theorem spec_l2Kernel.bits7 : waitsOk spec_l2Kernel.T7.2 spec_l2Kernel.B7 = true := by kernel_rfl
set_option maxHeartbeats 8000000 in
set_option maxRecDepth 100000 in
theorem spec_l2Kernel.calls (k : Nat) (A0 : Option Addr) (c0 : Nat) (l0 : List Int) (a1 : Int) (r : Bool) (w : World) (hr0 : Kd.C (Kd.int .i64) w A0 l0.length l0) (hc0 : l0.length ≤ c0) (h : spec_l2Kernel.f k l0 a1 = some r) :
  Calls Try.prog 201 #[.slice A0 l0.length c0, .int .i64 a1] w fun e w' => e = .returned (.bool r) ∧ Below w.heap.size w w' := by
 have HR0 := Aside0.mk hr0
 have HC0 := Aside0.mk hc0
 clear hr0 hc0
 have HB := Aside0.mk (Below.refl w.heap.size w)
 have H : (spec_l2Kernel.l0 k l0 a1 0) = some r := h
 clear h
 have H' := Aside0.mk H
 clear H
 go_enter Try.func201, Try.ntmps201
 go_wp2
 go_loopg [5] k (fun kq v5 w' => ∃ (x5_1 : Int), v5 = .int .i64 x5_1 ∧ Aside0 (spec_l2Kernel.l0 kq l0 a1 x5_1 = some r) ∧ Aside0 (kq ≤ k) ∧ Aside0 (Below w.heap.size w w'))
 case atStart => exact ⟨(0), (by first | rfl | (simp; done) | (simp [*]; done)), H', ⟨Nat.le_refl _⟩, ⟨by repeat (first | (with_reducible first | exact HB.out | apply below_alloc | apply pw_below_drewN | apply below_drew1) | exact HB.out)⟩⟩
 case round =>
  clear H'
  try clear c2
  try clear p2
  obtain ⟨x5_1, rfl, HA, HK1, HB⟩ := hrel
  cases gk with
  | zero => exact absurd HA.out (by simp [spec_l2Kernel.l0])
  | succ k1 =>
   have H := HA.out
   clear HA
   simp only [spec_l2Kernel.l0] at H
   by_cases c3 : x5_1 < 9
   ·rw [if_pos c3] at H
    have c3b0 : decide (x5_1 < 9) = true := decide_eq_true c3
    clear c3
    have H' := Aside0.mk H
    clear H
    go_wp2
    go_loopg [6] k1 (fun kq v6 w' => ∃ (x6_2 : Int), v6 = .int .i64 x6_2 ∧ Aside0 (spec_l2Kernel.l1 kq l0 a1 x5_1 x6_2 = some r) ∧ Aside0 (kq ≤ k1) ∧ Aside0 (Below w.heap.size w w'))
    case atStart => exact ⟨(0), (by first | rfl | (simp; done) | (simp [*]; done)), H', ⟨Nat.le_refl _⟩, ⟨by repeat (first | (with_reducible first | exact HB.out | apply below_alloc | apply pw_below_drewN | apply below_drew1) | exact HB.out)⟩⟩
    case round =>
     clear H'
     try clear c2
     try clear p2
     try clear c3
     try clear c3b0
     try clear p2
     obtain ⟨x6_2, rfl, HA, HK2, HB⟩ := hrel
     cases gk with
     | zero => exact absurd HA.out (by simp [spec_l2Kernel.l1])
     | succ k2 =>
      have H := HA.out
      clear HA
      simp only [spec_l2Kernel.l1] at H
      by_cases c4 : x6_2 < 9
      ·rw [if_pos c4] at H
       have c4b0 : decide (x6_2 < 9) = true := decide_eq_true c4
       clear c4
       obtain ⟨ji5, hji5⟩ : ∃ j_ : Int, (wrap64 ((wrap64 (9 * x5_1)) + x6_2)) = j_ := ⟨_, rfl⟩
       replace H : (if 0 ≤ (ji5) then (if (ji5) < (l0.length : Int) then (if 0 ≤ (wrap64 ((wrap64 (9 * a1)) + (rd l0 (ji5)))) then (if (wrap64 ((wrap64 (9 * a1)) + (rd l0 (ji5)))) < (l0.length : Int) then (if 0 ≤ (wrap64 ((wrap64 (9 * a1)) + x5_1)) then (if (wrap64 ((wrap64 (9 * a1)) + x5_1)) < (l0.length : Int) then (if 0 ≤ (wrap64 ((wrap64 (9 * (rd l0 (wrap64 ((wrap64 (9 * a1)) + x5_1))))) + x6_2)) then (if (wrap64 ((wrap64 (9 * (rd l0 (wrap64 ((wrap64 (9 * a1)) + x5_1))))) + x6_2)) < (l0.length : Int) then (if (rd l0 (wrap64 ((wrap64 (9 * a1)) + (rd l0 (ji5))))) = (rd l0 (wrap64 ((wrap64 (9 * (rd l0 (wrap64 ((wrap64 (9 * a1)) + x5_1))))) + x6_2))) then ((spec_l1Add.f x5_1 x6_2).bind fun t1223 => (if 0 ≤ (wrap64 ((wrap64 (9 * a1)) + t1223)) then (if (wrap64 ((wrap64 (9 * a1)) + t1223)) < (l0.length : Int) then (if 0 ≤ (wrap64 ((wrap64 (9 * a1)) + x6_2)) then (if (wrap64 ((wrap64 (9 * a1)) + x6_2)) < (l0.length : Int) then ((spec_l1Add.f (rd l0 (wrap64 ((wrap64 (9 * a1)) + x5_1))) (rd l0 (wrap64 ((wrap64 (9 * a1)) + x6_2)))).bind fun t1227 => (if (rd l0 (wrap64 ((wrap64 (9 * a1)) + t1223))) = t1227 then (spec_l2Kernel.l1 k2 l0 a1 x5_1 (wrap64 (x6_2 + 1))) else (some false))) else (none)) else (none)) else (none)) else (none))) else (some false)) else (none)) else (none)) else (none)) else (none)) else (none)) else (none)) else (none)) else (none)) = some r := by first | (rw [hji5] at H; exact H) | (simp only [hji5] at H ⊢; exact H)
       have hji5w : (IntKind.i64.wrap ((wrap64 (9 * x5_1)) + x6_2)) = ji5 := (i64_w _).trans hji5
       by_cases c6 : 0 ≤ (ji5)
       ·rw [if_pos c6] at H
        have c6b0 : decide (0 ≤ (ji5)) = true := decide_eq_true c6
        clear c6
        by_cases c7 : (ji5) < (l0.length : Int)
        ·rw [if_pos c7] at H
         have c7b0 : decide ((ji5) < (l0.length : Int)) = true := decide_eq_true c7
         clear c7
         obtain ⟨ji8, hji8⟩ : ∃ j_ : Int, (wrap64 ((wrap64 (9 * a1)) + (rd l0 (ji5)))) = j_ := ⟨_, rfl⟩
         replace H : (if 0 ≤ (ji8) then (if (ji8) < (l0.length : Int) then (if 0 ≤ (wrap64 ((wrap64 (9 * a1)) + x5_1)) then (if (wrap64 ((wrap64 (9 * a1)) + x5_1)) < (l0.length : Int) then (if 0 ≤ (wrap64 ((wrap64 (9 * (rd l0 (wrap64 ((wrap64 (9 * a1)) + x5_1))))) + x6_2)) then (if (wrap64 ((wrap64 (9 * (rd l0 (wrap64 ((wrap64 (9 * a1)) + x5_1))))) + x6_2)) < (l0.length : Int) then (if (rd l0 (ji8)) = (rd l0 (wrap64 ((wrap64 (9 * (rd l0 (wrap64 ((wrap64 (9 * a1)) + x5_1))))) + x6_2))) then ((spec_l1Add.f x5_1 x6_2).bind fun t1223 => (if 0 ≤ (wrap64 ((wrap64 (9 * a1)) + t1223)) then (if (wrap64 ((wrap64 (9 * a1)) + t1223)) < (l0.length : Int) then (if 0 ≤ (wrap64 ((wrap64 (9 * a1)) + x6_2)) then (if (wrap64 ((wrap64 (9 * a1)) + x6_2)) < (l0.length : Int) then ((spec_l1Add.f (rd l0 (wrap64 ((wrap64 (9 * a1)) + x5_1))) (rd l0 (wrap64 ((wrap64 (9 * a1)) + x6_2)))).bind fun t1227 => (if (rd l0 (wrap64 ((wrap64 (9 * a1)) + t1223))) = t1227 then (spec_l2Kernel.l1 k2 l0 a1 x5_1 (wrap64 (x6_2 + 1))) else (some false))) else (none)) else (none)) else (none)) else (none))) else (some false)) else (none)) else (none)) else (none)) else (none)) else (none)) else (none)) = some r := by first | (rw [hji8] at H; exact H) | (simp only [hji8] at H ⊢; exact H)
         have hji8w : (IntKind.i64.wrap ((wrap64 (9 * a1)) + (rd l0 (ji5)))) = ji8 := (i64_w _).trans hji8
         by_cases c9 : 0 ≤ (ji8)
         ·rw [if_pos c9] at H
          have c9b0 : decide (0 ≤ (ji8)) = true := decide_eq_true c9
          clear c9
          by_cases c10 : (ji8) < (l0.length : Int)
          ·rw [if_pos c10] at H
           have c10b0 : decide ((ji8) < (l0.length : Int)) = true := decide_eq_true c10
           clear c10
           obtain ⟨ji11, hji11⟩ : ∃ j_ : Int, (wrap64 ((wrap64 (9 * a1)) + x5_1)) = j_ := ⟨_, rfl⟩
           replace H : (if 0 ≤ (ji11) then (if (ji11) < (l0.length : Int) then (if 0 ≤ (wrap64 ((wrap64 (9 * (rd l0 (ji11)))) + x6_2)) then (if (wrap64 ((wrap64 (9 * (rd l0 (ji11)))) + x6_2)) < (l0.length : Int) then (if (rd l0 (ji8)) = (rd l0 (wrap64 ((wrap64 (9 * (rd l0 (ji11)))) + x6_2))) then ((spec_l1Add.f x5_1 x6_2).bind fun t1223 => (if 0 ≤ (wrap64 ((wrap64 (9 * a1)) + t1223)) then (if (wrap64 ((wrap64 (9 * a1)) + t1223)) < (l0.length : Int) then (if 0 ≤ (wrap64 ((wrap64 (9 * a1)) + x6_2)) then (if (wrap64 ((wrap64 (9 * a1)) + x6_2)) < (l0.length : Int) then ((spec_l1Add.f (rd l0 (ji11)) (rd l0 (wrap64 ((wrap64 (9 * a1)) + x6_2)))).bind fun t1227 => (if (rd l0 (wrap64 ((wrap64 (9 * a1)) + t1223))) = t1227 then (spec_l2Kernel.l1 k2 l0 a1 x5_1 (wrap64 (x6_2 + 1))) else (some false))) else (none)) else (none)) else (none)) else (none))) else (some false)) else (none)) else (none)) else (none)) else (none)) = some r := by first | (rw [hji11] at H; exact H) | (simp only [hji11] at H ⊢; exact H)
           have hji11w : (IntKind.i64.wrap ((wrap64 (9 * a1)) + x5_1)) = ji11 := (i64_w _).trans hji11
           by_cases c12 : 0 ≤ (ji11)
           ·rw [if_pos c12] at H
            have c12b0 : decide (0 ≤ (ji11)) = true := decide_eq_true c12
            clear c12
            by_cases c13 : (ji11) < (l0.length : Int)
            ·rw [if_pos c13] at H
             have c13b0 : decide ((ji11) < (l0.length : Int)) = true := decide_eq_true c13
             clear c13
             obtain ⟨ji14, hji14⟩ : ∃ j_ : Int, (wrap64 ((wrap64 (9 * (rd l0 (ji11)))) + x6_2)) = j_ := ⟨_, rfl⟩
             replace H : (if 0 ≤ (ji14) then (if (ji14) < (l0.length : Int) then (if (rd l0 (ji8)) = (rd l0 (ji14)) then ((spec_l1Add.f x5_1 x6_2).bind fun t1223 => (if 0 ≤ (wrap64 ((wrap64 (9 * a1)) + t1223)) then (if (wrap64 ((wrap64 (9 * a1)) + t1223)) < (l0.length : Int) then (if 0 ≤ (wrap64 ((wrap64 (9 * a1)) + x6_2)) then (if (wrap64 ((wrap64 (9 * a1)) + x6_2)) < (l0.length : Int) then ((spec_l1Add.f (rd l0 (ji11)) (rd l0 (wrap64 ((wrap64 (9 * a1)) + x6_2)))).bind fun t1227 => (if (rd l0 (wrap64 ((wrap64 (9 * a1)) + t1223))) = t1227 then (spec_l2Kernel.l1 k2 l0 a1 x5_1 (wrap64 (x6_2 + 1))) else (some false))) else (none)) else (none)) else (none)) else (none))) else (some false)) else (none)) else (none)) = some r := by first | (rw [hji14] at H; exact H) | (simp only [hji14] at H ⊢; exact H)
             have hji14w : (IntKind.i64.wrap ((wrap64 (9 * (rd l0 (ji11)))) + x6_2)) = ji14 := (i64_w _).trans hji14
             by_cases c15 : 0 ≤ (ji14)
             ·rw [if_pos c15] at H
              have c15b0 : decide (0 ≤ (ji14)) = true := decide_eq_true c15
              clear c15
              by_cases c16 : (ji14) < (l0.length : Int)
              ·rw [if_pos c16] at H
               have c16b0 : decide ((ji14) < (l0.length : Int)) = true := decide_eq_true c16
               clear c16
               by_cases c17 : (rd l0 (ji8)) = (rd l0 (ji14))
               ·rw [if_pos c17] at H
                have c17b0 : ((rd l0 (ji8)) == (rd l0 (ji14))) = true := beq_iff_eq.mpr c17
                have c17b1 : ((rd l0 (ji8)) != (rd l0 (ji14))) = false := bne_eq_false_iff_eq.mpr c17
                clear c17
                replace H := Option.bind_eq_some_iff.mp H
                obtain ⟨t1223, A180, H⟩ := H
                replace H : (if 0 ≤ (wrap64 ((wrap64 (9 * a1)) + t1223)) then (if (wrap64 ((wrap64 (9 * a1)) + t1223)) < (l0.length : Int) then (if 0 ≤ (wrap64 ((wrap64 (9 * a1)) + x6_2)) then (if (wrap64 ((wrap64 (9 * a1)) + x6_2)) < (l0.length : Int) then ((spec_l1Add.f (rd l0 (ji11)) (rd l0 (wrap64 ((wrap64 (9 * a1)) + x6_2)))).bind fun t1227 => (if (rd l0 (wrap64 ((wrap64 (9 * a1)) + t1223))) = t1227 then (spec_l2Kernel.l1 k2 l0 a1 x5_1 (wrap64 (x6_2 + 1))) else (some false))) else (none)) else (none)) else (none)) else (none)) = some r := H
                have A18 := Aside0.mk A180
                clear A180
                obtain ⟨ji19, hji19⟩ : ∃ j_ : Int, (wrap64 ((wrap64 (9 * a1)) + t1223)) = j_ := ⟨_, rfl⟩
                replace H : (if 0 ≤ (ji19) then (if (ji19) < (l0.length : Int) then (if 0 ≤ (wrap64 ((wrap64 (9 * a1)) + x6_2)) then (if (wrap64 ((wrap64 (9 * a1)) + x6_2)) < (l0.length : Int) then ((spec_l1Add.f (rd l0 (ji11)) (rd l0 (wrap64 ((wrap64 (9 * a1)) + x6_2)))).bind fun t1227 => (if (rd l0 (ji19)) = t1227 then (spec_l2Kernel.l1 k2 l0 a1 x5_1 (wrap64 (x6_2 + 1))) else (some false))) else (none)) else (none)) else (none)) else (none)) = some r := by first | (rw [hji19] at H; exact H) | (simp only [hji19] at H ⊢; exact H)
                (try rw [hji19] at A18)
                have hji19w : (IntKind.i64.wrap ((wrap64 (9 * a1)) + t1223)) = ji19 := (i64_w _).trans hji19
                by_cases c20 : 0 ≤ (ji19)
                ·rw [if_pos c20] at H
                 have c20b0 : decide (0 ≤ (ji19)) = true := decide_eq_true c20
                 clear c20
                 by_cases c21 : (ji19) < (l0.length : Int)
                 ·rw [if_pos c21] at H
                  have c21b0 : decide ((ji19) < (l0.length : Int)) = true := decide_eq_true c21
                  clear c21
                  obtain ⟨ji22, hji22⟩ : ∃ j_ : Int, (wrap64 ((wrap64 (9 * a1)) + x6_2)) = j_ := ⟨_, rfl⟩
                  replace H : (if 0 ≤ (ji22) then (if (ji22) < (l0.length : Int) then ((spec_l1Add.f (rd l0 (ji11)) (rd l0 (ji22))).bind fun t1227 => (if (rd l0 (ji19)) = t1227 then (spec_l2Kernel.l1 k2 l0 a1 x5_1 (wrap64 (x6_2 + 1))) else (some false))) else (none)) else (none)) = some r := by first | (rw [hji22] at H; exact H) | (simp only [hji22] at H ⊢; exact H)
                  (try rw [hji22] at A18)
                  have hji22w : (IntKind.i64.wrap ((wrap64 (9 * a1)) + x6_2)) = ji22 := (i64_w _).trans hji22
                  by_cases c23 : 0 ≤ (ji22)
                  ·rw [if_pos c23] at H
                   have c23b0 : decide (0 ≤ (ji22)) = true := decide_eq_true c23
                   clear c23
                   by_cases c24 : (ji22) < (l0.length : Int)
                   ·rw [if_pos c24] at H
                    have c24b0 : decide ((ji22) < (l0.length : Int)) = true := decide_eq_true c24
                    clear c24
                    replace H := Option.bind_eq_some_iff.mp H
                    obtain ⟨t1227, A250, H⟩ := H
                    replace H : (if (rd l0 (ji19)) = t1227 then (spec_l2Kernel.l1 k2 l0 a1 x5_1 (wrap64 (x6_2 + 1))) else (some false)) = some r := H
                    have A25 := Aside0.mk A250
                    clear A250
                    by_cases c26 : (rd l0 (ji19)) = t1227
                    ·rw [if_pos c26] at H
                     have c26b0 : ((rd l0 (ji19)) == t1227) = true := beq_iff_eq.mpr c26
                     have c26b1 : ((rd l0 (ji19)) != t1227) = false := bne_eq_false_iff_eq.mpr c26
                     clear c26
                     have H' := Aside0.mk H
                     clear H
                     try go_wp2
                     have n0_ := Aside0.mk (below_drew1 HB.out)
                     clear HB
                     have HB := n0_
                     clear n0_
                     have p1219 : 0 ≤ ((ji5) : Int) := dd_
                     have q1219 : (ji5) < (l0.length : Int) := dd_
                     obtain ⟨ad1219, e1219, hx1219_0⟩ := Kd.at_int HR0.out (ji5) p1219 q1219
                     have hw1219_0 := hx1219_0
                     cases e1219
                     replace hx1219_0 := hc_ HB hx1219_0
                     replace p1219 := eq_true p1219
                     replace q1219 := eq_true q1219
                     have p1220 : 0 ≤ ((ji8) : Int) := dd_
                     have q1220 : (ji8) < (l0.length : Int) := dd_
                     obtain ⟨ad1220, e1220, hx1220_0⟩ := Kd.at_int HR0.out (ji8) p1220 q1220
                     have hw1220_0 := hx1220_0
                     obtain rfl : ad1219 = ad1220 := (by injection e1220)
                     replace hx1220_0 := hc_ HB hx1220_0
                     replace p1220 := eq_true p1220
                     replace q1220 := eq_true q1220
                     have p1221 : 0 ≤ ((ji11) : Int) := dd_
                     have q1221 : (ji11) < (l0.length : Int) := dd_
                     obtain ⟨ad1221, e1221, hx1221_0⟩ := Kd.at_int HR0.out (ji11) p1221 q1221
                     have hw1221_0 := hx1221_0
                     obtain rfl : ad1219 = ad1221 := (by injection e1221)
                     replace hx1221_0 := hc_ HB hx1221_0
                     replace p1221 := eq_true p1221
                     replace q1221 := eq_true q1221
                     have p1222 : 0 ≤ ((ji14) : Int) := dd_
                     have q1222 : (ji14) < (l0.length : Int) := dd_
                     obtain ⟨ad1222, e1222, hx1222_0⟩ := Kd.at_int HR0.out (ji14) p1222 q1222
                     have hw1222_0 := hx1222_0
                     obtain rfl : ad1219 = ad1222 := (by injection e1222)
                     replace hx1222_0 := hc_ HB hx1222_0
                     replace p1222 := eq_true p1222
                     replace q1222 := eq_true q1222
                     have p1225 : 0 ≤ ((ji11) : Int) := dd_
                     have q1225 : (ji11) < (l0.length : Int) := dd_
                     obtain ⟨ad1225, e1225, hx1225_0⟩ := Kd.at_int HR0.out (ji11) p1225 q1225
                     have hw1225_0 := hx1225_0
                     obtain rfl : ad1219 = ad1225 := (by injection e1225)
                     replace hx1225_0 := hc_ HB hx1225_0
                     replace p1225 := eq_true p1225
                     replace q1225 := eq_true q1225
                     have p1226 : 0 ≤ ((ji22) : Int) := dd_
                     have q1226 : (ji22) < (l0.length : Int) := dd_
                     obtain ⟨ad1226, e1226, hx1226_0⟩ := Kd.at_int HR0.out (ji22) p1226 q1226
                     have hw1226_0 := hx1226_0
                     obtain rfl : ad1219 = ad1226 := (by injection e1226)
                     replace hx1226_0 := hc_ HB hx1226_0
                     replace p1226 := eq_true p1226
                     replace q1226 := eq_true q1226
                     have p1224 : 0 ≤ ((ji19) : Int) := dd_
                     have q1224 : (ji19) < (l0.length : Int) := dd_
                     obtain ⟨ad1224, e1224, hx1224_0⟩ := Kd.at_int HR0.out (ji19) p1224 q1224
                     have hw1224_0 := hx1224_0
                     obtain rfl : ad1219 = ad1224 := (by injection e1224)
                     replace hx1224_0 := hc_ HB hx1224_0
                     replace p1224 := eq_true p1224
                     replace q1224 := eq_true q1224
                     refine start_ (n := 54) (S := fun w' => w'.cell? (ad1219.add ((ji5)).toNat) = some (.int .i64 (rd l0 (ji5))) ∧ w'.cell? (ad1219.add ((ji8)).toNat) = some (.int .i64 (rd l0 (ji8))) ∧ w'.cell? (ad1219.add ((ji11)).toNat) = some (.int .i64 (rd l0 (ji11))) ∧ w'.cell? (ad1219.add ((ji14)).toNat) = some (.int .i64 (rd l0 (ji14))) ∧ w'.cell? (ad1219.add ((ji11)).toNat) = some (.int .i64 (rd l0 (ji11))) ∧ w'.cell? (ad1219.add ((ji22)).toNat) = some (.int .i64 (rd l0 (ji22))) ∧ w'.cell? (ad1219.add ((ji19)).toNat) = some (.int .i64 (rd l0 (ji19)))) (ds := []) #[F_,F_,F_,F_,F_,F_,F_,F_,F_,F_,F_,F_,F_,F_,F_,F_,F_,F_,F_,F_,F_,F_,F_,F_,F_,F_,F_,F_,F_,F_,F_,F_,F_,F_,F_,F_,F_,F_,F_,F_,F_,F_,F_,F_,F_,F_,F_,F_,F_,F_,F_,F_,F_,F_] (by kernel_rfl) rfl rfl ⟨(hc_ HB hw1219_0), (hc_ HB hw1220_0), (hc_ HB hw1221_0), (hc_ HB hw1222_0), (hc_ HB hw1225_0), (hc_ HB hw1226_0), (hc_ HB hw1224_0)⟩ (fun hHeld => ?_); refine with_tabW spec_l2Kernel.tab7 spec_l2Kernel.bits7 (fun HT_ HW_ => ?_)
                     generalize wr.drew = w27 at HB hx1219_0 hx1220_0 hx1221_0 hx1222_0 hx1224_0 hx1225_0 hx1226_0 hHeld ⊢
                     refine p_ 0 15 (m_ 54 1) HT_.out ?_
                     refine p_ 1 16 (m_ 54 3) HT_.out ?_
                     refine p_ 2 17 (m_ 54 7) HT_.out ?_
                     refine p_ 3 18 (m_ 54 15) HT_.out ?_
                     refine p_ 4 19 (m_ 54 31) HT_.out ?_
                     refine p_ 5 20 (m_ 54 63) HT_.out ?_
                     refine p_ 6 21 (m_ 54 127) HT_.out ?_
                     refine p_ 7 22 (m_ 54 255) HT_.out ?_
                     refine p_ 8 23 (m_ 54 511) HT_.out ?_
                     refine p_ 13 28 (m_ 54 8703) HT_.out ?_
                     refine p_ 14 29 (m_ 54 25087) HT_.out ?_
                     refine p_ 15 30 (m_ 54 57855) HT_.out ?_
                     refine p_ 16 31 (m_ 54 123391) HT_.out ?_
                     refine p_ 17 32 (m_ 54 254463) HT_.out ?_
                     refine p_ 18 33 (m_ 54 516607) HT_.out ?_
                     refine p_ 19 34 (m_ 54 1040895) HT_.out ?_
                     refine p_ 22 37 (m_ 54 5235199) HT_.out ?_
                     refine take_ (i := 9) (N := some 24) (v := ?_) (a' := ?_) (m_ 54 5235711) rfl rfl (take_ofW HT_.out HW_.out (by kernel_rfl)) (fun _ _ _ h => h) (Or.inl ⟨by rfl, ?_⟩) hHeld ?_ ?_; rotate_left; (rintro w' ⟨s0, s1, s2, s3, s4, s5, s6⟩; go_simp; with_reducible rfl); rotate_left; (simp only [Act.put, List.setIfInBounds_toArray, List.set_cons_zero, List.set_cons_succ, i64_w, i32_w]; rfl)
                     refine p_ 10 25 (m_ 54 5236735) HT_.out ?_
                     refine p_ 11 26 (m_ 54 5238783) HT_.out ?_
                     refine take_ (i := 12) (N := some 27) (v := ?_) (a' := ?_) (m_ 54 5242879) rfl rfl (take_ofW HT_.out HW_.out (by kernel_rfl)) (fun _ _ _ h => h) (Or.inl ⟨by rfl, ?_⟩) hHeld ?_ ?_; rotate_left; (rintro w' ⟨s0, s1, s2, s3, s4, s5, s6⟩; go_simp; with_reducible rfl); rotate_left; (simp only [Act.put, List.setIfInBounds_toArray, List.set_cons_zero, List.set_cons_succ, i64_w, i32_w]; rfl)
                     refine take_ (i := 20) (N := some 35) (v := ?_) (a' := ?_) (m_ 54 6291455) rfl rfl (take_ofW HT_.out HW_.out (by kernel_rfl)) (fun _ _ _ h => h) (Or.inl ⟨by rfl, ?_⟩) hHeld ?_ ?_; rotate_left; (rintro w' ⟨s0, s1, s2, s3, s4, s5, s6⟩; go_simp; with_reducible rfl); rotate_left; (simp only [Act.put, List.setIfInBounds_toArray, List.set_cons_zero, List.set_cons_succ, i64_w, i32_w]; rfl)
                     refine p_ 21 36 (m_ 54 8388607) HT_.out ?_
                     refine p_ 23 38 (m_ 54 16777215) HT_.out ?_
                     refine p_ 24 39 (m_ 54 33554431) HT_.out ?_
                     refine take_ (i := 25) (N := some 40) (v := ?_) (a' := ?_) (m_ 54 67108863) rfl rfl (take_ofW HT_.out HW_.out (by kernel_rfl)) (fun _ _ _ h => h) (Or.inl ⟨by rfl, ?_⟩) hHeld ?_ ?_; rotate_left; (rintro w' ⟨s0, s1, s2, s3, s4, s5, s6⟩; go_simp; with_reducible rfl); rotate_left; (simp only [Act.put, List.setIfInBounds_toArray, List.set_cons_zero, List.set_cons_succ, i64_w, i32_w]; rfl)
                     refine p_ 26 41 (m_ 54 134217727) HT_.out ?_
                     refine p_ 27 42 (m_ 54 268435455) HT_.out ?_
                     refine p_ 28 43 (m_ 54 536870911) HT_.out ?_
                     refine p_ 29 44 (m_ 54 1073741823) HT_.out ?_
                     refine p_ 30 45 (m_ 54 2147483647) HT_.out ?_
                     refine p_ 31 46 (m_ 54 4294967295) HT_.out ?_
                     refine p_ 32 47 (m_ 54 8589934591) HT_.out ?_
                     refine p_ 37 52 (m_ 54 146028888063) HT_.out ?_
                     refine p_ 38 53 (m_ 54 420906795007) HT_.out ?_
                     refine p_ 39 54 (m_ 54 970662608895) HT_.out ?_
                     refine p_ 40 55 (m_ 54 2070174236671) HT_.out ?_
                     refine p_ 41 56 (m_ 54 4269197492223) HT_.out ?_
                     refine p_ 42 57 (m_ 54 8667244003327) HT_.out ?_
                     refine p_ 44 59 (m_ 54 26259430047743) HT_.out ?_
                     refine p_ 45 60 (m_ 54 61443802136575) HT_.out ?_
                     refine p_ 46 61 (m_ 54 131812546314239) HT_.out ?_
                     refine p_ 47 62 (m_ 54 272550034669567) HT_.out ?_
                     refine p_ 48 63 (m_ 54 554025011380223) HT_.out ?_
                     refine p_ 49 64 (m_ 54 1116974964801535) HT_.out ?_
                     refine take_ (i := 43) (N := some 58) (v := ?_) (a' := ?_) (m_ 54 1125771057823743) rfl rfl (take_ofW HT_.out HW_.out (by kernel_rfl)) (fun _ _ _ h => h) (Or.inl ⟨by rfl, ?_⟩) hHeld ?_ ?_; rotate_left; (rintro w' ⟨s0, s1, s2, s3, s4, s5, s6⟩; go_simp; with_reducible rfl); rotate_left; (simp only [Act.put, List.setIfInBounds_toArray, List.set_cons_zero, List.set_cons_succ, i64_w, i32_w]; rfl)
                     refine take_ (i := 50) (N := some 65) (v := ?_) (a' := ?_) (m_ 54 2251670964666367) rfl rfl (take_ofW HT_.out HW_.out (by kernel_rfl)) (fun _ _ _ h => h) (Or.inl ⟨by rfl, ?_⟩) hHeld ?_ ?_; rotate_left; (rintro w' ⟨s0, s1, s2, s3, s4, s5, s6⟩; go_simp; with_reducible rfl); rotate_left; (simp only [Act.put, List.setIfInBounds_toArray, List.set_cons_zero, List.set_cons_succ, i64_w, i32_w]; rfl)
                     refine one_ (i := 33) (N := some 48) (m_ 54 2251679554600959) rfl rfl (one_of HT_.out (by kernel_rfl)) (by decide) (fun K hK => ?_)
                     refine goes_ Try.func146 (by kernel_rfl) rfl #[.int .i64 x5_1, .int .i64 x6_2] (by rfl) rfl rfl ll_ ?_
                     with_reducible refine (spec_l1Add.calls x5_1 x6_2 t1223 _ A18.out).mono ?_
                     rintro e w' ⟨rfl, ⟨nd, rfl⟩⟩
                     refine ⟨_, rfl, ?_⟩
                     refine hK.out _ _ ⟨(hc_ HB hw1219_0), (hc_ HB hw1220_0), (hc_ HB hw1221_0), (hc_ HB hw1222_0), (hc_ HB hw1225_0), (hc_ HB hw1226_0), (hc_ HB hw1224_0)⟩ (fun hHeld => ?_)
                     clear hK K
                     refine norm_ (a' := ?_) ?_ ?_; rotate_left; (show Act.put _ (some 48) _ = _; simp only [Act.put, List.setIfInBounds_toArray, List.set_cons_zero, List.set_cons_succ, i64_w, i32_w]; rfl)
                     refine p_ 34 49 (m_ 54 2251696734470143) HT_.out ?_
                     refine p_ 35 50 (m_ 54 2251731094208511) HT_.out ?_
                     refine take_ (i := 36) (N := some 51) (v := ?_) (a' := ?_) (m_ 54 2251799813685247) rfl rfl (take_ofW HT_.out HW_.out (by kernel_rfl)) (fun _ _ _ h => h) (Or.inl ⟨by rfl, ?_⟩) hHeld ?_ ?_; rotate_left; (rintro w' ⟨s0, s1, s2, s3, s4, s5, s6⟩; go_simp; with_reducible rfl); rotate_left; (simp only [Act.put, List.setIfInBounds_toArray, List.set_cons_zero, List.set_cons_succ, i64_w, i32_w]; rfl)
                     refine one_ (i := 51) (N := some 66) (m_ 54 4503599627370495) rfl rfl (one_of HT_.out (by kernel_rfl)) (by decide) (fun K hK => ?_)
                     refine goes_ Try.func146 (by kernel_rfl) rfl #[.int .i64 (rd l0 (ji11)), .int .i64 (rd l0 (ji22))] (by rfl) rfl rfl (by (try simp only [List.map_toArray, List.map_cons, List.map_nil]); first | done | (simp only [hji11, hji22]; rfl) | rfl | (simp only [List.length_drop, List.length_take]; rfl)) ?_
                     with_reducible refine (spec_l1Add.calls (rd l0 (ji11)) (rd l0 (ji22)) t1227 _ A25.out).mono ?_
                     rintro e w' ⟨rfl, ⟨nd, rfl⟩⟩
                     refine ⟨_, rfl, ?_⟩
                     refine hK.out _ _ ⟨(hc_ HB hw1219_0), (hc_ HB hw1220_0), (hc_ HB hw1221_0), (hc_ HB hw1222_0), (hc_ HB hw1225_0), (hc_ HB hw1226_0), (hc_ HB hw1224_0)⟩ (fun hHeld => ?_)
                     clear hK K
                     refine norm_ (a' := ?_) ?_ ?_; rotate_left; (show Act.put _ (some 66) _ = _; simp only [Act.put, List.setIfInBounds_toArray, List.set_cons_zero, List.set_cons_succ, i64_w, i32_w]; rfl)
                     refine p_ 52 67 (m_ 54 9007199254740991) HT_.out ?_
                     refine p_ 53 68 (m_ 54 18014398509481983) HT_.out ?_
                     refine done_ (done_of HT_.out (by kernel_rfl)) ?_
                     try go_wp2
                     go_roundg k2
                     case measure => have := HK1.out; have := HK2.out; omega
                     case rel => exact ⟨(wrap64 (x6_2 + 1)), (by first | rfl | (simp; done) | (simp [*]; done)), H', ⟨by have := HK1.out; have := HK2.out; omega⟩, ⟨by repeat (first | (with_reducible first | exact HB.out | apply below_alloc | apply pw_below_drewN | apply below_drew1) | exact HB.out)⟩⟩
                    ·rw [if_neg c26] at H
                     have c26b0 : ((rd l0 (ji19)) == t1227) = false := beq_eq_false_iff_ne.mpr c26
                     have c26b1 : ((rd l0 (ji19)) != t1227) = true := bne_iff_ne.mpr c26
                     obtain rfl := Option.some.inj H
                     try go_wp2
                     have n0_ := Aside0.mk (below_drew1 HB.out)
                     clear HB
                     have HB := n0_
                     clear n0_
                     have p1219 : 0 ≤ ((ji5) : Int) := dd_
                     have q1219 : (ji5) < (l0.length : Int) := dd_
                     obtain ⟨ad1219, e1219, hx1219_0⟩ := Kd.at_int HR0.out (ji5) p1219 q1219
                     have hw1219_0 := hx1219_0
                     cases e1219
                     replace hx1219_0 := hc_ HB hx1219_0
                     replace p1219 := eq_true p1219
                     replace q1219 := eq_true q1219
                     have p1220 : 0 ≤ ((ji8) : Int) := dd_
                     have q1220 : (ji8) < (l0.length : Int) := dd_
                     obtain ⟨ad1220, e1220, hx1220_0⟩ := Kd.at_int HR0.out (ji8) p1220 q1220
                     have hw1220_0 := hx1220_0
                     obtain rfl : ad1219 = ad1220 := (by injection e1220)
                     replace hx1220_0 := hc_ HB hx1220_0
                     replace p1220 := eq_true p1220
                     replace q1220 := eq_true q1220
                     have p1221 : 0 ≤ ((ji11) : Int) := dd_
                     have q1221 : (ji11) < (l0.length : Int) := dd_
                     obtain ⟨ad1221, e1221, hx1221_0⟩ := Kd.at_int HR0.out (ji11) p1221 q1221
                     have hw1221_0 := hx1221_0
                     obtain rfl : ad1219 = ad1221 := (by injection e1221)
                     replace hx1221_0 := hc_ HB hx1221_0
                     replace p1221 := eq_true p1221
                     replace q1221 := eq_true q1221
                     have p1222 : 0 ≤ ((ji14) : Int) := dd_
                     have q1222 : (ji14) < (l0.length : Int) := dd_
                     obtain ⟨ad1222, e1222, hx1222_0⟩ := Kd.at_int HR0.out (ji14) p1222 q1222
                     have hw1222_0 := hx1222_0
                     obtain rfl : ad1219 = ad1222 := (by injection e1222)
                     replace hx1222_0 := hc_ HB hx1222_0
                     replace p1222 := eq_true p1222
                     replace q1222 := eq_true q1222
                     have p1225 : 0 ≤ ((ji11) : Int) := dd_
                     have q1225 : (ji11) < (l0.length : Int) := dd_
                     obtain ⟨ad1225, e1225, hx1225_0⟩ := Kd.at_int HR0.out (ji11) p1225 q1225
                     have hw1225_0 := hx1225_0
                     obtain rfl : ad1219 = ad1225 := (by injection e1225)
                     replace hx1225_0 := hc_ HB hx1225_0
                     replace p1225 := eq_true p1225
                     replace q1225 := eq_true q1225
                     have p1226 : 0 ≤ ((ji22) : Int) := dd_
                     have q1226 : (ji22) < (l0.length : Int) := dd_
                     obtain ⟨ad1226, e1226, hx1226_0⟩ := Kd.at_int HR0.out (ji22) p1226 q1226
                     have hw1226_0 := hx1226_0
                     obtain rfl : ad1219 = ad1226 := (by injection e1226)
                     replace hx1226_0 := hc_ HB hx1226_0
                     replace p1226 := eq_true p1226
                     replace q1226 := eq_true q1226
                     have p1224 : 0 ≤ ((ji19) : Int) := dd_
                     have q1224 : (ji19) < (l0.length : Int) := dd_
                     obtain ⟨ad1224, e1224, hx1224_0⟩ := Kd.at_int HR0.out (ji19) p1224 q1224
                     have hw1224_0 := hx1224_0
                     obtain rfl : ad1219 = ad1224 := (by injection e1224)
                     replace hx1224_0 := hc_ HB hx1224_0
                     replace p1224 := eq_true p1224
                     replace q1224 := eq_true q1224
                     refine start_ (n := 54) (S := fun w' => w'.cell? (ad1219.add ((ji5)).toNat) = some (.int .i64 (rd l0 (ji5))) ∧ w'.cell? (ad1219.add ((ji8)).toNat) = some (.int .i64 (rd l0 (ji8))) ∧ w'.cell? (ad1219.add ((ji11)).toNat) = some (.int .i64 (rd l0 (ji11))) ∧ w'.cell? (ad1219.add ((ji14)).toNat) = some (.int .i64 (rd l0 (ji14))) ∧ w'.cell? (ad1219.add ((ji11)).toNat) = some (.int .i64 (rd l0 (ji11))) ∧ w'.cell? (ad1219.add ((ji22)).toNat) = some (.int .i64 (rd l0 (ji22))) ∧ w'.cell? (ad1219.add ((ji19)).toNat) = some (.int .i64 (rd l0 (ji19)))) (ds := []) #[F_,F_,F_,F_,F_,F_,F_,F_,F_,F_,F_,F_,F_,F_,F_,F_,F_,F_,F_,F_,F_,F_,F_,F_,F_,F_,F_,F_,F_,F_,F_,F_,F_,F_,F_,F_,F_,F_,F_,F_,F_,F_,F_,F_,F_,F_,F_,F_,F_,F_,F_,F_,F_,F_] (by kernel_rfl) rfl rfl ⟨(hc_ HB hw1219_0), (hc_ HB hw1220_0), (hc_ HB hw1221_0), (hc_ HB hw1222_0), (hc_ HB hw1225_0), (hc_ HB hw1226_0), (hc_ HB hw1224_0)⟩ (fun hHeld => ?_); refine with_tabW spec_l2Kernel.tab7 spec_l2Kernel.bits7 (fun HT_ HW_ => ?_)
                     generalize wr.drew = w28 at HB hx1219_0 hx1220_0 hx1221_0 hx1222_0 hx1224_0 hx1225_0 hx1226_0 hHeld ⊢
                     refine p_ 0 15 (m_ 54 1) HT_.out ?_
                     refine p_ 1 16 (m_ 54 3) HT_.out ?_
                     refine p_ 2 17 (m_ 54 7) HT_.out ?_
                     refine p_ 3 18 (m_ 54 15) HT_.out ?_
                     refine p_ 4 19 (m_ 54 31) HT_.out ?_
                     refine p_ 5 20 (m_ 54 63) HT_.out ?_
                     refine p_ 6 21 (m_ 54 127) HT_.out ?_
                     refine p_ 7 22 (m_ 54 255) HT_.out ?_
                     refine p_ 8 23 (m_ 54 511) HT_.out ?_
                     refine p_ 13 28 (m_ 54 8703) HT_.out ?_
                     refine p_ 14 29 (m_ 54 25087) HT_.out ?_
                     refine p_ 15 30 (m_ 54 57855) HT_.out ?_
                     refine p_ 16 31 (m_ 54 123391) HT_.out ?_
                     refine p_ 17 32 (m_ 54 254463) HT_.out ?_
                     refine p_ 18 33 (m_ 54 516607) HT_.out ?_
                     refine p_ 19 34 (m_ 54 1040895) HT_.out ?_
                     refine p_ 22 37 (m_ 54 5235199) HT_.out ?_
                     refine take_ (i := 9) (N := some 24) (v := ?_) (a' := ?_) (m_ 54 5235711) rfl rfl (take_ofW HT_.out HW_.out (by kernel_rfl)) (fun _ _ _ h => h) (Or.inl ⟨by rfl, ?_⟩) hHeld ?_ ?_; rotate_left; (rintro w' ⟨s0, s1, s2, s3, s4, s5, s6⟩; go_simp; with_reducible rfl); rotate_left; (simp only [Act.put, List.setIfInBounds_toArray, List.set_cons_zero, List.set_cons_succ, i64_w, i32_w]; rfl)
                     refine p_ 10 25 (m_ 54 5236735) HT_.out ?_
                     refine p_ 11 26 (m_ 54 5238783) HT_.out ?_
                     refine take_ (i := 12) (N := some 27) (v := ?_) (a' := ?_) (m_ 54 5242879) rfl rfl (take_ofW HT_.out HW_.out (by kernel_rfl)) (fun _ _ _ h => h) (Or.inl ⟨by rfl, ?_⟩) hHeld ?_ ?_; rotate_left; (rintro w' ⟨s0, s1, s2, s3, s4, s5, s6⟩; go_simp; with_reducible rfl); rotate_left; (simp only [Act.put, List.setIfInBounds_toArray, List.set_cons_zero, List.set_cons_succ, i64_w, i32_w]; rfl)
                     refine take_ (i := 20) (N := some 35) (v := ?_) (a' := ?_) (m_ 54 6291455) rfl rfl (take_ofW HT_.out HW_.out (by kernel_rfl)) (fun _ _ _ h => h) (Or.inl ⟨by rfl, ?_⟩) hHeld ?_ ?_; rotate_left; (rintro w' ⟨s0, s1, s2, s3, s4, s5, s6⟩; go_simp; with_reducible rfl); rotate_left; (simp only [Act.put, List.setIfInBounds_toArray, List.set_cons_zero, List.set_cons_succ, i64_w, i32_w]; rfl)
                     refine p_ 21 36 (m_ 54 8388607) HT_.out ?_
                     refine p_ 23 38 (m_ 54 16777215) HT_.out ?_
                     refine p_ 24 39 (m_ 54 33554431) HT_.out ?_
                     refine take_ (i := 25) (N := some 40) (v := ?_) (a' := ?_) (m_ 54 67108863) rfl rfl (take_ofW HT_.out HW_.out (by kernel_rfl)) (fun _ _ _ h => h) (Or.inl ⟨by rfl, ?_⟩) hHeld ?_ ?_; rotate_left; (rintro w' ⟨s0, s1, s2, s3, s4, s5, s6⟩; go_simp; with_reducible rfl); rotate_left; (simp only [Act.put, List.setIfInBounds_toArray, List.set_cons_zero, List.set_cons_succ, i64_w, i32_w]; rfl)
                     refine p_ 26 41 (m_ 54 134217727) HT_.out ?_
                     refine p_ 27 42 (m_ 54 268435455) HT_.out ?_
                     refine p_ 28 43 (m_ 54 536870911) HT_.out ?_
                     refine p_ 29 44 (m_ 54 1073741823) HT_.out ?_
                     refine p_ 30 45 (m_ 54 2147483647) HT_.out ?_
                     refine p_ 31 46 (m_ 54 4294967295) HT_.out ?_
                     refine p_ 32 47 (m_ 54 8589934591) HT_.out ?_
                     refine p_ 37 52 (m_ 54 146028888063) HT_.out ?_
                     refine p_ 38 53 (m_ 54 420906795007) HT_.out ?_
                     refine p_ 39 54 (m_ 54 970662608895) HT_.out ?_
                     refine p_ 40 55 (m_ 54 2070174236671) HT_.out ?_
                     refine p_ 41 56 (m_ 54 4269197492223) HT_.out ?_
                     refine p_ 42 57 (m_ 54 8667244003327) HT_.out ?_
                     refine p_ 44 59 (m_ 54 26259430047743) HT_.out ?_
                     refine p_ 45 60 (m_ 54 61443802136575) HT_.out ?_
                     refine p_ 46 61 (m_ 54 131812546314239) HT_.out ?_
                     refine p_ 47 62 (m_ 54 272550034669567) HT_.out ?_
                     refine p_ 48 63 (m_ 54 554025011380223) HT_.out ?_
                     refine p_ 49 64 (m_ 54 1116974964801535) HT_.out ?_
                     refine take_ (i := 43) (N := some 58) (v := ?_) (a' := ?_) (m_ 54 1125771057823743) rfl rfl (take_ofW HT_.out HW_.out (by kernel_rfl)) (fun _ _ _ h => h) (Or.inl ⟨by rfl, ?_⟩) hHeld ?_ ?_; rotate_left; (rintro w' ⟨s0, s1, s2, s3, s4, s5, s6⟩; go_simp; with_reducible rfl); rotate_left; (simp only [Act.put, List.setIfInBounds_toArray, List.set_cons_zero, List.set_cons_succ, i64_w, i32_w]; rfl)
                     refine take_ (i := 50) (N := some 65) (v := ?_) (a' := ?_) (m_ 54 2251670964666367) rfl rfl (take_ofW HT_.out HW_.out (by kernel_rfl)) (fun _ _ _ h => h) (Or.inl ⟨by rfl, ?_⟩) hHeld ?_ ?_; rotate_left; (rintro w' ⟨s0, s1, s2, s3, s4, s5, s6⟩; go_simp; with_reducible rfl); rotate_left; (simp only [Act.put, List.setIfInBounds_toArray, List.set_cons_zero, List.set_cons_succ, i64_w, i32_w]; rfl)
                     refine one_ (i := 33) (N := some 48) (m_ 54 2251679554600959) rfl rfl (one_of HT_.out (by kernel_rfl)) (by decide) (fun K hK => ?_)
                     refine goes_ Try.func146 (by kernel_rfl) rfl #[.int .i64 x5_1, .int .i64 x6_2] (by rfl) rfl rfl ll_ ?_
                     with_reducible refine (spec_l1Add.calls x5_1 x6_2 t1223 _ A18.out).mono ?_
                     rintro e w' ⟨rfl, ⟨nd, rfl⟩⟩
                     refine ⟨_, rfl, ?_⟩
                     refine hK.out _ _ ⟨(hc_ HB hw1219_0), (hc_ HB hw1220_0), (hc_ HB hw1221_0), (hc_ HB hw1222_0), (hc_ HB hw1225_0), (hc_ HB hw1226_0), (hc_ HB hw1224_0)⟩ (fun hHeld => ?_)
                     clear hK K
                     refine norm_ (a' := ?_) ?_ ?_; rotate_left; (show Act.put _ (some 48) _ = _; simp only [Act.put, List.setIfInBounds_toArray, List.set_cons_zero, List.set_cons_succ, i64_w, i32_w]; rfl)
                     refine p_ 34 49 (m_ 54 2251696734470143) HT_.out ?_
                     refine p_ 35 50 (m_ 54 2251731094208511) HT_.out ?_
                     refine take_ (i := 36) (N := some 51) (v := ?_) (a' := ?_) (m_ 54 2251799813685247) rfl rfl (take_ofW HT_.out HW_.out (by kernel_rfl)) (fun _ _ _ h => h) (Or.inl ⟨by rfl, ?_⟩) hHeld ?_ ?_; rotate_left; (rintro w' ⟨s0, s1, s2, s3, s4, s5, s6⟩; go_simp; with_reducible rfl); rotate_left; (simp only [Act.put, List.setIfInBounds_toArray, List.set_cons_zero, List.set_cons_succ, i64_w, i32_w]; rfl)
                     refine one_ (i := 51) (N := some 66) (m_ 54 4503599627370495) rfl rfl (one_of HT_.out (by kernel_rfl)) (by decide) (fun K hK => ?_)
                     refine goes_ Try.func146 (by kernel_rfl) rfl #[.int .i64 (rd l0 (ji11)), .int .i64 (rd l0 (ji22))] (by rfl) rfl rfl (by (try simp only [List.map_toArray, List.map_cons, List.map_nil]); first | done | (simp only [hji11, hji22]; rfl) | rfl | (simp only [List.length_drop, List.length_take]; rfl)) ?_
                     with_reducible refine (spec_l1Add.calls (rd l0 (ji11)) (rd l0 (ji22)) t1227 _ A25.out).mono ?_
                     rintro e w' ⟨rfl, ⟨nd, rfl⟩⟩
                     refine ⟨_, rfl, ?_⟩
                     refine hK.out _ _ ⟨(hc_ HB hw1219_0), (hc_ HB hw1220_0), (hc_ HB hw1221_0), (hc_ HB hw1222_0), (hc_ HB hw1225_0), (hc_ HB hw1226_0), (hc_ HB hw1224_0)⟩ (fun hHeld => ?_)
                     clear hK K
                     refine norm_ (a' := ?_) ?_ ?_; rotate_left; (show Act.put _ (some 66) _ = _; simp only [Act.put, List.setIfInBounds_toArray, List.set_cons_zero, List.set_cons_succ, i64_w, i32_w]; rfl)
                     refine p_ 52 67 (m_ 54 9007199254740991) HT_.out ?_
                     refine p_ 53 68 (m_ 54 18014398509481983) HT_.out ?_
                     refine done_ (done_of HT_.out (by kernel_rfl)) ?_
                     try go_wp2
                     go_ret
                     exact ⟨by first | rfl | (simp [errW_none, errW_some] <;> rfl) | (simp only [← hji5, ← hji8, ← hji11, ← hji14, ← hji19, ← hji22]; first | rfl | (simp [errW_none, errW_some] <;> rfl)) | (simp [*, errW_none, errW_some] <;> rfl), bb_ HB⟩
                   ·rw [if_neg c24] at H
                    exact absurd H (by simp)
                  ·rw [if_neg c23] at H
                   exact absurd H (by simp)
                 ·rw [if_neg c21] at H
                  exact absurd H (by simp)
                ·rw [if_neg c20] at H
                 exact absurd H (by simp)
               ·rw [if_neg c17] at H
                have c17b0 : ((rd l0 (ji8)) == (rd l0 (ji14))) = false := beq_eq_false_iff_ne.mpr c17
                have c17b1 : ((rd l0 (ji8)) != (rd l0 (ji14))) = true := bne_iff_ne.mpr c17
                obtain rfl := Option.some.inj H
                try go_wp2
                have n0_ := Aside0.mk (below_drew1 HB.out)
                clear HB
                have HB := n0_
                clear n0_
                have p1219 : 0 ≤ ((ji5) : Int) := dd_
                have q1219 : (ji5) < (l0.length : Int) := dd_
                obtain ⟨ad1219, e1219, hx1219_0⟩ := Kd.at_int HR0.out (ji5) p1219 q1219
                have hw1219_0 := hx1219_0
                cases e1219
                replace hx1219_0 := hc_ HB hx1219_0
                replace p1219 := eq_true p1219
                replace q1219 := eq_true q1219
                have p1220 : 0 ≤ ((ji8) : Int) := dd_
                have q1220 : (ji8) < (l0.length : Int) := dd_
                obtain ⟨ad1220, e1220, hx1220_0⟩ := Kd.at_int HR0.out (ji8) p1220 q1220
                have hw1220_0 := hx1220_0
                obtain rfl : ad1219 = ad1220 := (by injection e1220)
                replace hx1220_0 := hc_ HB hx1220_0
                replace p1220 := eq_true p1220
                replace q1220 := eq_true q1220
                have p1221 : 0 ≤ ((ji11) : Int) := dd_
                have q1221 : (ji11) < (l0.length : Int) := dd_
                obtain ⟨ad1221, e1221, hx1221_0⟩ := Kd.at_int HR0.out (ji11) p1221 q1221
                have hw1221_0 := hx1221_0
                obtain rfl : ad1219 = ad1221 := (by injection e1221)
                replace hx1221_0 := hc_ HB hx1221_0
                replace p1221 := eq_true p1221
                replace q1221 := eq_true q1221
                have p1222 : 0 ≤ ((ji14) : Int) := dd_
                have q1222 : (ji14) < (l0.length : Int) := dd_
                obtain ⟨ad1222, e1222, hx1222_0⟩ := Kd.at_int HR0.out (ji14) p1222 q1222
                have hw1222_0 := hx1222_0
                obtain rfl : ad1219 = ad1222 := (by injection e1222)
                replace hx1222_0 := hc_ HB hx1222_0
                replace p1222 := eq_true p1222
                replace q1222 := eq_true q1222
                refine start_ (n := 54) (S := fun w' => w'.cell? (ad1219.add ((ji5)).toNat) = some (.int .i64 (rd l0 (ji5))) ∧ w'.cell? (ad1219.add ((ji8)).toNat) = some (.int .i64 (rd l0 (ji8))) ∧ w'.cell? (ad1219.add ((ji11)).toNat) = some (.int .i64 (rd l0 (ji11))) ∧ w'.cell? (ad1219.add ((ji14)).toNat) = some (.int .i64 (rd l0 (ji14)))) (ds := []) #[F_,F_,F_,F_,F_,F_,F_,F_,F_,F_,F_,F_,F_,F_,F_,F_,F_,F_,F_,F_,F_,F_,F_,F_,F_,F_,F_,F_,F_,F_,F_,F_,F_,F_,F_,F_,F_,F_,F_,F_,F_,F_,F_,F_,F_,F_,F_,F_,F_,F_,F_,F_,F_,F_] (by kernel_rfl) rfl rfl ⟨(hc_ HB hw1219_0), (hc_ HB hw1220_0), (hc_ HB hw1221_0), (hc_ HB hw1222_0)⟩ (fun hHeld => ?_); refine with_tabW spec_l2Kernel.tab7 spec_l2Kernel.bits7 (fun HT_ HW_ => ?_)
                generalize wr.drew = w29 at HB hx1219_0 hx1220_0 hx1221_0 hx1222_0 hHeld ⊢
                refine p_ 0 15 (m_ 54 1) HT_.out ?_
                refine p_ 1 16 (m_ 54 3) HT_.out ?_
                refine p_ 2 17 (m_ 54 7) HT_.out ?_
                refine p_ 3 18 (m_ 54 15) HT_.out ?_
                refine p_ 4 19 (m_ 54 31) HT_.out ?_
                refine p_ 5 20 (m_ 54 63) HT_.out ?_
                refine p_ 6 21 (m_ 54 127) HT_.out ?_
                refine p_ 7 22 (m_ 54 255) HT_.out ?_
                refine p_ 8 23 (m_ 54 511) HT_.out ?_
                refine p_ 13 28 (m_ 54 8703) HT_.out ?_
                refine p_ 14 29 (m_ 54 25087) HT_.out ?_
                refine p_ 15 30 (m_ 54 57855) HT_.out ?_
                refine p_ 16 31 (m_ 54 123391) HT_.out ?_
                refine p_ 17 32 (m_ 54 254463) HT_.out ?_
                refine p_ 18 33 (m_ 54 516607) HT_.out ?_
                refine p_ 19 34 (m_ 54 1040895) HT_.out ?_
                refine p_ 22 37 (m_ 54 5235199) HT_.out ?_
                refine t4_ 9 24 (m_ 54 5235711) HT_.out HW_.out hHeld ?_
                refine p_ 10 25 (m_ 54 5236735) HT_.out ?_
                refine p_ 11 26 (m_ 54 5238783) HT_.out ?_
                refine t4_ 12 27 (m_ 54 5242879) HT_.out HW_.out hHeld ?_
                refine t4_ 20 35 (m_ 54 6291455) HT_.out HW_.out hHeld ?_
                refine p_ 21 36 (m_ 54 8388607) HT_.out ?_
                refine p_ 23 38 (m_ 54 16777215) HT_.out ?_
                refine p_ 24 39 (m_ 54 33554431) HT_.out ?_
                refine t4_ 25 40 (m_ 54 67108863) HT_.out HW_.out hHeld ?_
                refine p_ 26 41 (m_ 54 134217727) HT_.out ?_
                refine p_ 27 42 (m_ 54 268435455) HT_.out ?_
                refine u_ 28 43 (m_ 54 536870911) HT_.out ?_
                refine u_ 29 44 (m_ 54 1073741823) HT_.out ?_
                refine u_ 30 45 (m_ 54 2147483647) HT_.out ?_
                refine u_ 31 46 (m_ 54 4294967295) HT_.out ?_
                refine u_ 32 47 (m_ 54 8589934591) HT_.out ?_
                refine u_ 33 48 (m_ 54 17179869183) HT_.out ?_
                refine u_ 34 49 (m_ 54 34359738367) HT_.out ?_
                refine u_ 35 50 (m_ 54 68719476735) HT_.out ?_
                refine u_ 36 51 (m_ 54 137438953471) HT_.out ?_
                refine u_ 37 52 (m_ 54 274877906943) HT_.out ?_
                refine u_ 38 53 (m_ 54 549755813887) HT_.out ?_
                refine u_ 39 54 (m_ 54 1099511627775) HT_.out ?_
                refine u_ 40 55 (m_ 54 2199023255551) HT_.out ?_
                refine u_ 41 56 (m_ 54 4398046511103) HT_.out ?_
                refine u_ 42 57 (m_ 54 8796093022207) HT_.out ?_
                refine u_ 43 58 (m_ 54 17592186044415) HT_.out ?_
                refine u_ 44 59 (m_ 54 35184372088831) HT_.out ?_
                refine u_ 45 60 (m_ 54 70368744177663) HT_.out ?_
                refine u_ 46 61 (m_ 54 140737488355327) HT_.out ?_
                refine u_ 47 62 (m_ 54 281474976710655) HT_.out ?_
                refine u_ 48 63 (m_ 54 562949953421311) HT_.out ?_
                refine u_ 49 64 (m_ 54 1125899906842623) HT_.out ?_
                refine u_ 50 65 (m_ 54 2251799813685247) HT_.out ?_
                refine u_ 51 66 (m_ 54 4503599627370495) HT_.out ?_
                refine u_ 52 67 (m_ 54 9007199254740991) HT_.out ?_
                refine p_ 53 68 (m_ 54 18014398509481983) HT_.out ?_
                refine done_ (done_of HT_.out (by kernel_rfl)) ?_
                try go_wp2
                go_ret
                exact ⟨by first | rfl | (simp [errW_none, errW_some] <;> rfl) | (simp only [← hji5, ← hji8, ← hji11, ← hji14]; first | rfl | (simp [errW_none, errW_some] <;> rfl)) | (simp [*, errW_none, errW_some] <;> rfl), bb_ HB⟩
              ·rw [if_neg c16] at H
               exact absurd H (by simp)
             ·rw [if_neg c15] at H
              exact absurd H (by simp)
            ·rw [if_neg c13] at H
             exact absurd H (by simp)
           ·rw [if_neg c12] at H
            exact absurd H (by simp)
          ·rw [if_neg c10] at H
           exact absurd H (by simp)
         ·rw [if_neg c9] at H
          exact absurd H (by simp)
        ·rw [if_neg c7] at H
         exact absurd H (by simp)
       ·rw [if_neg c6] at H
        exact absurd H (by simp)
      ·rw [if_neg c4] at H
       have c4b0 : decide (x6_2 < 9) = false := decide_eq_false c4
       clear c4
       have H' := Aside0.mk H
       clear H
       go_wp2
       go_roundg k2
       case measure => have := HK1.out; have := HK2.out; omega
       case rel => exact ⟨(wrap64 (x5_1 + 1)), (by first | rfl | (simp; done) | (simp [*]; done)), H', ⟨by have := HK1.out; have := HK2.out; omega⟩, ⟨by repeat (first | (with_reducible first | exact HB.out | apply below_alloc | apply pw_below_drewN | apply below_drew1) | exact HB.out)⟩⟩
   ·rw [if_neg c3] at H
    have c3b0 : decide (x5_1 < 9) = false := decide_eq_false c3
    clear c3
    obtain rfl := Option.some.inj H
    go_wp2
    go_ret
    exact ⟨ee_, bb_ HB⟩
end Go.Proofs.Ytcbkoecanldlpaa.P

namespace Go.Proofs.Ytcbkoecanldlpaa.P
open Go.RowKit Go.Proofs.YtcbkoecanldlpaaW.PrintWords Go.Proofs.YtcbkoecanldlpaaW.PrintLast
set_option linter.unusedVariables false
set_option linter.unusedSimpArgs false

mutual
def spec_MoveStretch.j0 : Nat → List Int → Int → List Int → Bool → Option (List Int × Bool)
 | 0, _, _, _, _ => none
 | k + 1, x0, x1, x6, x22 => if x22 = true then (some (x6, false)) else (spec_MoveStretch.l0 k x0 x1 x6 0)
def spec_MoveStretch.l0 : Nat → List Int → Int → List Int → Int → Option (List Int × Bool)
 | 0, _, _, _, _ => none
 | k + 1, x0, x1, x6, x7 => if x7 < 81 then (if 0 ≤ (wrap64 ((wrap64 (9 * x1)) + (wrap64 (Int.tdiv x7 9)))) then (if (wrap64 ((wrap64 (9 * x1)) + (wrap64 (Int.tdiv x7 9)))) < (x0.length : Int) then (if 0 ≤ (wrap64 ((wrap64 (9 * x1)) + (Int.tmod x7 9))) then (if (wrap64 ((wrap64 (9 * x1)) + (Int.tmod x7 9))) < (x0.length : Int) then (if x6.length < 17592186044416 then (spec_MoveStretch.l0 k x0 x1 (x6 ++ [wrap64 ((wrap64 (9 * (rd x0 (wrap64 ((wrap64 (9 * x1)) + (wrap64 (Int.tdiv x7 9))))))) + (rd x0 (wrap64 ((wrap64 (9 * x1)) + (Int.tmod x7 9)))))]) (wrap64 (x7 + 1))) else (none)) else (none)) else (none)) else (none)) else (none)) else ((spec_l5Far.f k x6).bind fun t1239 => (some (t1239, true)))
end
def spec_MoveStretch.f (k : Nat) (l0 : List Int) (a1 : Int) : Option (List Int × Bool) := (some (([] : List Int) : List Int)).bind fun y1228 => ((spec_SystemIn.f k l0).bind fun t1231 => (if t1231 = true then ((spec_l6In.f a1 1 8).bind fun t1232 => (if t1232 = true then ((spec_l2Kernel.f k l0 a1).bind fun t1233 => (spec_MoveStretch.j0 k l0 a1 y1228 (!t1233))) else (spec_MoveStretch.j0 k l0 a1 y1228 true))) else (spec_MoveStretch.j0 k l0 a1 y1228 true)))
def spec_MoveStretch.T7 : Bool × List (List Nat × List Nat) := (true, [([], []), ([], []), ([], []), ([2], [2]), ([], []), ([4], [4]), ([3, 5], [3, 5]), ([1, 6], [1, 6]), ([7], [7]), ([8], [8]), ([], []), ([], []), ([11], [11]), ([], []), ([13], [13]), ([12, 14], [12, 14]), ([10, 15], [10, 15]), ([16], [16]), ([9, 17], [9, 17]), ([18], [18]), ([0, 19], [0, 19]), ([20, 20, 0, 1, 2, 3, 4, 5, 6, 7, 8, 9, 10, 11, 12, 13, 14, 15, 16, 17, 18, 19, 20], [0, 20])])
def spec_MoveStretch.B7 : List Nat := [0, 0, 0, 4, 0, 16, 60, 126, 254, 510, 0, 0, 2048, 0, 8192, 30720, 64512, 130048, 262142, 524286, 1048575, 2097151]
theorem spec_MoveStretch.tab7 : rtab .any (opsOf Try.f188 7) = spec_MoveStretch.T7 := by kernel_rfl
theorem spec_MoveStretch.bits7 : waitsOk spec_MoveStretch.T7.2 spec_MoveStretch.B7 = true := by kernel_rfl
set_option maxHeartbeats 8000000 in
set_option maxRecDepth 100000 in
theorem spec_MoveStretch.calls (k : Nat) (A0 : Option Addr) (c0 : Nat) (l0 : List Int) (a1 : Int) (r1 : List Int) (r2 : Bool) (w : World) (hr0 : Kd.C (Kd.int .i64) w A0 l0.length l0) (hc0 : l0.length ≤ c0) (h : spec_MoveStretch.f k l0 a1 = some (r1, r2)) :
  Calls Try.prog 188 #[.slice A0 l0.length c0, .int .i64 a1] w fun e w' => ∃ v0_ : Value, e = .returned (.tuple #[v0_, .bool r2]) ∧ Kd.R (Kd.int .i64) 3 w' w.heap.size (fun _ => True) v0_ r1 ∧ Below w.heap.size w w' := by
 have HR0 := Aside0.mk hr0
 have HC0 := Aside0.mk hc0
 clear hr0 hc0
 have HB := Aside0.mk (Below.refl w.heap.size w)
 have H : ((some (([] : List Int) : List Int)).bind fun y1228 => ((spec_SystemIn.f k l0).bind fun t1231 => (if t1231 = true then ((spec_l6In.f a1 1 8).bind fun t1232 => (if t1232 = true then ((spec_l2Kernel.f k l0 a1).bind fun t1233 => (spec_MoveStretch.j0 k l0 a1 y1228 (!t1233))) else (spec_MoveStretch.j0 k l0 a1 y1228 true))) else (spec_MoveStretch.j0 k l0 a1 y1228 true)))) = some (r1, r2) := h
 clear h
 obtain ⟨y1228, hy1228⟩ : ∃ y_ : List Int, y_ = (([] : List Int)) := ⟨_, rfl⟩
 replace H : ((spec_SystemIn.f k l0).bind fun t1231 => (if t1231 = true then ((spec_l6In.f a1 1 8).bind fun t1232 => (if t1232 = true then ((spec_l2Kernel.f k l0 a1).bind fun t1233 => (spec_MoveStretch.j0 k l0 a1 y1228 (!t1233))) else (spec_MoveStretch.j0 k l0 a1 y1228 true))) else (spec_MoveStretch.j0 k l0 a1 y1228 true))) = some (r1, r2) := by first | (rw [hy1228]; with_reducible exact H) | (have H2_ := (Option.bind_some _ _).symm.trans H; rw [hy1228]; with_reducible exact H2_) | (have H2_ := (Option.bind_some _ _).symm.trans H; with_reducible exact H2_) | with_reducible exact H | (rw [hy1228]; exact H) | exact H
 have Ny1228 := Aside0.mk hy1228
 clear hy1228
 have HC3 := Aside0.mk H
 clear H
 go_enter Try.func188, Try.ntmps188
 go_upto_region 2 with (first | ((with_reducible refine gate_dst (N := 8) rfl ?_); refine Kd.R_lit (Kd.int .i64) _ 3 ?hg (N := 8) ?hd (xs := ([] : List Int)) (inner := []) (ok := fun _ => True) (okp := fun _ => True) ?hr ?hp (fun _ hk => hk) trivial (Below.refl _ _) (Nat.le_refl _) (by simp) ?_; (case hd => rfl); (case hg => rfl); (case hr => first | (go_simp; done) | (go_simp; rfl)); (case hp => exact (Reps.none _ _)); intro v1229 w4 ho5 hb hg_ hnew_; clear hg_ hnew_; (first | rw [← Ny1228.out] at ho5 | (simp only [Int.reduceToNat] at ho5; rw [← Ny1228.out] at ho5)); have n0_ := Aside0.mk (Kd.R_lower ho5 (below_size (bb_ HB))); have n1_ := Aside0.mk (below_step (bb_ HB) hb); clear HB; have HO1230 := n0_; have HB := n1_; clear n0_ n1_; clear hb ho5))
 (try simp only [Act.put, List.setIfInBounds_toArray, List.set_cons_zero, List.set_cons_succ])
 go_cut [22] (fun v22 wc => ∃ (kq : Nat) (x22_2 : Bool), v22 = .bool x22_2 ∧ Aside0 (spec_MoveStretch.j0 kq l0 a1 y1228 x22_2 = some (r1, r2)) ∧ Aside0 (kq ≤ k) ∧ Aside0 (Kd.R (Kd.int .i64) 3 wc w.heap.size (fun _ => True) v1229 y1228) ∧ Aside0 (Below w.heap.size w wc))
 case first =>
  have H := HC3.out
  clear HC3
  replace H := Option.bind_eq_some_iff.mp H
  obtain ⟨t1231, A60, H⟩ := H
  replace H : (if t1231 = true then ((spec_l6In.f a1 1 8).bind fun t1232 => (if t1232 = true then ((spec_l2Kernel.f k l0 a1).bind fun t1233 => (spec_MoveStretch.j0 k l0 a1 y1228 (!t1233))) else (spec_MoveStretch.j0 k l0 a1 y1228 true))) else (spec_MoveStretch.j0 k l0 a1 y1228 true)) = some (r1, r2) := H
  have A6 := Aside0.mk A60
  clear A60
  by_cases c7 : t1231 = true
  ·subst c7
   have H1 : ((spec_l6In.f a1 1 8).bind fun t1232 => (if t1232 = true then ((spec_l2Kernel.f k l0 a1).bind fun t1233 => (spec_MoveStretch.j0 k l0 a1 y1228 (!t1233))) else (spec_MoveStretch.j0 k l0 a1 y1228 true))) = some (r1, r2) := by rw [if_pos rfl] at H; exact H
   clear H
   have H := H1
   clear H1
   replace H := Option.bind_eq_some_iff.mp H
   obtain ⟨t1232, A80, H⟩ := H
   replace H : (if t1232 = true then ((spec_l2Kernel.f k l0 a1).bind fun t1233 => (spec_MoveStretch.j0 k l0 a1 y1228 (!t1233))) else (spec_MoveStretch.j0 k l0 a1 y1228 true)) = some (r1, r2) := H
   have A8 := Aside0.mk A80
   clear A80
   by_cases c9 : t1232 = true
   ·subst c9
    have H1 : ((spec_l2Kernel.f k l0 a1).bind fun t1233 => (spec_MoveStretch.j0 k l0 a1 y1228 (!t1233))) = some (r1, r2) := by rw [if_pos rfl] at H; exact H
    clear H
    have H := H1
    clear H1
    replace H := Option.bind_eq_some_iff.mp H
    obtain ⟨t1233, A100, H⟩ := H
    replace H : (spec_MoveStretch.j0 k l0 a1 y1228 (!t1233)) = some (r1, r2) := H
    have A10 := Aside0.mk A100
    clear A100
    have H' := Aside0.mk H
    clear H
    go_wp2_with (first | (refine goesL_ (some 10) rfl rfl Try.func63 (by kernel_rfl) rfl #[.slice A0 l0.length c0] rfl ll_ ?_; (with_reducible refine (spec_SystemIn.calls k _ _ l0 true _ ?side1 ?side2 A6.out).mono ?_); (case side1 => exact sb_ HR0 HB); (case side2 => exact HC0.out); rintro e w11 ⟨rfl, hb⟩; refine ⟨_, rfl, ?_⟩; have n0_ := Aside0.mk (Kd.R_below (rr_ HO1230) hb); have n1_ := Aside0.mk (below_step (bb_ HB) hb); clear HO1230; clear HB; have HO1230 := n0_; have HB := n1_; clear n0_ n1_; (try clear hb); (try clear hb2); (try clear hk); (try clear hi)) | (go_at_call 87; (with_reducible refine (spec_l6In.calls a1 1 8 true _ A8.out).mono ?_); rintro e w' ⟨rfl, ⟨nd, rfl⟩⟩) | (go_at_call 201; (with_reducible refine (spec_l2Kernel.calls k _ _ l0 a1 t1233 _ ?side1 ?side2 A10.out).mono ?_); (case side1 => repeat (first | exact (Kd.C_below HR0.out (bb_ HB)) | (with_reducible refine Kd.C_alloc ?_ _) | (with_reducible refine Kd.C_drewN ?_ _) | (with_reducible refine Kd.C_drew ?_))); (case side2 => exact HC0.out); rintro e w12 ⟨rfl, hb⟩; have n0_ := Aside0.mk (Kd.R_below (rr_ HO1230) hb); have n1_ := Aside0.mk (below_step (bb_ HB) hb); clear HO1230; clear HB; have HO1230 := n0_; have HB := n1_; clear n0_ n1_; (try clear hb); (try clear hb2); (try clear hk); (try clear hi)))
    go_meet
    case rel => exact ⟨_, (!t1233), (by first | rfl | (simp; done) | (simp [*]; done)), H', ⟨by first | omega | exact Nat.le_refl _⟩, ⟨rr_ HO1230⟩, ⟨by repeat (first | (with_reducible first | exact HB.out | apply below_alloc | apply pw_below_drewN | apply below_drew1) | exact HB.out)⟩⟩
   ·replace c9 := Bool.eq_false_iff.mpr c9
    subst c9
    have H1 : (spec_MoveStretch.j0 k l0 a1 y1228 true) = some (r1, r2) := by rw [if_neg (show ¬ (false = true) by decide)] at H; exact H
    clear H
    have H := H1
    clear H1
    have H' := Aside0.mk H
    clear H
    go_wp2_with (first | (refine goesL_ (some 10) rfl rfl Try.func63 (by kernel_rfl) rfl #[.slice A0 l0.length c0] rfl ll_ ?_; (with_reducible refine (spec_SystemIn.calls k _ _ l0 true _ ?side1 ?side2 A6.out).mono ?_); (case side1 => exact sb_ HR0 HB); (case side2 => exact HC0.out); rintro e w13 ⟨rfl, hb⟩; refine ⟨_, rfl, ?_⟩; have n0_ := Aside0.mk (Kd.R_below (rr_ HO1230) hb); have n1_ := Aside0.mk (below_step (bb_ HB) hb); clear HO1230; clear HB; have HO1230 := n0_; have HB := n1_; clear n0_ n1_; (try clear hb); (try clear hb2); (try clear hk); (try clear hi)) | (go_at_call 87; (with_reducible refine (spec_l6In.calls a1 1 8 false _ A8.out).mono ?_); rintro e w' ⟨rfl, ⟨nd, rfl⟩⟩))
    go_meet
    case rel => exact ⟨_, (true), (by first | rfl | (simp; done) | (simp [*]; done)), H', ⟨by first | omega | exact Nat.le_refl _⟩, ⟨rr_ HO1230⟩, ⟨by repeat (first | (with_reducible first | exact HB.out | apply below_alloc | apply pw_below_drewN | apply below_drew1) | exact HB.out)⟩⟩
  ·replace c7 := Bool.eq_false_iff.mpr c7
   subst c7
   have H1 : (spec_MoveStretch.j0 k l0 a1 y1228 true) = some (r1, r2) := by rw [if_neg (show ¬ (false = true) by decide)] at H; exact H
   clear H
   have H := H1
   clear H1
   have H' := Aside0.mk H
   clear H
   go_wp2_with (first | (refine goesL_ (some 10) rfl rfl Try.func63 (by kernel_rfl) rfl #[.slice A0 l0.length c0] rfl ll_ ?_; (with_reducible refine (spec_SystemIn.calls k _ _ l0 false _ ?side1 ?side2 A6.out).mono ?_); (case side1 => exact sb_ HR0 HB); (case side2 => exact HC0.out); rintro e w14 ⟨rfl, hb⟩; refine ⟨_, rfl, ?_⟩; have n0_ := Aside0.mk (Kd.R_below (rr_ HO1230) hb); have n1_ := Aside0.mk (below_step (bb_ HB) hb); clear HO1230; clear HB; have HO1230 := n0_; have HB := n1_; clear n0_ n1_; (try clear hb); (try clear hb2); (try clear hk); (try clear hi)))
   go_meet
   case rel => exact ⟨_, (true), (by first | rfl | (simp; done) | (simp [*]; done)), H', ⟨by first | omega | exact Nat.le_refl _⟩, ⟨rr_ HO1230⟩, ⟨by repeat (first | (with_reducible first | exact HB.out | apply below_alloc | apply pw_below_drewN | apply below_drew1) | exact HB.out)⟩⟩
 case rest =>
  clear HC3
  try clear c1
  try clear p2
  try clear c6
  try clear c7
  try clear c9
  obtain ⟨kq, x22_2, rfl, HA, HJ2, HO_6, HB⟩ := hcut
  cases kq with
  | zero => exact absurd HA.out (by simp [spec_MoveStretch.j0])
  | succ kj2 =>
   have H := HA.out
   clear HA
   simp only [spec_MoveStretch.j0] at H
   by_cases c15 : x22_2 = true
   ·subst c15
    have H1 : (some (y1228, false)) = some (r1, r2) := by rw [if_pos rfl] at H; exact H
    clear H
    have H := H1
    clear H1
    simp only [Option.some.injEq, Prod.mk.injEq] at H
    obtain ⟨rfl, rfl⟩ := H
    go_wp2
    go_ret2
    exact ⟨_, ee_, by (with_reducible repeat (first | apply Kd.R_alloc | apply Kd.R_drewN | apply Kd.R_drew)); exact HO_6.out, bb_ HB⟩
   ·replace c15 := Bool.eq_false_iff.mpr c15
    subst c15
    have H1 : (spec_MoveStretch.l0 kj2 l0 a1 y1228 0) = some (r1, r2) := by rw [if_neg (show ¬ (false = true) by decide)] at H; exact H
    clear H
    have H := H1
    clear H1
    have H' := Aside0.mk H
    clear H
    go_wp2
    go_loopg [6, 7] kj2 (fun kq v6 v7 w' => ∃ (x6_2 : List Int) (x7_2 : Int), v7 = .int .i64 x7_2 ∧ Aside0 (spec_MoveStretch.l0 kq l0 a1 x6_2 x7_2 = some (r1, r2)) ∧ Aside0 (kq ≤ kj2) ∧ Aside0 (Kd.R (Kd.int .i64) 3 w' w.heap.size (fun _ => True) v6 x6_2) ∧ Aside0 (Below w.heap.size w w'))
    case atStart => exact ⟨(y1228), (0), (by first | rfl | (simp; done) | (simp [*]; done)), H', ⟨Nat.le_refl _⟩, ⟨rr_ HO_6⟩, ⟨by repeat (first | (with_reducible first | exact HB.out | apply below_alloc | apply pw_below_drewN | apply below_drew1) | exact HB.out)⟩⟩
    case round =>
     clear H'
     try clear c1
     try clear p2
     try clear c6
     try clear c7
     try clear c9
     try clear c15
     try clear p2
     obtain ⟨x6_2, x7_2, rfl, HA, HK2, HO_6, HB⟩ := hrel
     cases gk with
     | zero => exact absurd HA.out (by simp [spec_MoveStretch.l0])
     | succ k2 =>
      have H := HA.out
      clear HA
      simp only [spec_MoveStretch.l0] at H
      by_cases c16 : x7_2 < 81
      ·rw [if_pos c16] at H
       have c16b0 : decide (x7_2 < 81) = true := decide_eq_true c16
       clear c16
       obtain ⟨ji17, hji17⟩ : ∃ j_ : Int, (wrap64 ((wrap64 (9 * a1)) + (wrap64 (Int.tdiv x7_2 9)))) = j_ := ⟨_, rfl⟩
       replace H : (if 0 ≤ (ji17) then (if (ji17) < (l0.length : Int) then (if 0 ≤ (wrap64 ((wrap64 (9 * a1)) + (Int.tmod x7_2 9))) then (if (wrap64 ((wrap64 (9 * a1)) + (Int.tmod x7_2 9))) < (l0.length : Int) then (if x6_2.length < 17592186044416 then (spec_MoveStretch.l0 k2 l0 a1 (x6_2 ++ [wrap64 ((wrap64 (9 * (rd l0 (ji17)))) + (rd l0 (wrap64 ((wrap64 (9 * a1)) + (Int.tmod x7_2 9)))))]) (wrap64 (x7_2 + 1))) else (none)) else (none)) else (none)) else (none)) else (none)) = some (r1, r2) := by first | (rw [hji17] at H; exact H) | (simp only [hji17] at H ⊢; exact H)
       have hji17w : (IntKind.i64.wrap ((wrap64 (9 * a1)) + (wrap64 (Int.tdiv x7_2 9)))) = ji17 := (i64_w _).trans hji17
       by_cases c18 : 0 ≤ (ji17)
       ·rw [if_pos c18] at H
        have c18b0 : decide (0 ≤ (ji17)) = true := decide_eq_true c18
        clear c18
        by_cases c19 : (ji17) < (l0.length : Int)
        ·rw [if_pos c19] at H
         have c19b0 : decide ((ji17) < (l0.length : Int)) = true := decide_eq_true c19
         clear c19
         obtain ⟨ji20, hji20⟩ : ∃ j_ : Int, (wrap64 ((wrap64 (9 * a1)) + (Int.tmod x7_2 9))) = j_ := ⟨_, rfl⟩
         replace H : (if 0 ≤ (ji20) then (if (ji20) < (l0.length : Int) then (if x6_2.length < 17592186044416 then (spec_MoveStretch.l0 k2 l0 a1 (x6_2 ++ [wrap64 ((wrap64 (9 * (rd l0 (ji17)))) + (rd l0 (ji20)))]) (wrap64 (x7_2 + 1))) else (none)) else (none)) else (none)) = some (r1, r2) := by first | (rw [hji20] at H; exact H) | (simp only [hji20] at H ⊢; exact H)
         have hji20w : (IntKind.i64.wrap ((wrap64 (9 * a1)) + (Int.tmod x7_2 9))) = ji20 := (i64_w _).trans hji20
         by_cases c21 : 0 ≤ (ji20)
         ·rw [if_pos c21] at H
          have c21b0 : decide (0 ≤ (ji20)) = true := decide_eq_true c21
          clear c21
          by_cases c22 : (ji20) < (l0.length : Int)
          ·rw [if_pos c22] at H
           have c22b0 : decide ((ji20) < (l0.length : Int)) = true := decide_eq_true c22
           clear c22
           by_cases c23 : x6_2.length < 17592186044416
           ·rw [if_pos c23] at H
            have LMc23 := Aside0.mk c23
            clear c23
            obtain ⟨y1236, hy1236⟩ : ∃ y_ : List Int, y_ = (x6_2 ++ [wrap64 ((wrap64 (9 * (rd l0 (ji17)))) + (rd l0 (ji20)))]) := ⟨_, rfl⟩
            replace H : (spec_MoveStretch.l0 k2 l0 a1 y1236 (wrap64 (x7_2 + 1))) = some (r1, r2) := by first | (rw [hy1236]; with_reducible exact H) | (have H2_ := (Option.bind_some _ _).symm.trans H; rw [hy1236]; with_reducible exact H2_) | (have H2_ := (Option.bind_some _ _).symm.trans H; with_reducible exact H2_) | with_reducible exact H | (rw [hy1236]; exact H) | exact H
            have Ny1236 := Aside0.mk hy1236
            clear hy1236
            have H' := Aside0.mk H
            clear H
            try go_wp2
            have n0_ := Aside0.mk (Kd.R_drew HO_6.out)
            have n1_ := Aside0.mk (below_drew1 HB.out)
            clear HO_6
            clear HB
            have HO_6 := n0_
            have HB := n1_
            clear n0_ n1_
            have p1234 : 0 ≤ ((ji17) : Int) := dd_
            have q1234 : (ji17) < (l0.length : Int) := dd_
            obtain ⟨ad1234, e1234, hx1234_0⟩ := Kd.at_int HR0.out (ji17) p1234 q1234
            have hw1234_0 := hx1234_0
            cases e1234
            replace hx1234_0 := hc_ HB hx1234_0
            replace p1234 := eq_true p1234
            replace q1234 := eq_true q1234
            have p1235 : 0 ≤ ((ji20) : Int) := dd_
            have q1235 : (ji20) < (l0.length : Int) := dd_
            obtain ⟨ad1235, e1235, hx1235_0⟩ := Kd.at_int HR0.out (ji20) p1235 q1235
            have hw1235_0 := hx1235_0
            obtain rfl : ad1234 = ad1235 := (by injection e1235)
            replace hx1235_0 := hc_ HB hx1235_0
            replace p1235 := eq_true p1235
            replace q1235 := eq_true q1235
            refine start_ (n := 22) (S := fun w' => w'.cell? (ad1234.add ((ji17)).toNat) = some (.int .i64 (rd l0 (ji17))) ∧ w'.cell? (ad1234.add ((ji20)).toNat) = some (.int .i64 (rd l0 (ji20)))) (ds := []) #[F_,F_,F_,F_,F_,F_,F_,F_,F_,F_,F_,F_,F_,F_,F_,F_,F_,F_,F_,F_,F_,F_] (by kernel_rfl) rfl rfl ⟨(hc_ HB hw1234_0), (hc_ HB hw1235_0)⟩ (fun hHeld => ?_); refine with_tabW spec_MoveStretch.tab7 spec_MoveStretch.bits7 (fun HT_ HW_ => ?_)
            generalize wr.drew = w24 at HO_6 HB hx1234_0 hx1235_0 hHeld ⊢
            refine p_ 0 28 (m_ 22 1) HT_.out ?_
            refine p_ 1 29 (m_ 22 3) HT_.out ?_
            refine p_ 2 30 (m_ 22 7) HT_.out ?_
            refine p_ 3 31 (m_ 22 15) HT_.out ?_
            refine p_ 4 32 (m_ 22 31) HT_.out ?_
            refine p_ 5 33 (m_ 22 63) HT_.out ?_
            refine p_ 6 34 (m_ 22 127) HT_.out ?_
            refine p_ 7 35 (m_ 22 255) HT_.out ?_
            refine p_ 10 38 (m_ 22 1279) HT_.out ?_
            refine p_ 11 39 (m_ 22 3327) HT_.out ?_
            refine p_ 12 40 (m_ 22 7423) HT_.out ?_
            refine p_ 13 41 (m_ 22 15615) HT_.out ?_
            refine p_ 14 42 (m_ 22 31999) HT_.out ?_
            refine p_ 15 43 (m_ 22 64767) HT_.out ?_
            refine p_ 16 44 (m_ 22 130303) HT_.out ?_
            refine t2_ 8 36 (m_ 22 130559) HT_.out HW_.out hHeld ?_
            refine p_ 9 37 (m_ 22 131071) HT_.out ?_
            refine t2_ 17 45 (m_ 22 262143) HT_.out HW_.out hHeld ?_
            refine p_ 18 46 (m_ 22 524287) HT_.out ?_
            refine one_ (i := 19) (N := some 47) (m_ 22 1048575) rfl rfl (one_of HT_.out (by kernel_rfl)) (by decide) (fun K hK => ?_)
            refine value_ (w1 := ?_) (v := ?_) (by rfl) rfl ?_ ?_; rotate_left 2; (go_simp; constructor; (rfl); (rfl))
            refine hK.out _ _ ⟨(World.cell?_alloc_lt _ _ _ (World.block_lt_of_cell? _ _ ((hc_ HB hw1234_0)))).trans ((hc_ HB hw1234_0)), (World.cell?_alloc_lt _ _ _ (World.block_lt_of_cell? _ _ ((hc_ HB hw1235_0)))).trans ((hc_ HB hw1235_0))⟩ (fun hHeld => ?_)
            clear hK K
            refine norm_ (a' := ?_) ?_ ?_; rotate_left; (show Act.put _ (some 47) _ = _; simp only [Act.put, List.setIfInBounds_toArray, List.set_cons_zero, List.set_cons_succ, i64_w, i32_w]; rfl)
            refine one_ (i := 20) (N := some 48) (m_ 22 2097151) rfl rfl (one_of HT_.out (by kernel_rfl)) (by decide) (fun K hK => ?_)
            refine Kd.R_append_step (Kd.int .i64) (w0 := w) w.heap.size (by rfl) (.tmp 28) (.tmp 47) 23 3 (.int .i64 0) 8 rfl Try.underlying23 info3 rfl (by decide) (by omega) u6 x6_2 (wrap64 ((wrap64 (9 * (rd l0 (ji17)))) + (rd l0 (ji20)))) [.int .i64 (wrap64 ((wrap64 (9 * (rd l0 (ji17)))) + (rd l0 (ji20))))] (fun _ => True) (fun _ => False) rfl rfl ?aP (fun _ hk => hk.elim) ?aF ?aO ?aB ?aS ?aL ?_
            (case aP => exact rfl)
            (case aB => exact (bb_ HB))
            (case aF => exact (fun _ _ => trivial))
            (case aO => exact (rr_ HO_6))
            (case aS => exact (below_size (bb_ HB)))
            (case aL => have := LMc23.out; omega)
            intro v1237 w25 ho hb hg hat
            rw [← Ny1236.out] at ho
            have n0_ := Aside0.mk (hb)
            have n1_ := Aside0.mk (ho)
            clear HB
            clear HO_6
            have HB := n0_
            have HO1238 := n1_
            clear n0_ n1_
            clear ho hb hg hat
            refine hK.out _ _ ⟨(hc_ HB hw1234_0), (hc_ HB hw1235_0)⟩ (fun hHeld => ?_)
            clear hK K
            refine norm_ (a' := ?_) ?_ ?_; rotate_left; (show Act.put _ (some 48) _ = _; simp only [Act.put, List.setIfInBounds_toArray, List.set_cons_zero, List.set_cons_succ, i64_w, i32_w]; rfl)
            refine p_ 21 6 (m_ 22 4194303) HT_.out ?_
            refine done_ (done_of HT_.out (by kernel_rfl)) ?_
            try go_wp2
            go_roundg k2
            case measure => have := HJ2.out; have := HK2.out; omega
            case rel => exact ⟨(y1236), (wrap64 (x7_2 + 1)), (by first | rfl | (simp; done) | (simp [*]; done)), H', ⟨by have := HJ2.out; have := HK2.out; omega⟩, ⟨rr_ HO1238⟩, ⟨by repeat (first | (with_reducible first | exact HB.out | apply below_alloc | apply pw_below_drewN | apply below_drew1) | exact HB.out)⟩⟩
           ·rw [if_neg c23] at H
            exact absurd H (by simp)
          ·rw [if_neg c22] at H
           exact absurd H (by simp)
         ·rw [if_neg c21] at H
          exact absurd H (by simp)
        ·rw [if_neg c19] at H
         exact absurd H (by simp)
       ·rw [if_neg c18] at H
        exact absurd H (by simp)
      ·rw [if_neg c16] at H
       have c16b0 : decide (x7_2 < 81) = false := decide_eq_false c16
       clear c16
       replace H := Option.bind_eq_some_iff.mp H
       obtain ⟨t1239, A260, H⟩ := H
       replace H : (some (t1239, true)) = some (r1, r2) := H
       have A26 := Aside0.mk A260
       clear A260
       simp only [Option.some.injEq, Prod.mk.injEq] at H
       obtain ⟨rfl, rfl⟩ := H
       obtain ⟨Ao27, co27, eo27⟩ := Kd.R_slice HO_6.out
       subst eo27
       go_wp2_with (first | (refine goesL_ (some 50) rfl rfl Try.func200 (by kernel_rfl) rfl #[.slice Ao27 x6_2.length co27] rfl ll_ ?_; (with_reducible refine (spec_l5Far.calls k2 (fun k_ => some k_ = (.slice Ao27 x6_2.length co27 : Value).ownBlock) (.slice Ao27 x6_2.length co27) x6_2 t1239 w _ ?side1 ?side2 A26.out).mono ?_); (case side1 => repeat (first | (with_reducible first | exact HB.out | apply below_alloc | apply pw_below_drewN | apply below_drew1) | exact HB.out)); (case side2 => exact Kd.R_tight rfl HO_6.out); rintro e w28 ⟨v1240, rfl, ho0, hb, hkp⟩; refine ⟨_, rfl, ?_⟩; have n0_ := Aside0.mk (Kd.R_mono (ok' := fun k_ => True) ho0 (fun k_ hk_ => trivial)); have n1_ := Aside0.mk (hb); clear HB; clear HO_6; have HO1241 := n0_; have HB := n1_; clear n0_ n1_; (try clear hb); (try clear hkp); (try clear ho0)))
       go_ret2
       exact ⟨_, ee_, by (with_reducible repeat (first | apply Kd.R_alloc | apply Kd.R_drewN | apply Kd.R_drew)); exact HO1241.out, bb_ HB⟩
end Go.Proofs.Ytcbkoecanldlpaa.P

namespace Go.Proofs.Ytcbkoecanldlpaa.P
open Go.RowKit Go.Proofs.YtcbkoecanldlpaaW.PrintWords Go.Proofs.YtcbkoecanldlpaaW.PrintLast
set_option linter.unusedVariables false
set_option linter.unusedSimpArgs false

def spec_l3On.f (l0 : List Int) (a1 : Int) (a2 : Int) : Option (Bool) := if a2 = 90 then (some (decide (a1 ≥ 81))) else (if a2 ≥ 81 then (if a1 = 90 then (some true) else (if a1 < 81 then (some ((wrap64 (Int.tdiv a1 9)) == (wrap64 (a2 - 81)))) else (some false))) else (if a1 ≥ 81 then (some ((wrap64 (a1 - 81)) == (wrap64 (Int.tdiv a2 9)))) else (if 0 ≤ (wrap64 ((wrap64 ((wrap64 (Int.tdiv a1 9)) * 9)) + (wrap64 (Int.tdiv a2 9)))) then (if (wrap64 ((wrap64 ((wrap64 (Int.tdiv a1 9)) * 9)) + (wrap64 (Int.tdiv a2 9)))) < (l0.length : Int) then ((spec_l1Add.f (rd l0 (wrap64 ((wrap64 ((wrap64 (Int.tdiv a1 9)) * 9)) + (wrap64 (Int.tdiv a2 9))))) (Int.tmod a2 9)).bind fun t177 => (some ((Int.tmod a1 9) == t177))) else (none)) else (none))))
set_option maxHeartbeats 8000000 in
set_option maxRecDepth 100000 in
theorem spec_l3On.calls (A0 : Option Addr) (c0 : Nat) (l0 : List Int) (a1 : Int) (a2 : Int) (r : Bool) (w : World) (hr0 : Kd.C (Kd.int .i64) w A0 l0.length l0) (hc0 : l0.length ≤ c0) (h : spec_l3On.f l0 a1 a2 = some r) :
  Calls Try.prog 106 #[.slice A0 l0.length c0, .int .i64 a1, .int .i64 a2] w fun e w' => e = .returned (.bool r) ∧ Drawn0 w w' := by
 have HR0 := Aside0.mk hr0
 have HC0 := Aside0.mk hc0
 clear hr0 hc0
 have H : (if a2 = 90 then (some (decide (a1 ≥ 81))) else (if a2 ≥ 81 then (if a1 = 90 then (some true) else (if a1 < 81 then (some ((wrap64 (Int.tdiv a1 9)) == (wrap64 (a2 - 81)))) else (some false))) else (if a1 ≥ 81 then (some ((wrap64 (a1 - 81)) == (wrap64 (Int.tdiv a2 9)))) else (if 0 ≤ (wrap64 ((wrap64 ((wrap64 (Int.tdiv a1 9)) * 9)) + (wrap64 (Int.tdiv a2 9)))) then (if (wrap64 ((wrap64 ((wrap64 (Int.tdiv a1 9)) * 9)) + (wrap64 (Int.tdiv a2 9)))) < (l0.length : Int) then ((spec_l1Add.f (rd l0 (wrap64 ((wrap64 ((wrap64 (Int.tdiv a1 9)) * 9)) + (wrap64 (Int.tdiv a2 9))))) (Int.tmod a2 9)).bind fun t177 => (some ((Int.tmod a1 9) == t177))) else (none)) else (none))))) = some r := h
 clear h
 by_cases c4 : a2 = 90
 ·rw [if_pos c4] at H
  have c4b0 : (a2 == 90) = true := beq_iff_eq.mpr c4
  have c4b1 : (a2 != 90) = false := bne_eq_false_iff_eq.mpr c4
  clear c4
  obtain rfl := Option.some.inj H
  go_enter Try.func106, Try.ntmps106
  go_wp2
  go_ret
  exact ⟨by first | rfl | (simp; done) | (simp [*]; done), by repeat (first | exact Drawn0.refl _ | apply Drawn0.step)⟩
 ·rw [if_neg c4] at H
  have c4b0 : (a2 == 90) = false := beq_eq_false_iff_ne.mpr c4
  have c4b1 : (a2 != 90) = true := bne_iff_ne.mpr c4
  by_cases c5 : a2 ≥ 81
  ·rw [if_pos c5] at H
   have c5b0 : decide (81 ≤ a2) = true := decide_eq_true c5
   clear c5
   by_cases c6 : a1 = 90
   ·rw [if_pos c6] at H
    have c6b0 : (a1 == 90) = true := beq_iff_eq.mpr c6
    have c6b1 : (a1 != 90) = false := bne_eq_false_iff_eq.mpr c6
    clear c6
    obtain rfl := Option.some.inj H
    go_enter Try.func106, Try.ntmps106
    go_wp2
    go_ret
    exact ⟨by first | rfl | (simp; done) | (simp [*]; done), by repeat (first | exact Drawn0.refl _ | apply Drawn0.step)⟩
   ·rw [if_neg c6] at H
    have c6b0 : (a1 == 90) = false := beq_eq_false_iff_ne.mpr c6
    have c6b1 : (a1 != 90) = true := bne_iff_ne.mpr c6
    by_cases c7 : a1 < 81
    ·rw [if_pos c7] at H
     have c7b0 : decide (a1 < 81) = true := decide_eq_true c7
     clear c7
     obtain rfl := Option.some.inj H
     go_enter Try.func106, Try.ntmps106
     go_wp2
     go_ret
     exact ⟨by first | rfl | (simp; done) | (simp [*]; done), by repeat (first | exact Drawn0.refl _ | apply Drawn0.step)⟩
    ·rw [if_neg c7] at H
     have c7b0 : decide (a1 < 81) = false := decide_eq_false c7
     clear c7
     obtain rfl := Option.some.inj H
     go_enter Try.func106, Try.ntmps106
     go_wp2
     go_ret
     exact ⟨by first | rfl | (simp; done) | (simp [*]; done), by repeat (first | exact Drawn0.refl _ | apply Drawn0.step)⟩
  ·rw [if_neg c5] at H
   have c5b0 : decide (81 ≤ a2) = false := decide_eq_false c5
   clear c5
   by_cases c8 : a1 ≥ 81
   ·rw [if_pos c8] at H
    have c8b0 : decide (81 ≤ a1) = true := decide_eq_true c8
    clear c8
    obtain rfl := Option.some.inj H
    go_enter Try.func106, Try.ntmps106
    go_wp2
    go_ret
    exact ⟨by first | rfl | (simp; done) | (simp [*]; done), by repeat (first | exact Drawn0.refl _ | apply Drawn0.step)⟩
   ·rw [if_neg c8] at H
    have c8b0 : decide (81 ≤ a1) = false := decide_eq_false c8
    clear c8
    obtain ⟨ji9, hji9⟩ : ∃ j_ : Int, (wrap64 ((wrap64 ((wrap64 (Int.tdiv a1 9)) * 9)) + (wrap64 (Int.tdiv a2 9)))) = j_ := ⟨_, rfl⟩
    replace H : (if 0 ≤ (ji9) then (if (ji9) < (l0.length : Int) then ((spec_l1Add.f (rd l0 (ji9)) (Int.tmod a2 9)).bind fun t177 => (some ((Int.tmod a1 9) == t177))) else (none)) else (none)) = some r := by first | (rw [hji9] at H; exact H) | (simp only [hji9] at H ⊢; exact H)
    have hji9w : (IntKind.i64.wrap ((wrap64 ((wrap64 (Int.tdiv a1 9)) * 9)) + (wrap64 (Int.tdiv a2 9)))) = ji9 := (i64_w _).trans hji9
    by_cases c10 : 0 ≤ (ji9)
    ·rw [if_pos c10] at H
     have c10b0 : decide (0 ≤ (ji9)) = true := decide_eq_true c10
     clear c10
     by_cases c11 : (ji9) < (l0.length : Int)
     ·rw [if_pos c11] at H
      have c11b0 : decide ((ji9) < (l0.length : Int)) = true := decide_eq_true c11
      clear c11
      replace H := Option.bind_eq_some_iff.mp H
      obtain ⟨t177, A120, H⟩ := H
      replace H : (some ((Int.tmod a1 9) == t177)) = some r := H
      have A12 := Aside0.mk A120
      clear A120
      obtain rfl := Option.some.inj H
      have p176 : 0 ≤ ((ji9) : Int) := dd_
      have q176 : (ji9) < (l0.length : Int) := dd_
      obtain ⟨ad176, e176, hx176_0⟩ := Kd.at_int HR0.out (ji9) p176 q176
      cases e176
      replace p176 := eq_true p176
      replace q176 := eq_true q176
      go_enter Try.func106, Try.ntmps106
      go_wp2_with (first | (refine goesL_ (some 49) rfl rfl Try.func146 (by kernel_rfl) rfl #[.int .i64 (rd l0 (ji9)), .int .i64 (Int.tmod a2 9)] rfl (by (try simp only [List.map_toArray, List.map_cons, List.map_nil]); first | done | (simp only [hji9]; rfl) | rfl | (simp only [List.length_drop, List.length_take]; rfl)) ?_; (with_reducible refine (spec_l1Add.calls (rd l0 (ji9)) (Int.tmod a2 9) t177 _ A12.out).mono ?_); rintro e w' ⟨rfl, ⟨nd, rfl⟩⟩; refine ⟨_, rfl, ?_⟩))
      go_ret
      exact ⟨by first | rfl | (simp; done) | (simp only [← hji9] <;> (first | rfl | simp)) | (simp [*]; done), by repeat (first | exact Drawn0.refl _ | apply Drawn0.step)⟩
     ·rw [if_neg c11] at H
      exact absurd H (by simp)
    ·rw [if_neg c10] at H
     exact absurd H (by simp)
end Go.Proofs.Ytcbkoecanldlpaa.P

namespace Go.Proofs.Ytcbkoecanldlpaa.P
open Go.RowKit Go.Proofs.YtcbkoecanldlpaaW.PrintWords Go.Proofs.YtcbkoecanldlpaaW.PrintLast
set_option linter.unusedVariables false
set_option linter.unusedSimpArgs false

def spec_l3Join.l0 : Nat → List Int → Int → Int → Int → Option (Int)
 | 0, _, _, _, _ => none
 | k + 1, x0, x1, x2, x7 => if x7 < 91 then ((spec_l3On.f x0 x1 x7).bind fun t178 => (if t178 = true then ((spec_l3On.f x0 x2 x7).bind fun t179 => (if t179 = true then (some x7) else (spec_l3Join.l0 k x0 x1 x2 (wrap64 (x7 + 1))))) else (spec_l3Join.l0 k x0 x1 x2 (wrap64 (x7 + 1))))) else (some 0)
def spec_l3Join.f (k : Nat) (l0 : List Int) (a1 : Int) (a2 : Int) : Option (Int) := spec_l3Join.l0 k l0 a1 a2 0
set_option maxHeartbeats 8000000 in
set_option maxRecDepth 100000 in
theorem spec_l3Join.calls (k : Nat) (A0 : Option Addr) (c0 : Nat) (l0 : List Int) (a1 : Int) (a2 : Int) (r : Int) (w : World) (hr0 : Kd.C (Kd.int .i64) w A0 l0.length l0) (hc0 : l0.length ≤ c0) (h : spec_l3Join.f k l0 a1 a2 = some r) :
  Calls Try.prog 66 #[.slice A0 l0.length c0, .int .i64 a1, .int .i64 a2] w fun e w' => e = .returned (.int .i64 r) ∧ Drawn0 w w' := by
 have HR0 := Aside0.mk hr0
 have HC0 := Aside0.mk hc0
 clear hr0 hc0
 have H : (spec_l3Join.l0 k l0 a1 a2 0) = some r := h
 clear h
 have H' := Aside0.mk H
 clear H
 go_enter Try.func66, Try.ntmps66
 go_wp2
 go_loopg [7] k (fun kq v7 w' => ∃ (x7_1 : Int), v7 = .int .i64 x7_1 ∧ Aside0 (spec_l3Join.l0 kq l0 a1 a2 x7_1 = some r) ∧ Aside0 (kq ≤ k) ∧ Drawn0 w w')
 case atStart => exact ⟨(0), (by first | rfl | (simp; done) | (simp [*]; done)), H', ⟨Nat.le_refl _⟩, by repeat (first | exact Drawn0.refl _ | apply Drawn0.step)⟩
 case round =>
  clear H'
  try clear p2
  obtain ⟨x7_1, rfl, HA, HK1, ⟨m1, rfl⟩⟩ := hrel
  cases gk with
  | zero => exact absurd HA.out (by simp [spec_l3Join.l0])
  | succ k1 =>
   have H := HA.out
   clear HA
   simp only [spec_l3Join.l0] at H
   by_cases c4 : x7_1 < 91
   ·rw [if_pos c4] at H
    have c4b0 : decide (x7_1 < 91) = true := decide_eq_true c4
    clear c4
    replace H := Option.bind_eq_some_iff.mp H
    obtain ⟨t178, A50, H⟩ := H
    replace H : (if t178 = true then ((spec_l3On.f l0 a2 x7_1).bind fun t179 => (if t179 = true then (some x7_1) else (spec_l3Join.l0 k1 l0 a1 a2 (wrap64 (x7_1 + 1))))) else (spec_l3Join.l0 k1 l0 a1 a2 (wrap64 (x7_1 + 1)))) = some r := H
    have A5 := Aside0.mk A50
    clear A50
    by_cases c6 : t178 = true
    ·subst c6
     have H1 : ((spec_l3On.f l0 a2 x7_1).bind fun t179 => (if t179 = true then (some x7_1) else (spec_l3Join.l0 k1 l0 a1 a2 (wrap64 (x7_1 + 1))))) = some r := by rw [if_pos rfl] at H; exact H
     clear H
     have H := H1
     clear H1
     replace H := Option.bind_eq_some_iff.mp H
     obtain ⟨t179, A70, H⟩ := H
     replace H : (if t179 = true then (some x7_1) else (spec_l3Join.l0 k1 l0 a1 a2 (wrap64 (x7_1 + 1)))) = some r := H
     have A7 := Aside0.mk A70
     clear A70
     by_cases c8 : t179 = true
     ·subst c8
      have H1 : (some x7_1) = some r := by rw [if_pos rfl] at H; exact H
      clear H
      have H := H1
      clear H1
      obtain rfl := Option.some.inj H
      go_wp2_with (first | (refine goesL_ (some 15) rfl rfl Try.func106 (by kernel_rfl) rfl #[.slice A0 l0.length c0, .int .i64 a1, .int .i64 x7_1] rfl ll_ ?_; (with_reducible refine (spec_l3On.calls _ _ l0 a1 x7_1 true _ ?side1 ?side2 A5.out).mono ?_); (case side1 => exact ss_ HR0); (case side2 => exact HC0.out); rintro e w' ⟨rfl, ⟨nd, rfl⟩⟩; refine ⟨_, rfl, ?_⟩) | (go_at_call 106; (with_reducible refine (spec_l3On.calls _ _ l0 a2 x7_1 true _ ?side1 ?side2 A7.out).mono ?_); (case side1 => exact ss_ HR0); (case side2 => exact HC0.out); rintro e w' ⟨rfl, ⟨nd, rfl⟩⟩))
      go_ret
      exact ⟨by first | rfl | (simp; done) | (simp [*]; done), by repeat (first | exact Drawn0.refl _ | apply Drawn0.step)⟩
     ·replace c8 := Bool.eq_false_iff.mpr c8
      subst c8
      have H1 : (spec_l3Join.l0 k1 l0 a1 a2 (wrap64 (x7_1 + 1))) = some r := by rw [if_neg (show ¬ (false = true) by decide)] at H; exact H
      clear H
      have H := H1
      clear H1
      have H' := Aside0.mk H
      clear H
      go_wp2_with (first | (refine goesL_ (some 15) rfl rfl Try.func106 (by kernel_rfl) rfl #[.slice A0 l0.length c0, .int .i64 a1, .int .i64 x7_1] rfl ll_ ?_; (with_reducible refine (spec_l3On.calls _ _ l0 a1 x7_1 true _ ?side1 ?side2 A5.out).mono ?_); (case side1 => exact ss_ HR0); (case side2 => exact HC0.out); rintro e w' ⟨rfl, ⟨nd, rfl⟩⟩; refine ⟨_, rfl, ?_⟩) | (go_at_call 106; (with_reducible refine (spec_l3On.calls _ _ l0 a2 x7_1 false _ ?side1 ?side2 A7.out).mono ?_); (case side1 => exact ss_ HR0); (case side2 => exact HC0.out); rintro e w' ⟨rfl, ⟨nd, rfl⟩⟩))
      go_roundg k1
      case measure => have := HK1.out; omega
      case rel => exact ⟨(wrap64 (x7_1 + 1)), (by first | rfl | (simp; done) | (simp [*]; done)), H', ⟨by have := HK1.out; omega⟩, by repeat (first | exact Drawn0.refl _ | apply Drawn0.step)⟩
    ·replace c6 := Bool.eq_false_iff.mpr c6
     subst c6
     have H1 : (spec_l3Join.l0 k1 l0 a1 a2 (wrap64 (x7_1 + 1))) = some r := by rw [if_neg (show ¬ (false = true) by decide)] at H; exact H
     clear H
     have H := H1
     clear H1
     have H' := Aside0.mk H
     clear H
     go_wp2_with (first | (refine goesL_ (some 15) rfl rfl Try.func106 (by kernel_rfl) rfl #[.slice A0 l0.length c0, .int .i64 a1, .int .i64 x7_1] rfl ll_ ?_; (with_reducible refine (spec_l3On.calls _ _ l0 a1 x7_1 false _ ?side1 ?side2 A5.out).mono ?_); (case side1 => exact ss_ HR0); (case side2 => exact HC0.out); rintro e w' ⟨rfl, ⟨nd, rfl⟩⟩; refine ⟨_, rfl, ?_⟩))
     go_roundg k1
     case measure => have := HK1.out; omega
     case rel => exact ⟨(wrap64 (x7_1 + 1)), (by first | rfl | (simp; done) | (simp [*]; done)), H', ⟨by have := HK1.out; omega⟩, by repeat (first | exact Drawn0.refl _ | apply Drawn0.step)⟩
   ·rw [if_neg c4] at H
    have c4b0 : decide (x7_1 < 91) = false := decide_eq_false c4
    clear c4
    obtain rfl := Option.some.inj H
    go_wp2
    go_ret
    exact ⟨by first | rfl | (simp; done) | (simp [*]; done), by repeat (first | exact Drawn0.refl _ | apply Drawn0.step)⟩
end Go.Proofs.Ytcbkoecanldlpaa.P

namespace Go.Proofs.Ytcbkoecanldlpaa.P
open Go.RowKit Go.Proofs.YtcbkoecanldlpaaW.PrintWords Go.Proofs.YtcbkoecanldlpaaW.PrintLast
set_option linter.unusedVariables false
set_option linter.unusedSimpArgs false

def spec_l3Points.l0 : Nat → List Int → Int → List Int → Int → Option (List Int)
 | 0, _, _, _, _ => none
 | k + 1, x0, x1, x5, x6 => if x6 < 91 then ((spec_l3On.f x0 x6 x1).bind fun t188 => (if t188 = true then (if x5.length < 17592186044416 then (spec_l3Points.l0 k x0 x1 (x5 ++ [x6]) (wrap64 (x6 + 1))) else (none)) else (spec_l3Points.l0 k x0 x1 x5 (wrap64 (x6 + 1))))) else (some x5)
def spec_l3Points.f (k : Nat) (l0 : List Int) (a1 : Int) : Option (List Int) := spec_l3Points.l0 k l0 a1 (([] : List Int)) 0
set_option maxHeartbeats 8000000 in
set_option maxRecDepth 100000 in
theorem spec_l3Points.calls (k : Nat) (A0 : Option Addr) (c0 : Nat) (l0 : List Int) (a1 : Int) (r : List Int) (w : World) (hr0 : Kd.C (Kd.int .i64) w A0 l0.length l0) (hc0 : l0.length ≤ c0) (h : spec_l3Points.f k l0 a1 = some r) :
  Calls Try.prog 162 #[.slice A0 l0.length c0, .int .i64 a1] w fun e w' => ∃ v0_ : Value, e = .returned (v0_) ∧ Kd.R (Kd.int .i64) 3 w' w.heap.size (fun _ => True) v0_ r ∧ Below w.heap.size w w' := by
 have HR0 := Aside0.mk hr0
 have HC0 := Aside0.mk hc0
 clear hr0 hc0
 have HB := Aside0.mk (Below.refl w.heap.size w)
 have H : (spec_l3Points.l0 k l0 a1 (([] : List Int)) 0) = some r := h
 clear h
 obtain ⟨y185, hy185⟩ : ∃ y_ : List Int, y_ = (([] : List Int)) := ⟨_, rfl⟩
 replace H : (spec_l3Points.l0 k l0 a1 y185 0) = some r := by first | (rw [hy185]; with_reducible exact H) | (have H2_ := (Option.bind_some _ _).symm.trans H; rw [hy185]; with_reducible exact H2_) | (have H2_ := (Option.bind_some _ _).symm.trans H; with_reducible exact H2_) | with_reducible exact H | (rw [hy185]; exact H) | exact H
 have Ny185 := Aside0.mk hy185
 clear hy185
 have H' := Aside0.mk H
 clear H
 go_enter Try.func162, Try.ntmps162
 go_wp2_with (first | ((with_reducible refine gate_dst (N := 7) rfl ?_); refine Kd.R_lit (Kd.int .i64) _ 3 ?hg (N := 7) ?hd (xs := ([] : List Int)) (inner := []) (ok := fun _ => True) (okp := fun _ => True) ?hr ?hp (fun _ hk => hk) trivial (Below.refl _ _) (Nat.le_refl _) (by simp) ?_; (case hd => rfl); (case hg => rfl); (case hr => first | (go_simp; done) | (go_simp; rfl)); (case hp => exact (Reps.none _ _)); intro v186 w3 ho4 hb hg_ hnew_; clear hg_ hnew_; (first | rw [← Ny185.out] at ho4 | (simp only [Int.reduceToNat] at ho4; rw [← Ny185.out] at ho4)); have n0_ := Aside0.mk (Kd.R_lower ho4 (below_size (bb_ HB))); have n1_ := Aside0.mk (below_step (bb_ HB) hb); clear HB; have HO187 := n0_; have HB := n1_; clear n0_ n1_; clear hb ho4))
 go_loopg [5, 6] k (fun kq v5 v6 w' => ∃ (x5_1 : List Int) (x6_1 : Int), v6 = .int .i64 x6_1 ∧ Aside0 (spec_l3Points.l0 kq l0 a1 x5_1 x6_1 = some r) ∧ Aside0 (kq ≤ k) ∧ Aside0 (Kd.R (Kd.int .i64) 3 w' w.heap.size (fun _ => True) v5 x5_1) ∧ Aside0 (Below w.heap.size w w'))
 case atStart => exact ⟨(y185), (0), (by first | rfl | (simp; done) | (simp [*]; done)), H', ⟨Nat.le_refl _⟩, ⟨rr_ HO187⟩, ⟨by repeat (first | (with_reducible first | exact HB.out | apply below_alloc | apply pw_below_drewN | apply below_drew1) | exact HB.out)⟩⟩
 case round =>
  clear H'
  try clear c1
  try clear p2
  obtain ⟨x5_1, x6_1, rfl, HA, HK1, HO_5, HB⟩ := hrel
  cases gk with
  | zero => exact absurd HA.out (by simp [spec_l3Points.l0])
  | succ k1 =>
   have H := HA.out
   clear HA
   simp only [spec_l3Points.l0] at H
   by_cases c5 : x6_1 < 91
   ·rw [if_pos c5] at H
    have c5b0 : decide (x6_1 < 91) = true := decide_eq_true c5
    clear c5
    replace H := Option.bind_eq_some_iff.mp H
    obtain ⟨t188, A60, H⟩ := H
    replace H : (if t188 = true then (if x5_1.length < 17592186044416 then (spec_l3Points.l0 k1 l0 a1 (x5_1 ++ [x6_1]) (wrap64 (x6_1 + 1))) else (none)) else (spec_l3Points.l0 k1 l0 a1 x5_1 (wrap64 (x6_1 + 1)))) = some r := H
    have A6 := Aside0.mk A60
    clear A60
    by_cases c7 : t188 = true
    ·subst c7
     have H1 : (if x5_1.length < 17592186044416 then (spec_l3Points.l0 k1 l0 a1 (x5_1 ++ [x6_1]) (wrap64 (x6_1 + 1))) else (none)) = some r := by rw [if_pos rfl] at H; exact H
     clear H
     have H := H1
     clear H1
     by_cases c8 : x5_1.length < 17592186044416
     ·rw [if_pos c8] at H
      have LMc8 := Aside0.mk c8
      clear c8
      obtain ⟨y189, hy189⟩ : ∃ y_ : List Int, y_ = (x5_1 ++ [x6_1]) := ⟨_, rfl⟩
      replace H : (spec_l3Points.l0 k1 l0 a1 y189 (wrap64 (x6_1 + 1))) = some r := by first | (rw [hy189]; with_reducible exact H) | (have H2_ := (Option.bind_some _ _).symm.trans H; rw [hy189]; with_reducible exact H2_) | (have H2_ := (Option.bind_some _ _).symm.trans H; with_reducible exact H2_) | with_reducible exact H | (rw [hy189]; exact H) | exact H
      have Ny189 := Aside0.mk hy189
      clear hy189
      have H' := Aside0.mk H
      clear H
      go_wp2_with (first | (refine goesL_ (some 15) rfl rfl Try.func106 (by kernel_rfl) rfl #[.slice A0 l0.length c0, .int .i64 x6_1, .int .i64 a1] rfl ll_ ?_; (with_reducible refine (spec_l3On.calls _ _ l0 x6_1 a1 true _ ?side1 ?side2 A6.out).mono ?_); (case side1 => exact sb_ HR0 HB); (case side2 => exact HC0.out); rintro e w' ⟨rfl, ⟨nd, rfl⟩⟩; refine ⟨_, rfl, ?_⟩) | (at_builtin; refine Kd.R_append (Kd.int .i64) (w0 := w) w.heap.size rfl (.tmp 16) (.tmp 18) 23 3 (.int .i64 0) 8 rfl Try.underlying23 info3 rfl (by decide) (by omega) u5 x5_1 x6_1 [.int .i64 x6_1] (fun _ => True) (fun _ => False) rfl rfl ?aP (fun _ hk => hk.elim) ?aF ?aO ?aB ?aS ?aL ?_; (case aP => exact rfl); (case aB => exact (bb_ HB)); (case aF => exact (fun _ _ => trivial)); (case aO => exact (rr_ HO_5)); (case aS => exact (below_size (bb_ HB))); (case aL => have := LMc8.out; omega); intro v190 w9 ho hb hg hat; rw [← Ny189.out] at ho; have n0_ := Aside0.mk (hb); have n1_ := Aside0.mk (ho); clear HB; clear HO_5; have HB := n0_; have HO191 := n1_; clear n0_ n1_; clear ho hb hg hat))
      go_roundg k1
      case measure => have := HK1.out; omega
      case rel => exact ⟨(y189), (wrap64 (x6_1 + 1)), (by first | rfl | (simp; done) | (simp [*]; done)), H', ⟨by have := HK1.out; omega⟩, ⟨rr_ HO191⟩, ⟨by repeat (first | (with_reducible first | exact HB.out | apply below_alloc | apply pw_below_drewN | apply below_drew1) | exact HB.out)⟩⟩
     ·rw [if_neg c8] at H
      exact absurd H (by simp)
    ·replace c7 := Bool.eq_false_iff.mpr c7
     subst c7
     have H1 : (spec_l3Points.l0 k1 l0 a1 x5_1 (wrap64 (x6_1 + 1))) = some r := by rw [if_neg (show ¬ (false = true) by decide)] at H; exact H
     clear H
     have H := H1
     clear H1
     have H' := Aside0.mk H
     clear H
     go_wp2_with (first | (refine goesL_ (some 15) rfl rfl Try.func106 (by kernel_rfl) rfl #[.slice A0 l0.length c0, .int .i64 x6_1, .int .i64 a1] rfl ll_ ?_; (with_reducible refine (spec_l3On.calls _ _ l0 x6_1 a1 false _ ?side1 ?side2 A6.out).mono ?_); (case side1 => exact sb_ HR0 HB); (case side2 => exact HC0.out); rintro e w' ⟨rfl, ⟨nd, rfl⟩⟩; refine ⟨_, rfl, ?_⟩))
     go_roundg k1
     case measure => have := HK1.out; omega
     case rel => exact ⟨(x5_1), (wrap64 (x6_1 + 1)), (by first | rfl | (simp; done) | (simp [*]; done)), H', ⟨by have := HK1.out; omega⟩, ⟨rr_ HO_5⟩, ⟨by repeat (first | (with_reducible first | exact HB.out | apply below_alloc | apply pw_below_drewN | apply below_drew1) | exact HB.out)⟩⟩
   ·rw [if_neg c5] at H
    have c5b0 : decide (x6_1 < 91) = false := decide_eq_false c5
    clear c5
    obtain rfl := Option.some.inj H
    go_wp2
    go_ret
    exact ⟨_, ee_, by (with_reducible repeat (first | apply Kd.R_alloc | apply Kd.R_drewN | apply Kd.R_drew)); exact HO_5.out, bb_ HB⟩
end Go.Proofs.Ytcbkoecanldlpaa.P

namespace Go.Proofs.Ytcbkoecanldlpaa.P
open Go.RowKit Go.Proofs.YtcbkoecanldlpaaW.PrintWords Go.Proofs.YtcbkoecanldlpaaW.PrintLast
set_option linter.unusedVariables false
set_option linter.unusedSimpArgs false

def spec_l5Line.l0 : Nat → List Int → List Int → List Int → Int → Int → Option (Int × Bool)
 | 0, _, _, _, _, _ => none
 | k + 1, x0, x1, x8, x9, x10 => if x10 < (x8.length : Int) then (if 0 ≤ x10 then (if 0 ≤ (rd x8 x10) then (if (rd x8 x10) < (x1.length : Int) then ((spec_l3On.f x0 (rd x1 (rd x8 x10)) x9).bind fun t1261 => (if t1261 = true then (spec_l5Line.l0 k x0 x1 x8 x9 (wrap64 (x10 + 1))) else (some (0, false)))) else (none)) else (none)) else (none)) else (some (x9, true))
def spec_l5Line.f (k : Nat) (l0 : List Int) (l1 : List Int) (a2 : Int) : Option (Int × Bool) := (spec_l3Points.f k l0 a2).bind fun t1251 => (if 0 < (t1251.length : Int) then (if 0 ≤ (rd t1251 0) then (if (rd t1251 0) < (l1.length : Int) then (if 1 < (t1251.length : Int) then (if 0 ≤ (rd t1251 1) then (if (rd t1251 1) < (l1.length : Int) then ((spec_l3Join.f k l0 (rd l1 (rd t1251 0)) (rd l1 (rd t1251 1))).bind fun t1258 => (spec_l5Line.l0 k l0 l1 t1251 t1258 2)) else (none)) else (none)) else (none)) else (none)) else (none)) else (none))
set_option maxHeartbeats 8000000 in
set_option maxRecDepth 100000 in
theorem spec_l5Line.calls (k : Nat) (A0 : Option Addr) (c0 : Nat) (l0 : List Int) (A1 : Option Addr) (c1 : Nat) (l1 : List Int) (a2 : Int) (r1 : Int) (r2 : Bool) (w : World) (hr0 : Kd.C (Kd.int .i64) w A0 l0.length l0) (hc0 : l0.length ≤ c0) (hr1 : Kd.C (Kd.int .i64) w A1 l1.length l1) (hc1 : l1.length ≤ c1) (h : spec_l5Line.f k l0 l1 a2 = some (r1, r2)) :
  Calls Try.prog 160 #[.slice A0 l0.length c0, .slice A1 l1.length c1, .int .i64 a2] w fun e w' => e = .returned (.tuple #[.int .i64 r1, .bool r2]) ∧ Below w.heap.size w w' := by
 have HR0 := Aside0.mk hr0
 have HC0 := Aside0.mk hc0
 clear hr0 hc0
 have HR1 := Aside0.mk hr1
 have HC1 := Aside0.mk hc1
 clear hr1 hc1
 have HB := Aside0.mk (Below.refl w.heap.size w)
 have H : ((spec_l3Points.f k l0 a2).bind fun t1251 => (if 0 < (t1251.length : Int) then (if 0 ≤ (rd t1251 0) then (if (rd t1251 0) < (l1.length : Int) then (if 1 < (t1251.length : Int) then (if 0 ≤ (rd t1251 1) then (if (rd t1251 1) < (l1.length : Int) then ((spec_l3Join.f k l0 (rd l1 (rd t1251 0)) (rd l1 (rd t1251 1))).bind fun t1258 => (spec_l5Line.l0 k l0 l1 t1251 t1258 2)) else (none)) else (none)) else (none)) else (none)) else (none)) else (none))) = some (r1, r2) := h
 clear h
 replace H := Option.bind_eq_some_iff.mp H
 obtain ⟨t1251, A40, H⟩ := H
 replace H : (if 0 < (t1251.length : Int) then (if 0 ≤ (rd t1251 0) then (if (rd t1251 0) < (l1.length : Int) then (if 1 < (t1251.length : Int) then (if 0 ≤ (rd t1251 1) then (if (rd t1251 1) < (l1.length : Int) then ((spec_l3Join.f k l0 (rd l1 (rd t1251 0)) (rd l1 (rd t1251 1))).bind fun t1258 => (spec_l5Line.l0 k l0 l1 t1251 t1258 2)) else (none)) else (none)) else (none)) else (none)) else (none)) else (none)) = some (r1, r2) := H
 have A4 := Aside0.mk A40
 clear A40
 by_cases c5 : 0 < (t1251.length : Int)
 ·rw [if_pos c5] at H
  have c5b0 : decide (0 < (t1251.length : Int)) = true := decide_eq_true c5
  have c5b1 : decide (0 < t1251.length) = true := decide_eq_true (by omega)
  clear c5
  by_cases c6 : 0 ≤ (rd t1251 0)
  ·rw [if_pos c6] at H
   have c6b0 : decide (0 ≤ (rd t1251 0)) = true := decide_eq_true c6
   clear c6
   by_cases c7 : (rd t1251 0) < (l1.length : Int)
   ·rw [if_pos c7] at H
    have c7b0 : decide ((rd t1251 0) < (l1.length : Int)) = true := decide_eq_true c7
    clear c7
    by_cases c8 : 1 < (t1251.length : Int)
    ·rw [if_pos c8] at H
     have c8b0 : decide (1 < (t1251.length : Int)) = true := decide_eq_true c8
     have c8b1 : decide (1 < t1251.length) = true := decide_eq_true (by omega)
     clear c8
     by_cases c9 : 0 ≤ (rd t1251 1)
     ·rw [if_pos c9] at H
      have c9b0 : decide (0 ≤ (rd t1251 1)) = true := decide_eq_true c9
      clear c9
      by_cases c10 : (rd t1251 1) < (l1.length : Int)
      ·rw [if_pos c10] at H
       have c10b0 : decide ((rd t1251 1) < (l1.length : Int)) = true := decide_eq_true c10
       clear c10
       replace H := Option.bind_eq_some_iff.mp H
       obtain ⟨t1258, A110, H⟩ := H
       replace H : (spec_l5Line.l0 k l0 l1 t1251 t1258 2) = some (r1, r2) := H
       have A11 := Aside0.mk A110
       clear A110
       have H' := Aside0.mk H
       clear H
       go_enter Try.func160, Try.ntmps160
       go_wp2_with (first | (go_at_call 162; (with_reducible refine (spec_l3Points.calls k _ _ l0 a2 t1251 _ ?side1 ?side2 A4.out).mono ?_); (case side1 => exact ss_ HR0); (case side2 => exact HC0.out); rintro e w12 ⟨v1252, rfl, ho0, hb⟩; have n0_ := Aside0.mk (Kd.R_lower ho0 (below_size (bb_ HB))); have n1_ := Aside0.mk (below_step (bb_ HB) hb); clear HB; have HO1253 := n0_; have HB := n1_; clear n0_ n1_; (try clear hb); (try clear hb2); (try clear hk); (try clear hi); (try clear ho0); obtain ⟨Ao13, co13, eo13⟩ := Kd.R_slice HO1253.out; subst eo13; have p1254 : 0 ≤ (0 : Int) := (by omega); have q1254 : 0 < (t1251.length : Int) := dd_; obtain ⟨ad1254, e1254, hx1254_0⟩ := Kd.at_int (Kd.R_reads' HO1253.out).2.2 0 p1254 q1254; cases e1254; have qi1254 : (0 < t1251.length) = True := eq_true (by omega); (try rw [show ((0 : Int)).toNat = 0 from rfl] at hx1254_0); (try rw [Addr.add_zero'] at hx1254_0); replace p1254 := eq_true p1254; replace q1254 := eq_true q1254; have p1255 : 0 ≤ ((rd t1251 0) : Int) := dd_; have q1255 : (rd t1251 0) < (l1.length : Int) := dd_; obtain ⟨ad1255, e1255, hx1255_0⟩ := Kd.at_int HR1.out (rd t1251 0) p1255 q1255; cases e1255; replace hx1255_0 := hc_ HB hx1255_0; replace p1255 := eq_true p1255; replace q1255 := eq_true q1255; have p1256 : 0 ≤ (1 : Int) := (by omega); have q1256 : 1 < (t1251.length : Int) := dd_; obtain ⟨ad1256, e1256, hx1256_0⟩ := Kd.at_int (Kd.R_reads' HO1253.out).2.2 1 p1256 q1256; obtain rfl : ad1254 = ad1256 := (by injection e1256); (try simp only [show (1 : Int).toNat = 1 from rfl, Nat.reduceMul, Nat.reduceEqDiff, Go.Addr.add, ↓reduceIte] at hx1256_0); have qi1256 : (1 < t1251.length) = True := eq_true (by omega); (try rw [show ((1 : Int)).toNat = 1 from rfl] at hx1256_0); replace p1256 := eq_true p1256; replace q1256 := eq_true q1256; have p1257 : 0 ≤ ((rd t1251 1) : Int) := dd_; have q1257 : (rd t1251 1) < (l1.length : Int) := dd_; obtain ⟨ad1257, e1257, hx1257_0⟩ := Kd.at_int HR1.out (rd t1251 1) p1257 q1257; obtain rfl : ad1255 = ad1257 := (by injection e1257); replace hx1257_0 := hc_ HB hx1257_0; replace p1257 := eq_true p1257; replace q1257 := eq_true q1257) | (go_at_call 66; (with_reducible refine (spec_l3Join.calls k _ _ l0 (rd l1 (rd t1251 0)) (rd l1 (rd t1251 1)) t1258 _ ?side1 ?side2 A11.out).mono ?_); (case side1 => exact sb_ HR0 HB); (case side2 => exact HC0.out); rintro e w' ⟨rfl, ⟨nd, rfl⟩⟩; (try first | exact ⟨rfl, _, World.drewN_drewN _ _ _⟩ | exact ⟨rfl, _, Eq.trans (World.drewN_drewN _ _ _) (congrArg (World.drewN _) (Nat.add_assoc _ _ _))⟩)))
       repeat (go_quiet (first | (go_at_call 162; (with_reducible refine (spec_l3Points.calls k _ _ l0 a2 t1251 _ ?side1 ?side2 A4.out).mono ?_); (case side1 => exact ss_ HR0); (case side2 => exact HC0.out); rintro e w12 ⟨v1252, rfl, ho0, hb⟩; have n0_ := Aside0.mk (Kd.R_lower ho0 (below_size (bb_ HB))); have n1_ := Aside0.mk (below_step (bb_ HB) hb); clear HB; have HO1253 := n0_; have HB := n1_; clear n0_ n1_; (try clear hb); (try clear hb2); (try clear hk); (try clear hi); (try clear ho0); obtain ⟨Ao13, co13, eo13⟩ := Kd.R_slice HO1253.out; subst eo13; have p1254 : 0 ≤ (0 : Int) := (by omega); have q1254 : 0 < (t1251.length : Int) := dd_; obtain ⟨ad1254, e1254, hx1254_0⟩ := Kd.at_int (Kd.R_reads' HO1253.out).2.2 0 p1254 q1254; cases e1254; have qi1254 : (0 < t1251.length) = True := eq_true (by omega); (try rw [show ((0 : Int)).toNat = 0 from rfl] at hx1254_0); (try rw [Addr.add_zero'] at hx1254_0); replace p1254 := eq_true p1254; replace q1254 := eq_true q1254; have p1255 : 0 ≤ ((rd t1251 0) : Int) := dd_; have q1255 : (rd t1251 0) < (l1.length : Int) := dd_; obtain ⟨ad1255, e1255, hx1255_0⟩ := Kd.at_int HR1.out (rd t1251 0) p1255 q1255; cases e1255; replace hx1255_0 := hc_ HB hx1255_0; replace p1255 := eq_true p1255; replace q1255 := eq_true q1255; have p1256 : 0 ≤ (1 : Int) := (by omega); have q1256 : 1 < (t1251.length : Int) := dd_; obtain ⟨ad1256, e1256, hx1256_0⟩ := Kd.at_int (Kd.R_reads' HO1253.out).2.2 1 p1256 q1256; obtain rfl : ad1254 = ad1256 := (by injection e1256); (try simp only [show (1 : Int).toNat = 1 from rfl, Nat.reduceMul, Nat.reduceEqDiff, Go.Addr.add, ↓reduceIte] at hx1256_0); have qi1256 : (1 < t1251.length) = True := eq_true (by omega); (try rw [show ((1 : Int)).toNat = 1 from rfl] at hx1256_0); replace p1256 := eq_true p1256; replace q1256 := eq_true q1256; have p1257 : 0 ≤ ((rd t1251 1) : Int) := dd_; have q1257 : (rd t1251 1) < (l1.length : Int) := dd_; obtain ⟨ad1257, e1257, hx1257_0⟩ := Kd.at_int HR1.out (rd t1251 1) p1257 q1257; obtain rfl : ad1255 = ad1257 := (by injection e1257); replace hx1257_0 := hc_ HB hx1257_0; replace p1257 := eq_true p1257; replace q1257 := eq_true q1257) | (go_at_call 66; (with_reducible refine (spec_l3Join.calls k _ _ l0 (rd l1 (rd t1251 0)) (rd l1 (rd t1251 1)) t1258 _ ?side1 ?side2 A11.out).mono ?_); (case side1 => exact sb_ HR0 HB); (case side2 => exact HC0.out); rintro e w' ⟨rfl, ⟨nd, rfl⟩⟩; (try first | exact ⟨rfl, _, World.drewN_drewN _ _ _⟩ | exact ⟨rfl, _, Eq.trans (World.drewN_drewN _ _ _) (congrArg (World.drewN _) (Nat.add_assoc _ _ _))⟩))); try go_wp2_with (first | (go_at_call 162; (with_reducible refine (spec_l3Points.calls k _ _ l0 a2 t1251 _ ?side1 ?side2 A4.out).mono ?_); (case side1 => exact ss_ HR0); (case side2 => exact HC0.out); rintro e w12 ⟨v1252, rfl, ho0, hb⟩; have n0_ := Aside0.mk (Kd.R_lower ho0 (below_size (bb_ HB))); have n1_ := Aside0.mk (below_step (bb_ HB) hb); clear HB; have HO1253 := n0_; have HB := n1_; clear n0_ n1_; (try clear hb); (try clear hb2); (try clear hk); (try clear hi); (try clear ho0); obtain ⟨Ao13, co13, eo13⟩ := Kd.R_slice HO1253.out; subst eo13; have p1254 : 0 ≤ (0 : Int) := (by omega); have q1254 : 0 < (t1251.length : Int) := dd_; obtain ⟨ad1254, e1254, hx1254_0⟩ := Kd.at_int (Kd.R_reads' HO1253.out).2.2 0 p1254 q1254; cases e1254; have qi1254 : (0 < t1251.length) = True := eq_true (by omega); (try rw [show ((0 : Int)).toNat = 0 from rfl] at hx1254_0); (try rw [Addr.add_zero'] at hx1254_0); replace p1254 := eq_true p1254; replace q1254 := eq_true q1254; have p1255 : 0 ≤ ((rd t1251 0) : Int) := dd_; have q1255 : (rd t1251 0) < (l1.length : Int) := dd_; obtain ⟨ad1255, e1255, hx1255_0⟩ := Kd.at_int HR1.out (rd t1251 0) p1255 q1255; cases e1255; replace hx1255_0 := hc_ HB hx1255_0; replace p1255 := eq_true p1255; replace q1255 := eq_true q1255; have p1256 : 0 ≤ (1 : Int) := (by omega); have q1256 : 1 < (t1251.length : Int) := dd_; obtain ⟨ad1256, e1256, hx1256_0⟩ := Kd.at_int (Kd.R_reads' HO1253.out).2.2 1 p1256 q1256; obtain rfl : ad1254 = ad1256 := (by injection e1256); (try simp only [show (1 : Int).toNat = 1 from rfl, Nat.reduceMul, Nat.reduceEqDiff, Go.Addr.add, ↓reduceIte] at hx1256_0); have qi1256 : (1 < t1251.length) = True := eq_true (by omega); (try rw [show ((1 : Int)).toNat = 1 from rfl] at hx1256_0); replace p1256 := eq_true p1256; replace q1256 := eq_true q1256; have p1257 : 0 ≤ ((rd t1251 1) : Int) := dd_; have q1257 : (rd t1251 1) < (l1.length : Int) := dd_; obtain ⟨ad1257, e1257, hx1257_0⟩ := Kd.at_int HR1.out (rd t1251 1) p1257 q1257; obtain rfl : ad1255 = ad1257 := (by injection e1257); replace hx1257_0 := hc_ HB hx1257_0; replace p1257 := eq_true p1257; replace q1257 := eq_true q1257) | (go_at_call 66; (with_reducible refine (spec_l3Join.calls k _ _ l0 (rd l1 (rd t1251 0)) (rd l1 (rd t1251 1)) t1258 _ ?side1 ?side2 A11.out).mono ?_); (case side1 => exact sb_ HR0 HB); (case side2 => exact HC0.out); rintro e w' ⟨rfl, ⟨nd, rfl⟩⟩; (try first | exact ⟨rfl, _, World.drewN_drewN _ _ _⟩ | exact ⟨rfl, _, Eq.trans (World.drewN_drewN _ _ _) (congrArg (World.drewN _) (Nat.add_assoc _ _ _))⟩))))
       go_loopg [10] k (fun kq v10 w' => ∃ (x10_1 : Int), v10 = .int .i64 x10_1 ∧ Aside0 (spec_l5Line.l0 kq l0 l1 t1251 t1258 x10_1 = some (r1, r2)) ∧ Aside0 (kq ≤ k) ∧ Aside0 (Kd.R (Kd.int .i64) 3 w' w.heap.size (fun _ => True) (.slice (some ad1254) t1251.length co13) t1251) ∧ Aside0 (Below w.heap.size w w'))
       case atStart => exact ⟨(2), (by first | rfl | (simp; done) | (simp [*]; done)), H', ⟨Nat.le_refl _⟩, ⟨rr_ HO1253⟩, ⟨by repeat (first | (with_reducible first | exact HB.out | apply below_alloc | apply pw_below_drewN | apply below_drew1) | exact HB.out)⟩⟩
       case round =>
        clear H'
        try clear c1
        try clear p1
        try clear q1
        try clear hx1
        try clear qi1
        try clear p2
        try clear c5
        try clear c5b0
        try clear c5b1
        try clear c6
        try clear c6b0
        try clear c7
        try clear c7b0
        try clear c8
        try clear c8b0
        try clear c8b1
        try clear c9
        try clear c9b0
        try clear c10
        try clear c10b0
        try clear p12
        try clear q12
        try clear hx12
        try clear qi12
        try clear hx1254_0
        try clear hx1255_0
        try clear hx1256_0
        try clear hx1257_0
        try clear p1254
        try clear p1255
        try clear p1256
        try clear p1257
        try clear q1254
        try clear q1255
        try clear q1256
        try clear q1257
        obtain ⟨x10_1, rfl, HA, HK1, HO_8, HB⟩ := hrel
        cases gk with
        | zero => exact absurd HA.out (by simp [spec_l5Line.l0])
        | succ k1 =>
         have H := HA.out
         clear HA
         simp only [spec_l5Line.l0] at H
         by_cases c14 : x10_1 < (t1251.length : Int)
         ·rw [if_pos c14] at H
          have c14b0 : decide (x10_1 < (t1251.length : Int)) = true := decide_eq_true c14
          clear c14
          by_cases c15 : 0 ≤ x10_1
          ·rw [if_pos c15] at H
           have c15b0 : decide (0 ≤ x10_1) = true := decide_eq_true c15
           clear c15
           by_cases c16 : 0 ≤ (rd t1251 x10_1)
           ·rw [if_pos c16] at H
            have c16b0 : decide (0 ≤ (rd t1251 x10_1)) = true := decide_eq_true c16
            clear c16
            by_cases c17 : (rd t1251 x10_1) < (l1.length : Int)
            ·rw [if_pos c17] at H
             have c17b0 : decide ((rd t1251 x10_1) < (l1.length : Int)) = true := decide_eq_true c17
             clear c17
             replace H := Option.bind_eq_some_iff.mp H
             obtain ⟨t1261, A180, H⟩ := H
             replace H : (if t1261 = true then (spec_l5Line.l0 k1 l0 l1 t1251 t1258 (wrap64 (x10_1 + 1))) else (some (0, false))) = some (r1, r2) := H
             have A18 := Aside0.mk A180
             clear A180
             by_cases c19 : t1261 = true
             ·subst c19
              have H1 : (spec_l5Line.l0 k1 l0 l1 t1251 t1258 (wrap64 (x10_1 + 1))) = some (r1, r2) := by rw [if_pos rfl] at H; exact H
              clear H
              have H := H1
              clear H1
              have H' := Aside0.mk H
              clear H
              have p1259 : 0 ≤ (x10_1 : Int) := dd_
              have q1259 : x10_1 < (t1251.length : Int) := dd_
              obtain ⟨ad1259, e1259, hx1259_0⟩ := Kd.at_int (Kd.R_reads' HO_8.out).2.2 x10_1 p1259 q1259
              obtain rfl : ad1254 = ad1259 := (by injection e1259)
              replace p1259 := eq_true p1259
              replace q1259 := eq_true q1259
              have p1260 : 0 ≤ ((rd t1251 x10_1) : Int) := dd_
              have q1260 : (rd t1251 x10_1) < (l1.length : Int) := dd_
              obtain ⟨ad1260, e1260, hx1260_0⟩ := Kd.at_int HR1.out (rd t1251 x10_1) p1260 q1260
              obtain rfl : ad1255 = ad1260 := (by injection e1260)
              replace hx1260_0 := hc_ HB hx1260_0
              replace p1260 := eq_true p1260
              replace q1260 := eq_true q1260
              go_wp2_with (first | (go_at_call 106; (with_reducible refine (spec_l3On.calls _ _ l0 (rd l1 (rd t1251 x10_1)) t1258 true _ ?side1 ?side2 A18.out).mono ?_); (case side1 => exact sb_ HR0 HB); (case side2 => exact HC0.out); rintro e w' ⟨rfl, ⟨nd, rfl⟩⟩; (try first | exact ⟨rfl, _, World.drewN_drewN _ _ _⟩ | exact ⟨rfl, _, Eq.trans (World.drewN_drewN _ _ _) (congrArg (World.drewN _) (Nat.add_assoc _ _ _))⟩)))
              repeat (go_quiet (first | (go_at_call 106; (with_reducible refine (spec_l3On.calls _ _ l0 (rd l1 (rd t1251 x10_1)) t1258 true _ ?side1 ?side2 A18.out).mono ?_); (case side1 => exact sb_ HR0 HB); (case side2 => exact HC0.out); rintro e w' ⟨rfl, ⟨nd, rfl⟩⟩; (try first | exact ⟨rfl, _, World.drewN_drewN _ _ _⟩ | exact ⟨rfl, _, Eq.trans (World.drewN_drewN _ _ _) (congrArg (World.drewN _) (Nat.add_assoc _ _ _))⟩))); try go_wp2_with (first | (go_at_call 106; (with_reducible refine (spec_l3On.calls _ _ l0 (rd l1 (rd t1251 x10_1)) t1258 true _ ?side1 ?side2 A18.out).mono ?_); (case side1 => exact sb_ HR0 HB); (case side2 => exact HC0.out); rintro e w' ⟨rfl, ⟨nd, rfl⟩⟩; (try first | exact ⟨rfl, _, World.drewN_drewN _ _ _⟩ | exact ⟨rfl, _, Eq.trans (World.drewN_drewN _ _ _) (congrArg (World.drewN _) (Nat.add_assoc _ _ _))⟩))))
              go_roundg k1
              case measure => have := HK1.out; omega
              case rel => exact ⟨(wrap64 (x10_1 + 1)), (by first | rfl | (simp; done) | (simp [*]; done)), H', ⟨by have := HK1.out; omega⟩, ⟨rr_ HO_8⟩, ⟨by repeat (first | (with_reducible first | exact HB.out | apply below_alloc | apply pw_below_drewN | apply below_drew1) | exact HB.out)⟩⟩
             ·replace c19 := Bool.eq_false_iff.mpr c19
              subst c19
              have H1 : (some (0, false)) = some (r1, r2) := by rw [if_neg (show ¬ (false = true) by decide)] at H; exact H
              clear H
              have H := H1
              clear H1
              simp only [Option.some.injEq, Prod.mk.injEq] at H
              obtain ⟨rfl, rfl⟩ := H
              have p1259 : 0 ≤ (x10_1 : Int) := dd_
              have q1259 : x10_1 < (t1251.length : Int) := dd_
              obtain ⟨ad1259, e1259, hx1259_0⟩ := Kd.at_int (Kd.R_reads' HO_8.out).2.2 x10_1 p1259 q1259
              obtain rfl : ad1254 = ad1259 := (by injection e1259)
              replace p1259 := eq_true p1259
              replace q1259 := eq_true q1259
              have p1260 : 0 ≤ ((rd t1251 x10_1) : Int) := dd_
              have q1260 : (rd t1251 x10_1) < (l1.length : Int) := dd_
              obtain ⟨ad1260, e1260, hx1260_0⟩ := Kd.at_int HR1.out (rd t1251 x10_1) p1260 q1260
              obtain rfl : ad1255 = ad1260 := (by injection e1260)
              replace hx1260_0 := hc_ HB hx1260_0
              replace p1260 := eq_true p1260
              replace q1260 := eq_true q1260
              go_wp2_with (first | (go_at_call 106; (with_reducible refine (spec_l3On.calls _ _ l0 (rd l1 (rd t1251 x10_1)) t1258 false _ ?side1 ?side2 A18.out).mono ?_); (case side1 => exact sb_ HR0 HB); (case side2 => exact HC0.out); rintro e w' ⟨rfl, ⟨nd, rfl⟩⟩; (try first | exact ⟨rfl, _, World.drewN_drewN _ _ _⟩ | exact ⟨rfl, _, Eq.trans (World.drewN_drewN _ _ _) (congrArg (World.drewN _) (Nat.add_assoc _ _ _))⟩)))
              repeat (go_quiet (first | (go_at_call 106; (with_reducible refine (spec_l3On.calls _ _ l0 (rd l1 (rd t1251 x10_1)) t1258 false _ ?side1 ?side2 A18.out).mono ?_); (case side1 => exact sb_ HR0 HB); (case side2 => exact HC0.out); rintro e w' ⟨rfl, ⟨nd, rfl⟩⟩; (try first | exact ⟨rfl, _, World.drewN_drewN _ _ _⟩ | exact ⟨rfl, _, Eq.trans (World.drewN_drewN _ _ _) (congrArg (World.drewN _) (Nat.add_assoc _ _ _))⟩))); try go_wp2_with (first | (go_at_call 106; (with_reducible refine (spec_l3On.calls _ _ l0 (rd l1 (rd t1251 x10_1)) t1258 false _ ?side1 ?side2 A18.out).mono ?_); (case side1 => exact sb_ HR0 HB); (case side2 => exact HC0.out); rintro e w' ⟨rfl, ⟨nd, rfl⟩⟩; (try first | exact ⟨rfl, _, World.drewN_drewN _ _ _⟩ | exact ⟨rfl, _, Eq.trans (World.drewN_drewN _ _ _) (congrArg (World.drewN _) (Nat.add_assoc _ _ _))⟩))))
              go_ret2
              exact ⟨ee_, bb_ HB⟩
            ·rw [if_neg c17] at H
             exact absurd H (by simp)
           ·rw [if_neg c16] at H
            exact absurd H (by simp)
          ·rw [if_neg c15] at H
           exact absurd H (by simp)
         ·rw [if_neg c14] at H
          have c14b0 : decide (x10_1 < (t1251.length : Int)) = false := decide_eq_false c14
          clear c14
          simp only [Option.some.injEq, Prod.mk.injEq] at H
          obtain ⟨rfl, rfl⟩ := H
          go_wp2
          repeat (go_quiet (fail); try go_wp2)
          go_ret2
          exact ⟨ee_, bb_ HB⟩
      ·rw [if_neg c10] at H
       exact absurd H (by simp)
     ·rw [if_neg c9] at H
      exact absurd H (by simp)
    ·rw [if_neg c8] at H
     exact absurd H (by simp)
   ·rw [if_neg c7] at H
    exact absurd H (by simp)
  ·rw [if_neg c6] at H
   exact absurd H (by simp)
 ·rw [if_neg c5] at H
  exact absurd H (by simp)
end Go.Proofs.Ytcbkoecanldlpaa.P

namespace Go.Proofs.Ytcbkoecanldlpaa.P
open Go.RowKit Go.Proofs.YtcbkoecanldlpaaW.PrintWords Go.Proofs.YtcbkoecanldlpaaW.PrintLast
set_option linter.unusedVariables false
set_option linter.unusedSimpArgs false

def spec_l3In.f (a0 : Int) : Option (Bool) := (spec_l6In.f a0 0 90).bind fun t180 => (some t180)
set_option maxHeartbeats 8000000 in
set_option maxRecDepth 100000 in
theorem spec_l3In.calls (a0 : Int) (r : Bool) (w : World) (h : spec_l3In.f a0 = some r) :
  Calls Try.prog 83 #[.int .i64 a0] w fun e w' => e = .returned (.bool r) ∧ Drawn0 w w' := by
 have H : ((spec_l6In.f a0 0 90).bind fun t180 => (some t180)) = some r := h
 clear h
 replace H := Option.bind_eq_some_iff.mp H
 obtain ⟨t180, A20, H⟩ := H
 replace H : (some t180) = some r := H
 have A2 := Aside0.mk A20
 clear A20
 obtain rfl := Option.some.inj H
 go_enter Try.func83, Try.ntmps83
 go_wp2_with (first | (refine goesL_ (some 4) rfl rfl Try.func87 (by kernel_rfl) rfl #[.int .i64 a0, .int .i64 0, .int .i64 90] rfl ll_ ?_; (with_reducible refine (spec_l6In.calls a0 0 90 t180 _ A2.out).mono ?_); rintro e w' ⟨rfl, ⟨nd, rfl⟩⟩; refine ⟨_, rfl, ?_⟩))
 go_ret
 exact ⟨by first | rfl | (simp; done) | (simp [*]; done), by repeat (first | exact Drawn0.refl _ | apply Drawn0.step)⟩
end Go.Proofs.Ytcbkoecanldlpaa.P

namespace Go.Proofs.Ytcbkoecanldlpaa.P
open Go.RowKit Go.Proofs.YtcbkoecanldlpaaW.PrintWords Go.Proofs.YtcbkoecanldlpaaW.PrintLast
set_option linter.unusedVariables false
set_option linter.unusedSimpArgs false

def spec_l5Perm.l0 : Nat → List Int → List Bool → Int → Option (Bool)
 | 0, _, _, _ => none
 | k + 1, x0, x3, x4 => if x4 < (x0.length : Int) then (if 0 ≤ x4 then ((spec_l3In.f (rd x0 x4)).bind fun t1246 => (if t1246 = true then (if 0 ≤ (rd x0 x4) then (if (rd x0 x4) < (x3.length : Int) then (if rdOf false x3 (rd x0 x4) = true then (some false) else (spec_l5Perm.l0 k x0 (x3.set ((rd x0 x4) : Int).toNat true) (wrap64 (x4 + 1)))) else (none)) else (none)) else (some false))) else (none)) else (some ((x0.length : Int) == 91))
def spec_l5Perm.f (k : Nat) (l0 : List Int) : Option (Bool) := if 91 ≤ 281474976710656 then (spec_l5Perm.l0 k l0 (List.replicate 91 false) 0) else (none)
set_option maxHeartbeats 8000000 in
set_option maxRecDepth 100000 in
theorem spec_l5Perm.calls (k : Nat) (A0 : Option Addr) (c0 : Nat) (l0 : List Int) (r : Bool) (w : World) (hr0 : Kd.C (Kd.int .i64) w A0 l0.length l0) (hc0 : l0.length ≤ c0) (h : spec_l5Perm.f k l0 = some r) :
  Calls Try.prog 159 #[.slice A0 l0.length c0] w fun e w' => e = .returned (.bool r) ∧ Below w.heap.size w w' := by
 have HR0 := Aside0.mk hr0
 have HC0 := Aside0.mk hc0
 clear hr0 hc0
 have HB := Aside0.mk (Below.refl w.heap.size w)
 have H : (if 91 ≤ 281474976710656 then (spec_l5Perm.l0 k l0 (List.replicate 91 false) 0) else (none)) = some r := h
 clear h
 by_cases c2 : 91 ≤ 281474976710656
 ·rw [if_pos c2] at H
  have c2b0 := eq_true c2
  have c2b1 : decide (91 ≤ 281474976710656) = true := decide_eq_true c2
  clear c2
  obtain ⟨y1242, hy1242⟩ : ∃ y_ : List Bool, y_ = (List.replicate 91 false) := ⟨_, rfl⟩
  replace H : (spec_l5Perm.l0 k l0 y1242 0) = some r := by first | (rw [hy1242]; with_reducible exact H) | (have H2_ := (Option.bind_some _ _).symm.trans H; rw [hy1242]; with_reducible exact H2_) | (have H2_ := (Option.bind_some _ _).symm.trans H; with_reducible exact H2_) | with_reducible exact H | (rw [hy1242]; exact H) | exact H
  have Ny1242 := Aside0.mk hy1242
  clear hy1242
  have H' := Aside0.mk H
  clear H
  go_enter Try.func159, Try.ntmps159
  go_wp2_with (first | ((with_reducible refine gate_dst (N := 5) rfl ?_); refine Kd.R_make Kd.bool _ 4 rfl (N := 5) rfl 34 _ _ rfl 91 rfl rfl Try.underlying34 (.bool false) 1 info4 rfl (by decide) (by omega) false (ok := fun _ => True) (okp := fun _ => True) rfl (fun _ hk => hk) trivial (by omega) (by omega) (Below.refl _ _) (Nat.le_refl _) ?_; intro v1243 w3 ho4 hb hg_ hnew_; clear hg_ hnew_; (first | rw [← Ny1242.out] at ho4 | (simp only [Int.reduceToNat] at ho4; rw [← Ny1242.out] at ho4)); have n0_ := Aside0.mk (Kd.R_lower ho4 (below_size (bb_ HB))); have n1_ := Aside0.mk (below_step (bb_ HB) hb); clear HB; have HO1244 := n0_; have HB := n1_; clear n0_ n1_; clear hb ho4))
  go_loopg [4] k (fun kq v4 w' => ∃ (x3_1 : List Bool) (x4_1 : Int), v4 = .int .i64 x4_1 ∧ Aside0 (spec_l5Perm.l0 kq l0 x3_1 x4_1 = some r) ∧ Aside0 (kq ≤ k) ∧ Aside0 (Kd.R Kd.bool 4 w' w.heap.size (fun _ => True) v1243 x3_1) ∧ Aside0 (Below w.heap.size w w'))
  case atStart => exact ⟨(y1242), (0), (by first | rfl | (simp; done) | (simp [*]; done)), H', ⟨Nat.le_refl _⟩, ⟨rr_ HO1244⟩, ⟨by repeat (first | (with_reducible first | exact HB.out | apply below_alloc | apply pw_below_drewN | apply below_drew1) | exact HB.out)⟩⟩
  case round =>
   clear H'
   try clear c1
   try clear c2
   try clear c2b0
   try clear c2b1
   try clear p2
   obtain ⟨x3_1, x4_1, rfl, HA, HK1, HO_3, HB⟩ := hrel
   cases gk with
   | zero => exact absurd HA.out (by simp [spec_l5Perm.l0])
   | succ k1 =>
    have H := HA.out
    clear HA
    simp only [spec_l5Perm.l0] at H
    by_cases c5 : x4_1 < (l0.length : Int)
    ·rw [if_pos c5] at H
     have c5b0 : decide (x4_1 < (l0.length : Int)) = true := decide_eq_true c5
     clear c5
     by_cases c6 : 0 ≤ x4_1
     ·rw [if_pos c6] at H
      have c6b0 : decide (0 ≤ x4_1) = true := decide_eq_true c6
      clear c6
      replace H := Option.bind_eq_some_iff.mp H
      obtain ⟨t1246, A70, H⟩ := H
      replace H : (if t1246 = true then (if 0 ≤ (rd l0 x4_1) then (if (rd l0 x4_1) < (x3_1.length : Int) then (if rdOf false x3_1 (rd l0 x4_1) = true then (some false) else (spec_l5Perm.l0 k1 l0 (x3_1.set ((rd l0 x4_1) : Int).toNat true) (wrap64 (x4_1 + 1)))) else (none)) else (none)) else (some false)) = some r := H
      have A7 := Aside0.mk A70
      clear A70
      by_cases c8 : t1246 = true
      ·subst c8
       have H1 : (if 0 ≤ (rd l0 x4_1) then (if (rd l0 x4_1) < (x3_1.length : Int) then (if rdOf false x3_1 (rd l0 x4_1) = true then (some false) else (spec_l5Perm.l0 k1 l0 (x3_1.set ((rd l0 x4_1) : Int).toNat true) (wrap64 (x4_1 + 1)))) else (none)) else (none)) = some r := by rw [if_pos rfl] at H; exact H
       clear H
       have H := H1
       clear H1
       by_cases c9 : 0 ≤ (rd l0 x4_1)
       ·rw [if_pos c9] at H
        have c9b0 : decide (0 ≤ (rd l0 x4_1)) = true := decide_eq_true c9
        clear c9
        by_cases c10 : (rd l0 x4_1) < (x3_1.length : Int)
        ·rw [if_pos c10] at H
         have c10b0 : decide ((rd l0 x4_1) < (x3_1.length : Int)) = true := decide_eq_true c10
         clear c10
         obtain ⟨bq11, hbq11⟩ : ∃ b_ : Bool, b_ = (rdOf false x3_1 (rd l0 x4_1)) := ⟨_, rfl⟩
         replace H : (if bq11 = true then (some false) else (spec_l5Perm.l0 k1 l0 (x3_1.set ((rd l0 x4_1) : Int).toNat true) (wrap64 (x4_1 + 1)))) = some r := by rw [← hbq11] at H; exact H
         have Nbq11 := Aside0.mk hbq11
         clear hbq11
         by_cases c12 : bq11 = true
         ·subst c12
          have H1 : (some false) = some r := by rw [if_pos rfl] at H; exact H
          clear H
          have H := H1
          clear H1
          obtain rfl := Option.some.inj H
          have p1245 : 0 ≤ (x4_1 : Int) := dd_
          have q1245 : x4_1 < (l0.length : Int) := dd_
          obtain ⟨ad1245, e1245, hx1245_0⟩ := Kd.at_int HR0.out x4_1 p1245 q1245
          cases e1245
          replace hx1245_0 := hc_ HB hx1245_0
          replace p1245 := eq_true p1245
          replace q1245 := eq_true q1245
          go_wp2_with (first | (refine goesL_ (some 16) rfl rfl Try.func83 (by kernel_rfl) rfl #[.int .i64 (rd l0 x4_1)] rfl ll_ ?_; (with_reducible refine (spec_l3In.calls (rd l0 x4_1) true _ A7.out).mono ?_); rintro e w' ⟨rfl, ⟨nd, rfl⟩⟩; refine ⟨_, rfl, ?_⟩; have p1247 : 0 ≤ (x4_1 : Int) := dd_; have q1247 : x4_1 < (l0.length : Int) := dd_; obtain ⟨ad1247, e1247, hx1247_0⟩ := Kd.at_int HR0.out x4_1 p1247 q1247; obtain rfl : ad1245 = ad1247 := (by injection e1247); replace hx1247_0 := hc_ HB hx1247_0; replace p1247 := eq_true p1247; replace q1247 := eq_true q1247; obtain ⟨Ao13, co13, eo13⟩ := Kd.R_slice HO_3.out; subst eo13; have p1248 : 0 ≤ ((rd l0 x4_1) : Int) := dd_; have q1248 : (rd l0 x4_1) < (x3_1.length : Int) := dd_; obtain ⟨ad1248, e1248, hx1248_0⟩ := Kd.at_bool (Kd.R_reads' HO_3.out).2.2 (rd l0 x4_1) p1248 q1248; (try rw [← Nbq11.out] at hx1248_0); cases e1248; replace p1248 := eq_true p1248; replace q1248 := eq_true q1248))
          go_ret
          exact ⟨ee_, bb_ HB⟩
         ·replace c12 := Bool.eq_false_iff.mpr c12
          subst c12
          have H1 : (spec_l5Perm.l0 k1 l0 (x3_1.set ((rd l0 x4_1) : Int).toNat true) (wrap64 (x4_1 + 1))) = some r := by rw [if_neg (show ¬ (false = true) by decide)] at H; exact H
          clear H
          have H := H1
          clear H1
          obtain ⟨y1250, hy1250⟩ : ∃ y_ : List Bool, y_ = (x3_1.set ((rd l0 x4_1) : Int).toNat true) := ⟨_, rfl⟩
          replace H : (spec_l5Perm.l0 k1 l0 y1250 (wrap64 (x4_1 + 1))) = some r := by first | (rw [hy1250]; with_reducible exact H) | (have H2_ := (Option.bind_some _ _).symm.trans H; rw [hy1250]; with_reducible exact H2_) | (have H2_ := (Option.bind_some _ _).symm.trans H; with_reducible exact H2_) | with_reducible exact H | (rw [hy1250]; exact H) | exact H
          have Ny1250 := Aside0.mk hy1250
          clear hy1250
          have H' := Aside0.mk H
          clear H
          have p1245 : 0 ≤ (x4_1 : Int) := dd_
          have q1245 : x4_1 < (l0.length : Int) := dd_
          obtain ⟨ad1245, e1245, hx1245_0⟩ := Kd.at_int HR0.out x4_1 p1245 q1245
          cases e1245
          replace hx1245_0 := hc_ HB hx1245_0
          replace p1245 := eq_true p1245
          replace q1245 := eq_true q1245
          go_wp2_with (first | (refine goesL_ (some 16) rfl rfl Try.func83 (by kernel_rfl) rfl #[.int .i64 (rd l0 x4_1)] rfl ll_ ?_; (with_reducible refine (spec_l3In.calls (rd l0 x4_1) true _ A7.out).mono ?_); rintro e w' ⟨rfl, ⟨nd, rfl⟩⟩; refine ⟨_, rfl, ?_⟩; (try (rw [dself_ wr]; generalize hq_ : World.drewN wr _ = wr; have n0_ : Aside0 (Kd.R Kd.bool 4 wr w.heap.size (fun _ => True) v1243 x3_1) := ⟨by rw [← hq_]; exact (rr_ HO_3)⟩; have n1_ : Aside0 (Below w.heap.size w wr) := ⟨by rw [← hq_]; exact (bb_ HB)⟩; clear HO_3 HB hq_; have HO_3 := n0_; have HB := n1_; clear n0_ n1_)); have p1247 : 0 ≤ (x4_1 : Int) := dd_; have q1247 : x4_1 < (l0.length : Int) := dd_; obtain ⟨ad1247, e1247, hx1247_0⟩ := Kd.at_int HR0.out x4_1 p1247 q1247; obtain rfl : ad1245 = ad1247 := (by injection e1247); replace hx1247_0 := hc_ HB hx1247_0; replace p1247 := eq_true p1247; replace q1247 := eq_true q1247; obtain ⟨Ao15, co15, eo15⟩ := Kd.R_slice HO_3.out; subst eo15; have p1248 : 0 ≤ ((rd l0 x4_1) : Int) := dd_; have q1248 : (rd l0 x4_1) < (x3_1.length : Int) := dd_; obtain ⟨ad1248, e1248, hx1248_0⟩ := Kd.at_bool (Kd.R_reads' HO_3.out).2.2 (rd l0 x4_1) p1248 q1248; (try rw [← Nbq11.out] at hx1248_0); cases e1248; replace p1248 := eq_true p1248; replace q1248 := eq_true q1248; have p1249 : 0 ≤ (x4_1 : Int) := dd_; have q1249 : x4_1 < (l0.length : Int) := dd_; obtain ⟨ad1249, e1249, hx1249_0⟩ := Kd.at_int HR0.out x4_1 p1249 q1249; obtain rfl : ad1245 = ad1249 := (by injection e1249); replace hx1249_0 := hc_ HB hx1249_0; replace p1249 := eq_true p1249; replace q1249 := eq_true q1249; have p14 : 0 ≤ ((rd l0 x4_1) : Int) := dd_; have q14 : ((rd l0 x4_1) : Int) < ((x3_1.length : Int) : Int) := dd_; obtain ⟨go14, co14, eo14, gb14, gl14, cl14, HG14⟩ := Kd.R_form HO_3.out (by omega); (first | cases eo14 | (injection eo14 with ea_ en_ ec_; (first | subst ea_ | (injection ea_ with ea_; subst ea_)); subst ec_; clear en_)); have GB14 := Aside0.mk gb14; have GG14 := Aside0.mk HG14; clear gb14 gl14 HG14; (first | simp only [add_plain] at hx1248_0 | skip); obtain ⟨hx14_0, hf14_0⟩ := Kd.R_celln false HO_3.out ((rd l0 x4_1) : Int) p14 q14; replace p14 := eq_true p14; replace q14 := eq_true q14; obtain ⟨hy16_, hz16_⟩ := Kd.R_celln false HO_3.out ((rd l0 x4_1) : Int) (dd_) (dd_); have HP16 := Kd.R_putg HO_3.out ((rd l0 x4_1) : Int) true) | ((with_reducible refine gate_store (t := 4) (p := 32) rfl ?_); refine store_event (t := 4) (p := 32) (v := ?vo_w17) (w1 := (wr.setCell ⟨go14, ((rd l0 x4_1) : Int).toNat, none⟩ (.bool true))) ?hg ?ho ?hn ?hr ?_; (case ho => rfl); (case hg => rfl); (case hn => rfl); (case hr => first | (go_simp; done) | (go_simp; rfl)); intro w17 hw; have hg : wr.grownBy w17 (some go14) := (by rw [hw]; exact HP16.2); have hp_ : Kd.R Kd.bool 4 w17 w.heap.size (fun _ => True) (.slice (some ⟨go14, 0, none⟩) x3_1.length co15) y1250 := (by rw [hw, Ny1250.out]; exact HP16.1); clear HP16; have n0_ := Aside0.mk (hp_); have n1_ := Aside0.mk ((by rw [hw]; exact below_set (HB.out) GB14.out : Below w.heap.size w w17)); clear HO_3; clear HB; have HO_3 := n0_; have HB := n1_; clear n0_ n1_; clear hg hw hp_))
          go_roundg k1
          case measure => have := HK1.out; omega
          case rel => exact ⟨(y1250), (wrap64 (x4_1 + 1)), (by first | rfl | (simp; done) | (simp [*]; done)), H', ⟨by have := HK1.out; omega⟩, ⟨rr_ HO_3⟩, ⟨by repeat (first | (with_reducible first | exact HB.out | apply below_alloc | apply pw_below_drewN | apply below_drew1) | exact HB.out)⟩⟩
        ·rw [if_neg c10] at H
         exact absurd H (by simp)
       ·rw [if_neg c9] at H
        exact absurd H (by simp)
      ·replace c8 := Bool.eq_false_iff.mpr c8
       subst c8
       have H1 : (some false) = some r := by rw [if_neg (show ¬ (false = true) by decide)] at H; exact H
       clear H
       have H := H1
       clear H1
       obtain rfl := Option.some.inj H
       have p1245 : 0 ≤ (x4_1 : Int) := dd_
       have q1245 : x4_1 < (l0.length : Int) := dd_
       obtain ⟨ad1245, e1245, hx1245_0⟩ := Kd.at_int HR0.out x4_1 p1245 q1245
       cases e1245
       replace hx1245_0 := hc_ HB hx1245_0
       replace p1245 := eq_true p1245
       replace q1245 := eq_true q1245
       go_wp2_with (first | (refine goesL_ (some 16) rfl rfl Try.func83 (by kernel_rfl) rfl #[.int .i64 (rd l0 x4_1)] rfl ll_ ?_; (with_reducible refine (spec_l3In.calls (rd l0 x4_1) false _ A7.out).mono ?_); rintro e w' ⟨rfl, ⟨nd, rfl⟩⟩; refine ⟨_, rfl, ?_⟩))
       go_ret
       exact ⟨ee_, bb_ HB⟩
     ·rw [if_neg c6] at H
      exact absurd H (by simp)
    ·rw [if_neg c5] at H
     have c5b0 : decide (x4_1 < (l0.length : Int)) = false := decide_eq_false c5
     clear c5
     obtain rfl := Option.some.inj H
     go_wp2
     go_ret
     exact ⟨ee_, bb_ HB⟩
 ·rw [if_neg c2] at H
  exact absurd H (by simp)
end Go.Proofs.Ytcbkoecanldlpaa.P

namespace Go.Proofs.Ytcbkoecanldlpaa.P
open Go.RowKit Go.Proofs.YtcbkoecanldlpaaW.PrintWords Go.Proofs.YtcbkoecanldlpaaW.PrintLast
set_option linter.unusedVariables false
set_option linter.unusedSimpArgs false

def spec_l5In.l0 : Nat → List Int → List Int → Int → Option (Bool)
 | 0, _, _, _ => none
 | k + 1, x0, x1, x5 => if x5 < 91 then ((spec_l5Line.f k x0 x1 x5).bind fun bt1263 => (if bt1263.2 = true then (spec_l5In.l0 k x0 x1 (wrap64 (x5 + 1))) else (some false))) else (some true)
def spec_l5In.f (k : Nat) (l0 : List Int) (l1 : List Int) : Option (Bool) := (spec_l5Perm.f k l1).bind fun t1262 => (if t1262 = true then (spec_l5In.l0 k l0 l1 0) else (some false))
set_option maxHeartbeats 8000000 in
set_option maxRecDepth 100000 in
theorem spec_l5In.calls (k : Nat) (A0 : Option Addr) (c0 : Nat) (l0 : List Int) (A1 : Option Addr) (c1 : Nat) (l1 : List Int) (r : Bool) (w : World) (hr0 : Kd.C (Kd.int .i64) w A0 l0.length l0) (hc0 : l0.length ≤ c0) (hr1 : Kd.C (Kd.int .i64) w A1 l1.length l1) (hc1 : l1.length ≤ c1) (h : spec_l5In.f k l0 l1 = some r) :
  Calls Try.prog 109 #[.slice A0 l0.length c0, .slice A1 l1.length c1] w fun e w' => e = .returned (.bool r) ∧ Below w.heap.size w w' := by
 have HR0 := Aside0.mk hr0
 have HC0 := Aside0.mk hc0
 clear hr0 hc0
 have HR1 := Aside0.mk hr1
 have HC1 := Aside0.mk hc1
 clear hr1 hc1
 have HB := Aside0.mk (Below.refl w.heap.size w)
 have H : ((spec_l5Perm.f k l1).bind fun t1262 => (if t1262 = true then (spec_l5In.l0 k l0 l1 0) else (some false))) = some r := h
 clear h
 replace H := Option.bind_eq_some_iff.mp H
 obtain ⟨t1262, A30, H⟩ := H
 replace H : (if t1262 = true then (spec_l5In.l0 k l0 l1 0) else (some false)) = some r := H
 have A3 := Aside0.mk A30
 clear A30
 by_cases c4 : t1262 = true
 ·subst c4
  have H1 : (spec_l5In.l0 k l0 l1 0) = some r := by rw [if_pos rfl] at H; exact H
  clear H
  have H := H1
  clear H1
  have H' := Aside0.mk H
  clear H
  go_enter Try.func109, Try.ntmps109
  go_wp2_with (first | (refine goesL_ (some 9) rfl rfl Try.func159 (by kernel_rfl) rfl #[.slice A1 l1.length c1] rfl ll_ ?_; (with_reducible refine (spec_l5Perm.calls k _ _ l1 true _ ?side1 ?side2 A3.out).mono ?_); (case side1 => exact ss_ HR1); (case side2 => exact HC1.out); rintro e w5 ⟨rfl, hb⟩; refine ⟨_, rfl, ?_⟩; have n0_ := Aside0.mk (below_step (bb_ HB) hb); clear HB; have HB := n0_; clear n0_; (try clear hb); (try clear hb2); (try clear hk); (try clear hi)))
  go_loopg [5] k (fun kq v5 w' => ∃ (x5_1 : Int), v5 = .int .i64 x5_1 ∧ Aside0 (spec_l5In.l0 kq l0 l1 x5_1 = some r) ∧ Aside0 (kq ≤ k) ∧ Aside0 (Below w.heap.size w w'))
  case atStart => exact ⟨(0), (by first | rfl | (simp; done) | (simp [*]; done)), H', ⟨Nat.le_refl _⟩, ⟨by repeat (first | (with_reducible first | exact HB.out | apply below_alloc | apply pw_below_drewN | apply below_drew1) | exact HB.out)⟩⟩
  case round =>
   clear H'
   try clear c1
   try clear p2
   try clear c4
   obtain ⟨x5_1, rfl, HA, HK1, HB⟩ := hrel
   cases gk with
   | zero => exact absurd HA.out (by simp [spec_l5In.l0])
   | succ k1 =>
    have H := HA.out
    clear HA
    simp only [spec_l5In.l0] at H
    by_cases c6 : x5_1 < 91
    ·rw [if_pos c6] at H
     have c6b0 : decide (x5_1 < 91) = true := decide_eq_true c6
     clear c6
     replace H := Option.bind_eq_some_iff.mp H
     obtain ⟨⟨t1263, t1264⟩, A70, H⟩ := H
     replace H : (if t1264 = true then (spec_l5In.l0 k1 l0 l1 (wrap64 (x5_1 + 1))) else (some false)) = some r := H
     have A7 := Aside0.mk A70
     clear A70
     by_cases c8 : t1264 = true
     ·subst c8
      have H1 : (spec_l5In.l0 k1 l0 l1 (wrap64 (x5_1 + 1))) = some r := by rw [if_pos rfl] at H; exact H
      clear H
      have H := H1
      clear H1
      have H' := Aside0.mk H
      clear H
      go_wp2_with (first | (refine goesL_ (some 19) rfl rfl Try.func160 (by kernel_rfl) rfl #[.slice A0 l0.length c0, .slice A1 l1.length c1, .int .i64 x5_1] rfl ll_ ?_; (with_reducible refine (spec_l5Line.calls k1 _ _ l0 _ _ l1 x5_1 t1263 true _ ?side1 ?side2 ?side3 ?side4 A7.out).mono ?_); (case side1 => exact sb_ HR0 HB); (case side2 => exact HC0.out); (case side3 => exact sb_ HR1 HB); (case side4 => exact HC1.out); rintro e w9 ⟨rfl, hb⟩; refine ⟨_, rfl, ?_⟩; have n0_ := Aside0.mk (below_step (bb_ HB) hb); clear HB; have HB := n0_; clear n0_; (try clear hb); (try clear hb2); (try clear hk); (try clear hi)))
      go_roundg k1
      case measure => have := HK1.out; omega
      case rel => exact ⟨(wrap64 (x5_1 + 1)), (by first | rfl | (simp; done) | (simp [*]; done)), H', ⟨by have := HK1.out; omega⟩, ⟨by repeat (first | (with_reducible first | exact HB.out | apply below_alloc | apply pw_below_drewN | apply below_drew1) | exact HB.out)⟩⟩
     ·replace c8 := Bool.eq_false_iff.mpr c8
      subst c8
      have H1 : (some false) = some r := by rw [if_neg (show ¬ (false = true) by decide)] at H; exact H
      clear H
      have H := H1
      clear H1
      obtain rfl := Option.some.inj H
      go_wp2_with (first | (refine goesL_ (some 19) rfl rfl Try.func160 (by kernel_rfl) rfl #[.slice A0 l0.length c0, .slice A1 l1.length c1, .int .i64 x5_1] rfl ll_ ?_; (with_reducible refine (spec_l5Line.calls k1 _ _ l0 _ _ l1 x5_1 t1263 false _ ?side1 ?side2 ?side3 ?side4 A7.out).mono ?_); (case side1 => exact sb_ HR0 HB); (case side2 => exact HC0.out); (case side3 => exact sb_ HR1 HB); (case side4 => exact HC1.out); rintro e w10 ⟨rfl, hb⟩; refine ⟨_, rfl, ?_⟩; have n0_ := Aside0.mk (below_step (bb_ HB) hb); clear HB; have HB := n0_; clear n0_; (try clear hb); (try clear hb2); (try clear hk); (try clear hi)))
      go_ret
      exact ⟨ee_, bb_ HB⟩
    ·rw [if_neg c6] at H
     have c6b0 : decide (x5_1 < 91) = false := decide_eq_false c6
     clear c6
     obtain rfl := Option.some.inj H
     go_wp2
     go_ret
     exact ⟨ee_, bb_ HB⟩
 ·replace c4 := Bool.eq_false_iff.mpr c4
  subst c4
  have H1 : (some false) = some r := by rw [if_neg (show ¬ (false = true) by decide)] at H; exact H
  clear H
  have H := H1
  clear H1
  obtain rfl := Option.some.inj H
  go_enter Try.func109, Try.ntmps109
  go_wp2_with (first | (refine goesL_ (some 9) rfl rfl Try.func159 (by kernel_rfl) rfl #[.slice A1 l1.length c1] rfl ll_ ?_; (with_reducible refine (spec_l5Perm.calls k _ _ l1 false _ ?side1 ?side2 A3.out).mono ?_); (case side1 => exact ss_ HR1); (case side2 => exact HC1.out); rintro e w11 ⟨rfl, hb⟩; refine ⟨_, rfl, ?_⟩; have n0_ := Aside0.mk (below_step (bb_ HB) hb); clear HB; have HB := n0_; clear n0_; (try clear hb); (try clear hb2); (try clear hk); (try clear hi)))
  go_ret
  exact ⟨ee_, bb_ HB⟩
end Go.Proofs.Ytcbkoecanldlpaa.P

namespace Go.Proofs.Ytcbkoecanldlpaa.P
open Go.RowKit Go.Proofs.YtcbkoecanldlpaaW.PrintWords Go.Proofs.YtcbkoecanldlpaaW.PrintLast
set_option linter.unusedVariables false
set_option linter.unusedSimpArgs false

def spec_MoveIn.f (k : Nat) (l0 : List Int) (l1 : List Int) : Option (Bool) := (spec_SystemIn.f k l0).bind fun t1265 => (if t1265 = true then ((spec_l5In.f k l0 l1).bind fun t1266 => (some t1266)) else (some false))
set_option maxHeartbeats 8000000 in
set_option maxRecDepth 100000 in
theorem spec_MoveIn.calls (k : Nat) (A0 : Option Addr) (c0 : Nat) (l0 : List Int) (A1 : Option Addr) (c1 : Nat) (l1 : List Int) (r : Bool) (w : World) (hr0 : Kd.C (Kd.int .i64) w A0 l0.length l0) (hc0 : l0.length ≤ c0) (hr1 : Kd.C (Kd.int .i64) w A1 l1.length l1) (hc1 : l1.length ≤ c1) (h : spec_MoveIn.f k l0 l1 = some r) :
  Calls Try.prog 55 #[.slice A0 l0.length c0, .slice A1 l1.length c1] w fun e w' => e = .returned (.bool r) ∧ Below w.heap.size w w' := by
 have HR0 := Aside0.mk hr0
 have HC0 := Aside0.mk hc0
 clear hr0 hc0
 have HR1 := Aside0.mk hr1
 have HC1 := Aside0.mk hc1
 clear hr1 hc1
 have HB := Aside0.mk (Below.refl w.heap.size w)
 have H : ((spec_SystemIn.f k l0).bind fun t1265 => (if t1265 = true then ((spec_l5In.f k l0 l1).bind fun t1266 => (some t1266)) else (some false))) = some r := h
 clear h
 replace H := Option.bind_eq_some_iff.mp H
 obtain ⟨t1265, A30, H⟩ := H
 replace H : (if t1265 = true then ((spec_l5In.f k l0 l1).bind fun t1266 => (some t1266)) else (some false)) = some r := H
 have A3 := Aside0.mk A30
 clear A30
 by_cases c4 : t1265 = true
 ·subst c4
  have H1 : ((spec_l5In.f k l0 l1).bind fun t1266 => (some t1266)) = some r := by rw [if_pos rfl] at H; exact H
  clear H
  have H := H1
  clear H1
  replace H := Option.bind_eq_some_iff.mp H
  obtain ⟨t1266, A50, H⟩ := H
  replace H : (some t1266) = some r := H
  have A5 := Aside0.mk A50
  clear A50
  obtain rfl := Option.some.inj H
  go_enter Try.func55, Try.ntmps55
  go_wp2_with (first | (refine goesL_ (some 6) rfl rfl Try.func63 (by kernel_rfl) rfl #[.slice A0 l0.length c0] rfl ll_ ?_; (with_reducible refine (spec_SystemIn.calls k _ _ l0 true _ ?side1 ?side2 A3.out).mono ?_); (case side1 => exact ss_ HR0); (case side2 => exact HC0.out); rintro e w6 ⟨rfl, hb⟩; refine ⟨_, rfl, ?_⟩; have n0_ := Aside0.mk (below_step (bb_ HB) hb); clear HB; have HB := n0_; clear n0_; (try clear hb); (try clear hb2); (try clear hk); (try clear hi)) | (go_at_call 109; (with_reducible refine (spec_l5In.calls k _ _ l0 _ _ l1 t1266 _ ?side1 ?side2 ?side3 ?side4 A5.out).mono ?_); (case side1 => exact sb_ HR0 HB); (case side2 => exact HC0.out); (case side3 => exact sb_ HR1 HB); (case side4 => exact HC1.out); rintro e w7 ⟨rfl, hb⟩; have n0_ := Aside0.mk (below_step (bb_ HB) hb); clear HB; have HB := n0_; clear n0_; (try clear hb); (try clear hb2); (try clear hk); (try clear hi)))
  go_ret
  exact ⟨ee_, bb_ HB⟩
 ·replace c4 := Bool.eq_false_iff.mpr c4
  subst c4
  have H1 : (some false) = some r := by rw [if_neg (show ¬ (false = true) by decide)] at H; exact H
  clear H
  have H := H1
  clear H1
  obtain rfl := Option.some.inj H
  go_enter Try.func55, Try.ntmps55
  go_wp2_with (first | (refine goesL_ (some 6) rfl rfl Try.func63 (by kernel_rfl) rfl #[.slice A0 l0.length c0] rfl ll_ ?_; (with_reducible refine (spec_SystemIn.calls k _ _ l0 false _ ?side1 ?side2 A3.out).mono ?_); (case side1 => exact ss_ HR0); (case side2 => exact HC0.out); rintro e w8 ⟨rfl, hb⟩; refine ⟨_, rfl, ?_⟩; have n0_ := Aside0.mk (below_step (bb_ HB) hb); clear HB; have HB := n0_; clear n0_; (try clear hb); (try clear hb2); (try clear hk); (try clear hi)))
  go_ret
  exact ⟨ee_, bb_ HB⟩
end Go.Proofs.Ytcbkoecanldlpaa.P

namespace Go.Proofs.Ytcbkoecanldlpaa.P
open Go.RowKit Go.Proofs.YtcbkoecanldlpaaW.PrintWords Go.Proofs.YtcbkoecanldlpaaW.PrintLast
set_option linter.unusedVariables false
set_option linter.unusedSimpArgs false

mutual
def spec_MoveTimes.j0 : Nat → List Int → List Int → List Int → Bool → Option (List Int × Bool)
 | 0, _, _, _, _ => none
 | k + 1, x1, x2, x8, x20 => if x20 = true then (some (x8, false)) else (spec_MoveTimes.l0 k x1 x2 x8 0)
def spec_MoveTimes.l0 : Nat → List Int → List Int → List Int → Int → Option (List Int × Bool)
 | 0, _, _, _, _ => none
 | k + 1, x1, x2, x8, x9 => if x9 < 91 then (if 0 ≤ x9 then (if x9 < (x1.length : Int) then (if 0 ≤ (rd x1 x9) then (if (rd x1 x9) < (x2.length : Int) then (if x8.length < 17592186044416 then (spec_MoveTimes.l0 k x1 x2 (x8 ++ [rd x2 (rd x1 x9)]) (wrap64 (x9 + 1))) else (none)) else (none)) else (none)) else (none)) else (none)) else (some (x8, true))
end
def spec_MoveTimes.f (k : Nat) (l0 : List Int) (l1 : List Int) (l2 : List Int) : Option (List Int × Bool) := (some (([] : List Int) : List Int)).bind fun y1267 => ((spec_MoveIn.f k l0 l1).bind fun t1270 => (if t1270 = true then ((spec_MoveIn.f k l0 l2).bind fun t1271 => (spec_MoveTimes.j0 k l1 l2 y1267 (!t1271))) else (spec_MoveTimes.j0 k l1 l2 y1267 true)))
set_option maxHeartbeats 8000000 in
set_option maxRecDepth 100000 in
theorem spec_MoveTimes.calls (k : Nat) (A0 : Option Addr) (c0 : Nat) (l0 : List Int) (A1 : Option Addr) (c1 : Nat) (l1 : List Int) (A2 : Option Addr) (c2 : Nat) (l2 : List Int) (r1 : List Int) (r2 : Bool) (w : World) (hr0 : Kd.C (Kd.int .i64) w A0 l0.length l0) (hc0 : l0.length ≤ c0) (hr1 : Kd.C (Kd.int .i64) w A1 l1.length l1) (hc1 : l1.length ≤ c1) (hr2 : Kd.C (Kd.int .i64) w A2 l2.length l2) (hc2 : l2.length ≤ c2) (h : spec_MoveTimes.f k l0 l1 l2 = some (r1, r2)) :
  Calls Try.prog 189 #[.slice A0 l0.length c0, .slice A1 l1.length c1, .slice A2 l2.length c2] w fun e w' => ∃ v0_ : Value, e = .returned (.tuple #[v0_, .bool r2]) ∧ Kd.R (Kd.int .i64) 3 w' w.heap.size (fun _ => True) v0_ r1 ∧ Below w.heap.size w w' := by
 have HR0 := Aside0.mk hr0
 have HC0 := Aside0.mk hc0
 clear hr0 hc0
 have HR1 := Aside0.mk hr1
 have HC1 := Aside0.mk hc1
 clear hr1 hc1
 have HR2 := Aside0.mk hr2
 have HC2 := Aside0.mk hc2
 clear hr2 hc2
 have HB := Aside0.mk (Below.refl w.heap.size w)
 have H : ((some (([] : List Int) : List Int)).bind fun y1267 => ((spec_MoveIn.f k l0 l1).bind fun t1270 => (if t1270 = true then ((spec_MoveIn.f k l0 l2).bind fun t1271 => (spec_MoveTimes.j0 k l1 l2 y1267 (!t1271))) else (spec_MoveTimes.j0 k l1 l2 y1267 true)))) = some (r1, r2) := h
 clear h
 obtain ⟨y1267, hy1267⟩ : ∃ y_ : List Int, y_ = (([] : List Int)) := ⟨_, rfl⟩
 replace H : ((spec_MoveIn.f k l0 l1).bind fun t1270 => (if t1270 = true then ((spec_MoveIn.f k l0 l2).bind fun t1271 => (spec_MoveTimes.j0 k l1 l2 y1267 (!t1271))) else (spec_MoveTimes.j0 k l1 l2 y1267 true))) = some (r1, r2) := by first | (rw [hy1267]; with_reducible exact H) | (have H2_ := (Option.bind_some _ _).symm.trans H; rw [hy1267]; with_reducible exact H2_) | (have H2_ := (Option.bind_some _ _).symm.trans H; with_reducible exact H2_) | with_reducible exact H | (rw [hy1267]; exact H) | exact H
 have Ny1267 := Aside0.mk hy1267
 clear hy1267
 have HC4 := Aside0.mk H
 clear H
 go_enter Try.func189, Try.ntmps189
 go_upto_region 2 with (first | ((with_reducible refine gate_dst (N := 10) rfl ?_); refine Kd.R_lit (Kd.int .i64) _ 3 ?hg (N := 10) ?hd (xs := ([] : List Int)) (inner := []) (ok := fun _ => True) (okp := fun _ => True) ?hr ?hp (fun _ hk => hk) trivial (Below.refl _ _) (Nat.le_refl _) (by simp) ?_; (case hd => rfl); (case hg => rfl); (case hr => first | (go_simp; done) | (go_simp; rfl)); (case hp => exact (Reps.none _ _)); intro v1268 w5 ho6 hb hg_ hnew_; clear hg_ hnew_; (first | rw [← Ny1267.out] at ho6 | (simp only [Int.reduceToNat] at ho6; rw [← Ny1267.out] at ho6)); have n0_ := Aside0.mk (Kd.R_lower ho6 (below_size (bb_ HB))); have n1_ := Aside0.mk (below_step (bb_ HB) hb); clear HB; have HO1269 := n0_; have HB := n1_; clear n0_ n1_; clear hb ho6))
 (try simp only [Act.put, List.setIfInBounds_toArray, List.set_cons_zero, List.set_cons_succ])
 go_cut [20] (fun v20 wc => ∃ (kq : Nat) (x20_3 : Bool), v20 = .bool x20_3 ∧ Aside0 (spec_MoveTimes.j0 kq l1 l2 y1267 x20_3 = some (r1, r2)) ∧ Aside0 (kq ≤ k) ∧ Aside0 (Kd.R (Kd.int .i64) 3 wc w.heap.size (fun _ => True) v1268 y1267) ∧ Aside0 (Below w.heap.size w wc))
 case first =>
  have H := HC4.out
  clear HC4
  replace H := Option.bind_eq_some_iff.mp H
  obtain ⟨t1270, A70, H⟩ := H
  replace H : (if t1270 = true then ((spec_MoveIn.f k l0 l2).bind fun t1271 => (spec_MoveTimes.j0 k l1 l2 y1267 (!t1271))) else (spec_MoveTimes.j0 k l1 l2 y1267 true)) = some (r1, r2) := H
  have A7 := Aside0.mk A70
  clear A70
  by_cases c8 : t1270 = true
  ·subst c8
   have H1 : ((spec_MoveIn.f k l0 l2).bind fun t1271 => (spec_MoveTimes.j0 k l1 l2 y1267 (!t1271))) = some (r1, r2) := by rw [if_pos rfl] at H; exact H
   clear H
   have H := H1
   clear H1
   replace H := Option.bind_eq_some_iff.mp H
   obtain ⟨t1271, A90, H⟩ := H
   replace H : (spec_MoveTimes.j0 k l1 l2 y1267 (!t1271)) = some (r1, r2) := H
   have A9 := Aside0.mk A90
   clear A90
   have H' := Aside0.mk H
   clear H
   go_wp2_with (first | (refine goesL_ (some 13) rfl rfl Try.func55 (by kernel_rfl) rfl #[.slice A0 l0.length c0, .slice A1 l1.length c1] rfl ll_ ?_; (with_reducible refine (spec_MoveIn.calls k _ _ l0 _ _ l1 true _ ?side1 ?side2 ?side3 ?side4 A7.out).mono ?_); (case side1 => exact sb_ HR0 HB); (case side2 => exact HC0.out); (case side3 => exact sb_ HR1 HB); (case side4 => exact HC1.out); rintro e w10 ⟨rfl, hb⟩; refine ⟨_, rfl, ?_⟩; have n0_ := Aside0.mk (Kd.R_below (rr_ HO1269) hb); have n1_ := Aside0.mk (below_step (bb_ HB) hb); clear HO1269; clear HB; have HO1269 := n0_; have HB := n1_; clear n0_ n1_; (try clear hb); (try clear hb2); (try clear hk); (try clear hi)) | (go_at_call 55; (with_reducible refine (spec_MoveIn.calls k _ _ l0 _ _ l2 t1271 _ ?side1 ?side2 ?side3 ?side4 A9.out).mono ?_); (case side1 => exact sb_ HR0 HB); (case side2 => exact HC0.out); (case side3 => exact sb_ HR2 HB); (case side4 => exact HC2.out); rintro e w11 ⟨rfl, hb⟩; have n0_ := Aside0.mk (Kd.R_below (rr_ HO1269) hb); have n1_ := Aside0.mk (below_step (bb_ HB) hb); clear HO1269; clear HB; have HO1269 := n0_; have HB := n1_; clear n0_ n1_; (try clear hb); (try clear hb2); (try clear hk); (try clear hi)))
   go_meet
   case rel => exact ⟨_, (!t1271), (by first | rfl | (simp; done) | (simp [*]; done)), H', ⟨by first | omega | exact Nat.le_refl _⟩, ⟨rr_ HO1269⟩, ⟨by repeat (first | (with_reducible first | exact HB.out | apply below_alloc | apply pw_below_drewN | apply below_drew1) | exact HB.out)⟩⟩
  ·replace c8 := Bool.eq_false_iff.mpr c8
   subst c8
   have H1 : (spec_MoveTimes.j0 k l1 l2 y1267 true) = some (r1, r2) := by rw [if_neg (show ¬ (false = true) by decide)] at H; exact H
   clear H
   have H := H1
   clear H1
   have H' := Aside0.mk H
   clear H
   go_wp2_with (first | (refine goesL_ (some 13) rfl rfl Try.func55 (by kernel_rfl) rfl #[.slice A0 l0.length c0, .slice A1 l1.length c1] rfl ll_ ?_; (with_reducible refine (spec_MoveIn.calls k _ _ l0 _ _ l1 false _ ?side1 ?side2 ?side3 ?side4 A7.out).mono ?_); (case side1 => exact sb_ HR0 HB); (case side2 => exact HC0.out); (case side3 => exact sb_ HR1 HB); (case side4 => exact HC1.out); rintro e w12 ⟨rfl, hb⟩; refine ⟨_, rfl, ?_⟩; have n0_ := Aside0.mk (Kd.R_below (rr_ HO1269) hb); have n1_ := Aside0.mk (below_step (bb_ HB) hb); clear HO1269; clear HB; have HO1269 := n0_; have HB := n1_; clear n0_ n1_; (try clear hb); (try clear hb2); (try clear hk); (try clear hi)))
   go_meet
   case rel => exact ⟨_, (true), (by first | rfl | (simp; done) | (simp [*]; done)), H', ⟨by first | omega | exact Nat.le_refl _⟩, ⟨rr_ HO1269⟩, ⟨by repeat (first | (with_reducible first | exact HB.out | apply below_alloc | apply pw_below_drewN | apply below_drew1) | exact HB.out)⟩⟩
 case rest =>
  clear HC4
  try clear c1
  try clear c2
  try clear p2
  try clear c5
  try clear c8
  obtain ⟨kq, x20_3, rfl, HA, HJ3, HO_8, HB⟩ := hcut
  cases kq with
  | zero => exact absurd HA.out (by simp [spec_MoveTimes.j0])
  | succ kj3 =>
   have H := HA.out
   clear HA
   simp only [spec_MoveTimes.j0] at H
   by_cases c13 : x20_3 = true
   ·subst c13
    have H1 : (some (y1267, false)) = some (r1, r2) := by rw [if_pos rfl] at H; exact H
    clear H
    have H := H1
    clear H1
    simp only [Option.some.injEq, Prod.mk.injEq] at H
    obtain ⟨rfl, rfl⟩ := H
    go_wp2
    go_ret2
    exact ⟨_, ee_, by (with_reducible repeat (first | apply Kd.R_alloc | apply Kd.R_drewN | apply Kd.R_drew)); exact HO_8.out, bb_ HB⟩
   ·replace c13 := Bool.eq_false_iff.mpr c13
    subst c13
    have H1 : (spec_MoveTimes.l0 kj3 l1 l2 y1267 0) = some (r1, r2) := by rw [if_neg (show ¬ (false = true) by decide)] at H; exact H
    clear H
    have H := H1
    clear H1
    have H' := Aside0.mk H
    clear H
    go_wp2
    go_loopg [8, 9] kj3 (fun kq v8 v9 w' => ∃ (x8_2 : List Int) (x9_2 : Int), v9 = .int .i64 x9_2 ∧ Aside0 (spec_MoveTimes.l0 kq l1 l2 x8_2 x9_2 = some (r1, r2)) ∧ Aside0 (kq ≤ kj3) ∧ Aside0 (Kd.R (Kd.int .i64) 3 w' w.heap.size (fun _ => True) v8 x8_2) ∧ Aside0 (Below w.heap.size w w'))
    case atStart => exact ⟨(y1267), (0), (by first | rfl | (simp; done) | (simp [*]; done)), H', ⟨Nat.le_refl _⟩, ⟨rr_ HO_8⟩, ⟨by repeat (first | (with_reducible first | exact HB.out | apply below_alloc | apply pw_below_drewN | apply below_drew1) | exact HB.out)⟩⟩
    case round =>
     clear H'
     try clear c1
     try clear c2
     try clear p2
     try clear c5
     try clear c8
     try clear c13
     try clear p2
     obtain ⟨x8_2, x9_2, rfl, HA, HK2, HO_8, HB⟩ := hrel
     cases gk with
     | zero => exact absurd HA.out (by simp [spec_MoveTimes.l0])
     | succ k2 =>
      have H := HA.out
      clear HA
      simp only [spec_MoveTimes.l0] at H
      by_cases c14 : x9_2 < 91
      ·rw [if_pos c14] at H
       have c14b0 : decide (x9_2 < 91) = true := decide_eq_true c14
       clear c14
       by_cases c15 : 0 ≤ x9_2
       ·rw [if_pos c15] at H
        have c15b0 : decide (0 ≤ x9_2) = true := decide_eq_true c15
        clear c15
        by_cases c16 : x9_2 < (l1.length : Int)
        ·rw [if_pos c16] at H
         have c16b0 : decide (x9_2 < (l1.length : Int)) = true := decide_eq_true c16
         clear c16
         by_cases c17 : 0 ≤ (rd l1 x9_2)
         ·rw [if_pos c17] at H
          have c17b0 : decide (0 ≤ (rd l1 x9_2)) = true := decide_eq_true c17
          clear c17
          by_cases c18 : (rd l1 x9_2) < (l2.length : Int)
          ·rw [if_pos c18] at H
           have c18b0 : decide ((rd l1 x9_2) < (l2.length : Int)) = true := decide_eq_true c18
           clear c18
           by_cases c19 : x8_2.length < 17592186044416
           ·rw [if_pos c19] at H
            have LMc19 := Aside0.mk c19
            clear c19
            obtain ⟨y1274, hy1274⟩ : ∃ y_ : List Int, y_ = (x8_2 ++ [rd l2 (rd l1 x9_2)]) := ⟨_, rfl⟩
            replace H : (spec_MoveTimes.l0 k2 l1 l2 y1274 (wrap64 (x9_2 + 1))) = some (r1, r2) := by first | (rw [hy1274]; with_reducible exact H) | (have H2_ := (Option.bind_some _ _).symm.trans H; rw [hy1274]; with_reducible exact H2_) | (have H2_ := (Option.bind_some _ _).symm.trans H; with_reducible exact H2_) | with_reducible exact H | (rw [hy1274]; exact H) | exact H
            have Ny1274 := Aside0.mk hy1274
            clear hy1274
            have H' := Aside0.mk H
            clear H
            have p1272 : 0 ≤ (x9_2 : Int) := dd_
            have q1272 : x9_2 < (l1.length : Int) := dd_
            obtain ⟨ad1272, e1272, hx1272_0⟩ := Kd.at_int HR1.out x9_2 p1272 q1272
            cases e1272
            replace hx1272_0 := hc_ HB hx1272_0
            replace p1272 := eq_true p1272
            replace q1272 := eq_true q1272
            have p1273 : 0 ≤ ((rd l1 x9_2) : Int) := dd_
            have q1273 : (rd l1 x9_2) < (l2.length : Int) := dd_
            obtain ⟨ad1273, e1273, hx1273_0⟩ := Kd.at_int HR2.out (rd l1 x9_2) p1273 q1273
            cases e1273
            replace hx1273_0 := hc_ HB hx1273_0
            replace p1273 := eq_true p1273
            replace q1273 := eq_true q1273
            go_wp2_with (first | (at_builtin; refine Kd.R_append (Kd.int .i64) (w0 := w) w.heap.size rfl (.tmp 26) (.tmp 34) 23 3 (.int .i64 0) 8 rfl Try.underlying23 info3 rfl (by decide) (by omega) u8 x8_2 (rd l2 (rd l1 x9_2)) [.int .i64 (rd l2 (rd l1 x9_2))] (fun _ => True) (fun _ => False) rfl rfl ?aP (fun _ hk => hk.elim) ?aF ?aO ?aB ?aS ?aL ?_; (case aP => exact rfl); (case aB => exact (bb_ HB)); (case aF => exact (fun _ _ => trivial)); (case aO => exact (rr_ HO_8)); (case aS => exact (below_size (bb_ HB))); (case aL => have := LMc19.out; omega); intro v1275 w20 ho hb hg hat; rw [← Ny1274.out] at ho; have n0_ := Aside0.mk (hb); have n1_ := Aside0.mk (ho); clear HB; clear HO_8; have HB := n0_; have HO1276 := n1_; clear n0_ n1_; clear ho hb hg hat))
            go_roundg k2
            case measure => have := HJ3.out; have := HK2.out; omega
            case rel => exact ⟨(y1274), (wrap64 (x9_2 + 1)), (by first | rfl | (simp; done) | (simp [*]; done)), H', ⟨by have := HJ3.out; have := HK2.out; omega⟩, ⟨rr_ HO1276⟩, ⟨by repeat (first | (with_reducible first | exact HB.out | apply below_alloc | apply pw_below_drewN | apply below_drew1) | exact HB.out)⟩⟩
           ·rw [if_neg c19] at H
            exact absurd H (by simp)
          ·rw [if_neg c18] at H
           exact absurd H (by simp)
         ·rw [if_neg c17] at H
          exact absurd H (by simp)
        ·rw [if_neg c16] at H
         exact absurd H (by simp)
       ·rw [if_neg c15] at H
        exact absurd H (by simp)
      ·rw [if_neg c14] at H
       have c14b0 : decide (x9_2 < 91) = false := decide_eq_false c14
       clear c14
       simp only [Option.some.injEq, Prod.mk.injEq] at H
       obtain ⟨rfl, rfl⟩ := H
       go_wp2
       go_ret2
       exact ⟨_, ee_, by (with_reducible repeat (first | apply Kd.R_alloc | apply Kd.R_drewN | apply Kd.R_drew)); exact HO_8.out, bb_ HB⟩
end Go.Proofs.Ytcbkoecanldlpaa.P

namespace Go.Proofs.Ytcbkoecanldlpaa.P
open Go.RowKit Go.Proofs.YtcbkoecanldlpaaW.PrintWords Go.Proofs.YtcbkoecanldlpaaW.PrintLast
set_option linter.unusedVariables false
set_option linter.unusedSimpArgs false

def spec_l6Rd_pick.j0 : Nat → Int → Bool → List Int → Int → Option (Int × Int)
 | 0, _, _, _, _ => none
 | k + 1, x1, x24, x1000, x1001 => if x24 = true then (some (0, x1001)) else (if (wrap64 (x1001 - 1)) < (x1000.length : Int) then (if 0 ≤ (wrap64 (x1001 - 1)) then (if x1 = 0 then (none) else (some (Int.tmod (wrap64 (rd x1000 (wrap64 (x1001 - 1)))) x1, x1001))) else (none)) else (if (x1000.length : Int) = 0 then (none) else (if 0 ≤ (Int.tmod (wrap64 (x1001 - 1)) (x1000.length : Int)) then (if (Int.tmod (wrap64 (x1001 - 1)) (x1000.length : Int)) < (x1000.length : Int) then (if 0 ≤ (Int.tmod (wrap64 ((wrap64 ((wrap64 (x1001 - 1)) * 7)) + 3)) (x1000.length : Int)) then (if (Int.tmod (wrap64 ((wrap64 ((wrap64 (x1001 - 1)) * 7)) + 3)) (x1000.length : Int)) < (x1000.length : Int) then (if x1 = 0 then (none) else (some (Int.tmod (Go.bits .xor .i64 (wrap64 ((wrap64 ((wrap64 ((wrap64 ((wrap64 (rd x1000 (Int.tmod (wrap64 (x1001 - 1)) (x1000.length : Int)))) * 131)) + (wrap64 ((wrap64 (rd x1000 (Int.tmod (wrap64 ((wrap64 ((wrap64 (x1001 - 1)) * 7)) + 3)) (x1000.length : Int)))) * 1117)))) + (wrap64 ((wrap64 (x1001 - 1)) * 29)))) + (wrap64 ((wrap64 (Int.tdiv (wrap64 (x1001 - 1)) (x1000.length : Int))) * 53)))) (wrap64 (Int.tdiv (wrap64 ((wrap64 ((wrap64 ((wrap64 ((wrap64 (rd x1000 (Int.tmod (wrap64 (x1001 - 1)) (x1000.length : Int)))) * 131)) + (wrap64 ((wrap64 (rd x1000 (Int.tmod (wrap64 ((wrap64 ((wrap64 (x1001 - 1)) * 7)) + 3)) (x1000.length : Int)))) * 1117)))) + (wrap64 ((wrap64 (x1001 - 1)) * 29)))) + (wrap64 ((wrap64 (Int.tdiv (wrap64 (x1001 - 1)) (x1000.length : Int))) * 53)))) 64))) x1, x1001))) else (none)) else (none)) else (none)) else (none))))
def spec_l6Rd_pick.f (k : Nat) (s0_0 : List Int) (s0_1 : Int) (a1 : Int) : Option (Int × Int) := if a1 < 1 then (spec_l6Rd_pick.j0 k a1 true s0_0 (wrap64 (s0_1 + 1))) else (spec_l6Rd_pick.j0 k a1 ((s0_0.length : Int) == 0) s0_0 (wrap64 (s0_1 + 1)))
set_option maxHeartbeats 8000000 in
set_option maxRecDepth 100000 in
theorem spec_l6Rd_pick.calls (k : Nat) (g : Nat) (s0_0 : List Int) (s0_1 : Int) (a1 : Int) (r1 : Int) (r2 : Int) (w0 w : World) (hI : IsS76 w0 w g s0_0 s0_1) (hB : Below w0.heap.size w0 w) (h : spec_l6Rd_pick.f k s0_0 s0_1 a1 = some (r1, r2)) :
  Calls Try.prog 79 #[.pointer (some ⟨g, 0, none⟩), .int .i64 a1] w fun e w' => e = .returned (.int .i64 r1) ∧ IsS76 w0 w' g s0_0 r2 ∧ Below w0.heap.size w0 w' ∧ KeepBut w w' g none := by
 have HI0 := Aside0.mk hI
 have HK := Aside0.mk (KeepBut.refl w g none)
 have HL := Aside0.mk hB.size
 clear hI
 have HW0 := Aside0.mk hB.size
 have HB := Aside0.mk hB
 clear hB
 have H : (if a1 < 1 then (spec_l6Rd_pick.j0 k a1 true s0_0 (wrap64 (s0_1 + 1))) else (spec_l6Rd_pick.j0 k a1 ((s0_0.length : Int) == 0) s0_0 (wrap64 (s0_1 + 1)))) = some (r1, r2) := h
 clear h
 have HC3 := Aside0.mk H
 clear H
 obtain ⟨ASz4_0, cSz4_0, HGz4, hgz4, HSz4_0⟩ := HI0.out
 have hcz4_0 := cellS76_0 HGz4
 have hcz4_1 := cellS76_1 HGz4
 have hfz4_1 := blk_frozen HGz4 1
 clear HGz4 hgz4
 go_enter Try.func79, Try.ntmps79
 go_upto_region 2 with (fail)
 repeat (go_quiet (fail); go_upto_region 2 with (fail))
 go_cut [24] (fun v24 wc => ∃ (kq : Nat) (x24_2 : Bool), v24 = .bool x24_2 ∧ Aside0 (spec_l6Rd_pick.j0 kq a1 x24_2 s0_0 (wrap64 (s0_1 + 1)) = some (r1, r2)) ∧ Aside0 (kq ≤ k) ∧ Aside0 (IsS76 w0 wc g s0_0 (wrap64 (s0_1 + 1))) ∧ Aside0 (KeepBut w wc g none) ∧ Aside0 (Below w0.heap.size w0 wc))
 case first =>
  have H := HC3.out
  clear HC3
  by_cases c5 : a1 < 1
  ·rw [if_pos c5] at H
   have c5b0 : decide (a1 < 1) = true := decide_eq_true c5
   clear c5
   (first | rw [c5b0] | (simp only [i64_w, i32_w]; rw [c5b0]) | skip)
   have H' := Aside0.mk H
   clear H
   go_wp2
   repeat (go_quiet (fail); try go_wp2)
   go_meet
   case rel => exact ⟨_, (true), (by first | rfl | (simp; done) | (simp [*]; done)), H', ⟨by first | omega | exact Nat.le_refl _⟩, ⟨by repeat (first | (with_reducible first | exact HI0.out | apply IsS76.alloc | apply IsS76.drewN | apply IsS76.drew | apply IsS76.set_1) | exact HI0.out)⟩, ⟨by repeat (first | (with_reducible first | exact HK.out | apply KeepBut.set_ | apply keep_drewN | apply keep_drew | apply keep_alloc) | exact HK.out)⟩, ⟨by repeat (first | (with_reducible first | exact HB.out | apply below_alloc | apply pw_below_drewN | apply below_drew1 | refine below_set ?_ (IsS76.ge HI0.out)) | exact HB.out)⟩⟩
  ·rw [if_neg c5] at H
   have c5b0 : decide (a1 < 1) = false := decide_eq_false c5
   clear c5
   (first | rw [c5b0] | (simp only [i64_w, i32_w]; rw [c5b0]) | skip)
   have H' := Aside0.mk H
   clear H
   obtain ⟨ASz6_0, cSz6_0, HGz6, hgz6, HSz6_0⟩ := HI0.out
   have hcz6_0 := cellS76_0 HGz6
   have hcz6_1 := cellS76_1 HGz6
   have hfz6_1 := blk_frozen HGz6 1
   clear HGz6 hgz6
   go_wp2
   repeat (go_quiet (fail); try go_wp2)
   go_meet
   case rel => exact ⟨_, (((s0_0.length : Int) == 0)), (by first | rfl | (simp; done) | (simp [*]; done)), H', ⟨by first | omega | exact Nat.le_refl _⟩, ⟨by repeat (first | (with_reducible first | exact HI0.out | apply IsS76.alloc | apply IsS76.drewN | apply IsS76.drew | apply IsS76.set_1) | exact HI0.out)⟩, ⟨by repeat (first | (with_reducible first | exact HK.out | apply KeepBut.set_ | apply keep_drewN | apply keep_drew | apply keep_alloc) | exact HK.out)⟩, ⟨by repeat (first | (with_reducible first | exact HB.out | apply below_alloc | apply pw_below_drewN | apply below_drew1 | refine below_set ?_ (IsS76.ge HI0.out)) | exact HB.out)⟩⟩
 case rest =>
  clear HC3
  try clear p2
  try clear c5
  try clear c5b0
  try clear p6
  try clear hcz4_0
  try clear hcz4_1
  try clear hcz6_0
  try clear hcz6_1
  try clear hfz4_1
  try clear hfz6_1
  obtain ⟨kq, x24_2, rfl, HA, HJ2, HI0, HK, HB⟩ := hcut
  cases kq with
  | zero => exact absurd HA.out (by simp [spec_l6Rd_pick.j0])
  | succ kj2 =>
   have H := HA.out
   clear HA
   simp only [spec_l6Rd_pick.j0] at H
   by_cases c7 : x24_2 = true
   ·subst c7
    have H1 : (some (0, (wrap64 (s0_1 + 1)))) = some (r1, r2) := by rw [if_pos rfl] at H; exact H
    clear H
    have H := H1
    clear H1
    simp only [Option.some.injEq, Prod.mk.injEq] at H
    obtain ⟨rfl, rfl⟩ := H
    go_wp2
    repeat (go_quiet (fail); try go_wp2)
    go_ret
    exact ⟨ee_, by repeat (first | (with_reducible first | exact HI0.out | apply IsS76.alloc | apply IsS76.drewN | apply IsS76.drew | apply IsS76.set_1) | exact HI0.out), by repeat (first | (with_reducible first | exact HB.out | apply below_alloc | apply pw_below_drewN | apply below_drew1 | refine below_set ?_ (IsS76.ge HI0.out)) | exact HB.out), by repeat (first | (with_reducible first | exact HK.out | apply KeepBut.set_ | apply keep_drewN | apply keep_drew | apply keep_alloc) | exact HK.out)⟩
   ·replace c7 := Bool.eq_false_iff.mpr c7
    subst c7
    have H1 : (if (wrap64 ((wrap64 (s0_1 + 1)) - 1)) < (s0_0.length : Int) then (if 0 ≤ (wrap64 ((wrap64 (s0_1 + 1)) - 1)) then (if a1 = 0 then (none) else (some (Int.tmod (wrap64 (rd s0_0 (wrap64 ((wrap64 (s0_1 + 1)) - 1)))) a1, (wrap64 (s0_1 + 1))))) else (none)) else (if (s0_0.length : Int) = 0 then (none) else (if 0 ≤ (Int.tmod (wrap64 ((wrap64 (s0_1 + 1)) - 1)) (s0_0.length : Int)) then (if (Int.tmod (wrap64 ((wrap64 (s0_1 + 1)) - 1)) (s0_0.length : Int)) < (s0_0.length : Int) then (if 0 ≤ (Int.tmod (wrap64 ((wrap64 ((wrap64 ((wrap64 (s0_1 + 1)) - 1)) * 7)) + 3)) (s0_0.length : Int)) then (if (Int.tmod (wrap64 ((wrap64 ((wrap64 ((wrap64 (s0_1 + 1)) - 1)) * 7)) + 3)) (s0_0.length : Int)) < (s0_0.length : Int) then (if a1 = 0 then (none) else (some (Int.tmod (Go.bits .xor .i64 (wrap64 ((wrap64 ((wrap64 ((wrap64 ((wrap64 (rd s0_0 (Int.tmod (wrap64 ((wrap64 (s0_1 + 1)) - 1)) (s0_0.length : Int)))) * 131)) + (wrap64 ((wrap64 (rd s0_0 (Int.tmod (wrap64 ((wrap64 ((wrap64 ((wrap64 (s0_1 + 1)) - 1)) * 7)) + 3)) (s0_0.length : Int)))) * 1117)))) + (wrap64 ((wrap64 ((wrap64 (s0_1 + 1)) - 1)) * 29)))) + (wrap64 ((wrap64 (Int.tdiv (wrap64 ((wrap64 (s0_1 + 1)) - 1)) (s0_0.length : Int))) * 53)))) (wrap64 (Int.tdiv (wrap64 ((wrap64 ((wrap64 ((wrap64 ((wrap64 (rd s0_0 (Int.tmod (wrap64 ((wrap64 (s0_1 + 1)) - 1)) (s0_0.length : Int)))) * 131)) + (wrap64 ((wrap64 (rd s0_0 (Int.tmod (wrap64 ((wrap64 ((wrap64 ((wrap64 (s0_1 + 1)) - 1)) * 7)) + 3)) (s0_0.length : Int)))) * 1117)))) + (wrap64 ((wrap64 ((wrap64 (s0_1 + 1)) - 1)) * 29)))) + (wrap64 ((wrap64 (Int.tdiv (wrap64 ((wrap64 (s0_1 + 1)) - 1)) (s0_0.length : Int))) * 53)))) 64))) a1, (wrap64 (s0_1 + 1))))) else (none)) else (none)) else (none)) else (none)))) = some (r1, r2) := by rw [if_neg (show ¬ (false = true) by decide)] at H; exact H
    clear H
    have H := H1
    clear H1
    by_cases c8 : (wrap64 ((wrap64 (s0_1 + 1)) - 1)) < (s0_0.length : Int)
    ·rw [if_pos c8] at H
     have c8b0 : decide ((wrap64 ((wrap64 (s0_1 + 1)) - 1)) < (s0_0.length : Int)) = true := decide_eq_true c8
     clear c8
     obtain ⟨ji9, hji9⟩ : ∃ j_ : Int, (wrap64 ((wrap64 (s0_1 + 1)) - 1)) = j_ := ⟨_, rfl⟩
     replace H : (if 0 ≤ (ji9) then (if a1 = 0 then (none) else (some (Int.tmod (wrap64 (rd s0_0 (ji9))) a1, (wrap64 (s0_1 + 1))))) else (none)) = some (r1, r2) := by first | (rw [hji9] at H; exact H) | (simp only [hji9] at H ⊢; exact H)
     (try rw [hji9] at c8b0)
     have hji9w : (IntKind.i64.wrap ((wrap64 (s0_1 + 1)) - 1)) = ji9 := (i64_w _).trans hji9
     by_cases c10 : 0 ≤ (ji9)
     ·rw [if_pos c10] at H
      have c10b0 : decide (0 ≤ (ji9)) = true := decide_eq_true c10
      clear c10
      by_cases c11 : a1 = 0
      ·rw [if_pos c11] at H
       exact absurd H (by simp)
      ·rw [if_neg c11] at H
       have c11b0 : (a1 == 0) = false := beq_eq_false_iff_ne.mpr c11
       have c11b1 : (a1 != 0) = true := bne_iff_ne.mpr c11
       simp only [Option.some.injEq, Prod.mk.injEq] at H
       obtain ⟨rfl, rfl⟩ := H
       obtain ⟨ASz12_0, cSz12_0, HGz12, hgz12, HSz12_0⟩ := HI0.out
       have hcz12_0 := cellS76_0 HGz12
       have hcz12_1 := cellS76_1 HGz12
       have hfz12_1 := blk_frozen HGz12 1
       clear HGz12 hgz12
       have p104 : 0 ≤ ((ji9) : Int) := dd_
       have q104 : (ji9) < (s0_0.length : Int) := dd_
       obtain ⟨ad104, e104, hx104_0⟩ := Kd.at_int HSz12_0 (ji9) p104 q104
       cases e104
       replace hx104_0 := pw_cell_below HB.out hx104_0
       replace p104 := eq_true p104
       replace q104 := eq_true q104
       go_wp2
       repeat (go_quiet (fail); try go_wp2)
       go_ret
       exact ⟨by first | rfl | (simp [errW_none, errW_some] <;> rfl) | (simp only [← hji9]; first | rfl | (simp [errW_none, errW_some] <;> rfl)) | (simp [*, errW_none, errW_some] <;> rfl), by repeat (first | (with_reducible first | exact HI0.out | apply IsS76.alloc | apply IsS76.drewN | apply IsS76.drew | apply IsS76.set_1) | exact HI0.out), by repeat (first | (with_reducible first | exact HB.out | apply below_alloc | apply pw_below_drewN | apply below_drew1 | refine below_set ?_ (IsS76.ge HI0.out)) | exact HB.out), by repeat (first | (with_reducible first | exact HK.out | apply KeepBut.set_ | apply keep_drewN | apply keep_drew | apply keep_alloc) | exact HK.out)⟩
     ·rw [if_neg c10] at H
      exact absurd H (by simp)
    ·rw [if_neg c8] at H
     have c8b0 : decide ((wrap64 ((wrap64 (s0_1 + 1)) - 1)) < (s0_0.length : Int)) = false := decide_eq_false c8
     clear c8
     by_cases c13 : (s0_0.length : Int) = 0
     ·rw [if_pos c13] at H
      exact absurd H (by simp)
     ·rw [if_neg c13] at H
      have c13b0 : ((s0_0.length : Int) == 0) = false := beq_eq_false_iff_ne.mpr c13
      have c13b1 : ((s0_0.length : Int) != 0) = true := bne_iff_ne.mpr c13
      have c13b2 : ¬ (s0_0 = []) := fun h_ => c13 (by rw [h_]; rfl)
      obtain ⟨ji14, hji14⟩ : ∃ j_ : Int, (Int.tmod (wrap64 ((wrap64 (s0_1 + 1)) - 1)) (s0_0.length : Int)) = j_ := ⟨_, rfl⟩
      replace H : (if 0 ≤ (ji14) then (if (ji14) < (s0_0.length : Int) then (if 0 ≤ (Int.tmod (wrap64 ((wrap64 ((wrap64 ((wrap64 (s0_1 + 1)) - 1)) * 7)) + 3)) (s0_0.length : Int)) then (if (Int.tmod (wrap64 ((wrap64 ((wrap64 ((wrap64 (s0_1 + 1)) - 1)) * 7)) + 3)) (s0_0.length : Int)) < (s0_0.length : Int) then (if a1 = 0 then (none) else (some (Int.tmod (Go.bits .xor .i64 (wrap64 ((wrap64 ((wrap64 ((wrap64 ((wrap64 (rd s0_0 (ji14))) * 131)) + (wrap64 ((wrap64 (rd s0_0 (Int.tmod (wrap64 ((wrap64 ((wrap64 ((wrap64 (s0_1 + 1)) - 1)) * 7)) + 3)) (s0_0.length : Int)))) * 1117)))) + (wrap64 ((wrap64 ((wrap64 (s0_1 + 1)) - 1)) * 29)))) + (wrap64 ((wrap64 (Int.tdiv (wrap64 ((wrap64 (s0_1 + 1)) - 1)) (s0_0.length : Int))) * 53)))) (wrap64 (Int.tdiv (wrap64 ((wrap64 ((wrap64 ((wrap64 ((wrap64 (rd s0_0 (ji14))) * 131)) + (wrap64 ((wrap64 (rd s0_0 (Int.tmod (wrap64 ((wrap64 ((wrap64 ((wrap64 (s0_1 + 1)) - 1)) * 7)) + 3)) (s0_0.length : Int)))) * 1117)))) + (wrap64 ((wrap64 ((wrap64 (s0_1 + 1)) - 1)) * 29)))) + (wrap64 ((wrap64 (Int.tdiv (wrap64 ((wrap64 (s0_1 + 1)) - 1)) (s0_0.length : Int))) * 53)))) 64))) a1, (wrap64 (s0_1 + 1))))) else (none)) else (none)) else (none)) else (none)) = some (r1, r2) := by first | (rw [hji14] at H; exact H) | (simp only [hji14] at H ⊢; exact H)
      by_cases c15 : 0 ≤ (ji14)
      ·rw [if_pos c15] at H
       have c15b0 : decide (0 ≤ (ji14)) = true := decide_eq_true c15
       clear c15
       by_cases c16 : (ji14) < (s0_0.length : Int)
       ·rw [if_pos c16] at H
        have c16b0 : decide ((ji14) < (s0_0.length : Int)) = true := decide_eq_true c16
        clear c16
        obtain ⟨ji17, hji17⟩ : ∃ j_ : Int, (Int.tmod (wrap64 ((wrap64 ((wrap64 ((wrap64 (s0_1 + 1)) - 1)) * 7)) + 3)) (s0_0.length : Int)) = j_ := ⟨_, rfl⟩
        replace H : (if 0 ≤ (ji17) then (if (ji17) < (s0_0.length : Int) then (if a1 = 0 then (none) else (some (Int.tmod (Go.bits .xor .i64 (wrap64 ((wrap64 ((wrap64 ((wrap64 ((wrap64 (rd s0_0 (ji14))) * 131)) + (wrap64 ((wrap64 (rd s0_0 (ji17))) * 1117)))) + (wrap64 ((wrap64 ((wrap64 (s0_1 + 1)) - 1)) * 29)))) + (wrap64 ((wrap64 (Int.tdiv (wrap64 ((wrap64 (s0_1 + 1)) - 1)) (s0_0.length : Int))) * 53)))) (wrap64 (Int.tdiv (wrap64 ((wrap64 ((wrap64 ((wrap64 ((wrap64 (rd s0_0 (ji14))) * 131)) + (wrap64 ((wrap64 (rd s0_0 (ji17))) * 1117)))) + (wrap64 ((wrap64 ((wrap64 (s0_1 + 1)) - 1)) * 29)))) + (wrap64 ((wrap64 (Int.tdiv (wrap64 ((wrap64 (s0_1 + 1)) - 1)) (s0_0.length : Int))) * 53)))) 64))) a1, (wrap64 (s0_1 + 1))))) else (none)) else (none)) = some (r1, r2) := by first | (rw [hji17] at H; exact H) | (simp only [hji17] at H ⊢; exact H)
        by_cases c18 : 0 ≤ (ji17)
        ·rw [if_pos c18] at H
         have c18b0 : decide (0 ≤ (ji17)) = true := decide_eq_true c18
         clear c18
         by_cases c19 : (ji17) < (s0_0.length : Int)
         ·rw [if_pos c19] at H
          have c19b0 : decide ((ji17) < (s0_0.length : Int)) = true := decide_eq_true c19
          clear c19
          by_cases c20 : a1 = 0
          ·rw [if_pos c20] at H
           exact absurd H (by simp)
          ·rw [if_neg c20] at H
           have c20b0 : (a1 == 0) = false := beq_eq_false_iff_ne.mpr c20
           have c20b1 : (a1 != 0) = true := bne_iff_ne.mpr c20
           simp only [Option.some.injEq, Prod.mk.injEq] at H
           obtain ⟨rfl, rfl⟩ := H
           obtain ⟨ASz21_0, cSz21_0, HGz21, hgz21, HSz21_0⟩ := HI0.out
           have hcz21_0 := cellS76_0 HGz21
           have hcz21_1 := cellS76_1 HGz21
           have hfz21_1 := blk_frozen HGz21 1
           clear HGz21 hgz21
           have p105 : 0 ≤ ((ji14) : Int) := dd_
           have q105 : (ji14) < (s0_0.length : Int) := dd_
           obtain ⟨ad105, e105, hx105_0⟩ := Kd.at_int HSz21_0 (ji14) p105 q105
           cases e105
           replace hx105_0 := pw_cell_below HB.out hx105_0
           replace p105 := eq_true p105
           replace q105 := eq_true q105
           have p106 : 0 ≤ ((ji17) : Int) := dd_
           have q106 : (ji17) < (s0_0.length : Int) := dd_
           obtain ⟨ad106, e106, hx106_0⟩ := Kd.at_int HSz21_0 (ji17) p106 q106
           obtain rfl : ad105 = ad106 := (by injection e106)
           replace hx106_0 := pw_cell_below HB.out hx106_0
           replace p106 := eq_true p106
           replace q106 := eq_true q106
           go_wp2
           repeat (go_quiet (fail); try go_wp2)
           go_ret
           exact ⟨by first | rfl | (simp [errW_none, errW_some] <;> rfl) | (simp only [← hji14, ← hji17]; first | rfl | (simp [errW_none, errW_some] <;> rfl)) | (simp [*, errW_none, errW_some] <;> rfl), by repeat (first | (with_reducible first | exact HI0.out | apply IsS76.alloc | apply IsS76.drewN | apply IsS76.drew | apply IsS76.set_1) | exact HI0.out), by repeat (first | (with_reducible first | exact HB.out | apply below_alloc | apply pw_below_drewN | apply below_drew1 | refine below_set ?_ (IsS76.ge HI0.out)) | exact HB.out), by repeat (first | (with_reducible first | exact HK.out | apply KeepBut.set_ | apply keep_drewN | apply keep_drew | apply keep_alloc) | exact HK.out)⟩
         ·rw [if_neg c19] at H
          exact absurd H (by simp)
        ·rw [if_neg c18] at H
         exact absurd H (by simp)
       ·rw [if_neg c16] at H
        exact absurd H (by simp)
      ·rw [if_neg c15] at H
       exact absurd H (by simp)
end Go.Proofs.Ytcbkoecanldlpaa.P
