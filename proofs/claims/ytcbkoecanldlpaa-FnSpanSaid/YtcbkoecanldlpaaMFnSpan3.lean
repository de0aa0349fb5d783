/- The law FnSpan of the given program: for every input the call returns true, and each argument reads afterwards as it read before. No conditions. (Part 4 of 4; the last part holds the theorem.) -/
import Derived.Test.YtcbkoecanldlpaaMFnSpan0
import Derived.Test.YtcbkoecanldlpaaMFnSpan1
import Derived.Test.YtcbkoecanldlpaaMFnSpan2
import Derived.Test.YtcbkoecanldlpaaRows
import Derived.WalkKit
import Derived.ProofKit
import Derived.OpenShut
import Derived.ShutString
import Derived.ChangeOld
import Derived.Below
import Derived.SizedLaws
import Derived.Test.YtcbkoecanldlpaaWSized
namespace Go.Proofs.Ytcbkoecanldlpaa.P
open Go.RowKit Go.Proofs.YtcbkoecanldlpaaW.PrintWords Go.Proofs.YtcbkoecanldlpaaW.PrintLast
set_option linter.unusedVariables false
set_option linter.unusedSimpArgs false

/-! ### spec_l3Points: function 162 -/
def spec_l3Points.l0 : Nat → List Int → Int → List Int → Int → Option (List Int)
 | 0, _, _, _, _ => none
 | k + 1, x0, x1, x5, x6 => if x6 < 91 then ((spec_l3On.f x0 x6 x1).bind fun t188 => (if t188 = true then (if x5.length < 17592186044416 then (spec_l3Points.l0 k x0 x1 (x5 ++ [x6]) (wrap64 (x6 + 1))) else (none)) else (spec_l3Points.l0 k x0 x1 x5 (wrap64 (x6 + 1))))) else (some x5)
def spec_l3Points.f (k : Nat) (l0 : List Int) (a1 : Int) : Option (List Int) := spec_l3Points.l0 k l0 a1 (([] : List Int)) 0
set_option maxHeartbeats 8000000 in
set_option maxRecDepth 100000 in
theorem spec_l3Points.calls (k : Nat) (A0 : Option Addr) (c0 : Nat) (l0 : List Int) (a1 : Int) (r : List Int) (w : World) (hr0 : Kd.C (Kd.int .i64) w A0 l0.length l0) (hc0 : l0.length ≤ c0) (h : spec_l3Points.f k l0 a1 = some r) :
  Calls Try.prog 162 #[.slice A0 l0.length c0, .int .i64 a1] w fun e w' => ∃ v0_ : Value, e = .returned (v0_) ∧ Kd.R (Kd.int .i64) 3 w' w.heap.size (fun _ => True) v0_ r ∧ Below w.heap.size w w' := by
 have HR0 := Aside0.mk hr0
 have HC0 := Aside0.mk hc0
 clear hr0 hc0
 have HB := Aside0.mk (Below.refl w.heap.size w)
 have H : (spec_l3Points.l0 k l0 a1 (([] : List Int)) 0) = some r := h
 clear h
 obtain ⟨y185, hy185⟩ : ∃ y_ : List Int, y_ = (([] : List Int)) := ⟨_, rfl⟩
 replace H : (spec_l3Points.l0 k l0 a1 y185 0) = some r := by first | (rw [hy185]; with_reducible exact H) | (have H2_ := (Option.bind_some _ _).symm.trans H; rw [hy185]; with_reducible exact H2_) | (have H2_ := (Option.bind_some _ _).symm.trans H; with_reducible exact H2_) | with_reducible exact H | (rw [hy185]; exact H) | exact H
 have Ny185 := Aside0.mk hy185
 clear hy185
 have H' := Aside0.mk H
 clear H
 go_enter Try.func162, Try.ntmps162
 go_wp2_with (first | ((with_reducible refine gate_dst (N := 7) rfl ?_); refine Kd.R_lit (Kd.int .i64) _ 3 ?hg (N := 7) ?hd (xs := ([] : List Int)) (inner := []) (ok := fun _ => True) (okp := fun _ => True) ?hr ?hp (fun _ hk => hk) trivial (Below.refl _ _) (Nat.le_refl _) (by simp) ?_; (case hd => rfl); (case hg => rfl); (case hr => first | (go_simp; done) | (go_simp; rfl)); (case hp => exact (Reps.none _ _)); intro v186 w3 ho4 hb hg_ hnew_; clear hg_ hnew_; (first | rw [← Ny185.out] at ho4 | (simp only [Int.reduceToNat] at ho4; rw [← Ny185.out] at ho4)); have n0_ := Aside0.mk (Kd.R_lower ho4 (below_size (by repeat (first | (with_reducible first | exact HB.out | apply below_alloc | apply pw_below_drewN | apply below_drew1) | exact HB.out)))); have n1_ := Aside0.mk (below_step (by repeat (first | (with_reducible first | exact HB.out | apply below_alloc | apply pw_below_drewN | apply below_drew1) | exact HB.out)) hb); clear HB; have HO187 := n0_; have HB := n1_; clear n0_ n1_; clear hb ho4))
 go_loopg [5, 6] k (fun kq v5 v6 w' => ∃ (x5_1 : List Int) (x6_1 : Int), v6 = .int .i64 x6_1 ∧ Aside0 (spec_l3Points.l0 kq l0 a1 x5_1 x6_1 = some r) ∧ Aside0 (kq ≤ k) ∧ Aside0 (Kd.R (Kd.int .i64) 3 w' w.heap.size (fun _ => True) v5 x5_1) ∧ Aside0 (Below w.heap.size w w'))
 case atStart => exact ⟨(y185), (0), (by first | rfl | (simp; done) | (simp [*]; done)), H', ⟨Nat.le_refl _⟩, ⟨by (with_reducible repeat (first | apply Kd.R_alloc | apply Kd.R_drewN | apply Kd.R_drew)); exact HO187.out⟩, ⟨by repeat (first | (with_reducible first | exact HB.out | apply below_alloc | apply pw_below_drewN | apply below_drew1) | exact HB.out)⟩⟩
 case round =>
  clear H'
  try clear c1
  try clear p2
  obtain ⟨x5_1, x6_1, rfl, HA, HK1, HO_5, HB⟩ := hrel
  cases gk with
  | zero => exact absurd HA.out (by simp [spec_l3Points.l0])
  | succ k1 =>
   have H := HA.out
   clear HA
   simp only [spec_l3Points.l0] at H
   by_cases c5 : x6_1 < 91
   ·rw [if_pos c5] at H
    have c5b0 : decide (x6_1 < 91) = true := decide_eq_true c5
    clear c5
    replace H := Option.bind_eq_some_iff.mp H
    obtain ⟨t188, A60, H⟩ := H
    replace H : (if t188 = true then (if x5_1.length < 17592186044416 then (spec_l3Points.l0 k1 l0 a1 (x5_1 ++ [x6_1]) (wrap64 (x6_1 + 1))) else (none)) else (spec_l3Points.l0 k1 l0 a1 x5_1 (wrap64 (x6_1 + 1)))) = some r := H
    have A6 := Aside0.mk A60
    clear A60
    by_cases c7 : t188 = true
    ·subst c7
     have H1 : (if x5_1.length < 17592186044416 then (spec_l3Points.l0 k1 l0 a1 (x5_1 ++ [x6_1]) (wrap64 (x6_1 + 1))) else (none)) = some r := by rw [if_pos rfl] at H; exact H
     clear H
     have H := H1
     clear H1
     by_cases c8 : x5_1.length < 17592186044416
     ·rw [if_pos c8] at H
      have LMc8 := Aside0.mk c8
      clear c8
      obtain ⟨y189, hy189⟩ : ∃ y_ : List Int, y_ = (x5_1 ++ [x6_1]) := ⟨_, rfl⟩
      replace H : (spec_l3Points.l0 k1 l0 a1 y189 (wrap64 (x6_1 + 1))) = some r := by first | (rw [hy189]; with_reducible exact H) | (have H2_ := (Option.bind_some _ _).symm.trans H; rw [hy189]; with_reducible exact H2_) | (have H2_ := (Option.bind_some _ _).symm.trans H; with_reducible exact H2_) | with_reducible exact H | (rw [hy189]; exact H) | exact H
      have Ny189 := Aside0.mk hy189
      clear hy189
      have H' := Aside0.mk H
      clear H
      go_wp2_with (first | (refine goesL_ (some 15) rfl rfl Try.func106 (by kernel_rfl) rfl #[.slice A0 l0.length c0, .int .i64 x6_1, .int .i64 a1] rfl (by (try simp only [List.map_toArray, List.map_cons, List.map_nil]); first | done | rfl | (simp only [List.length_drop, List.length_take]; rfl)) ?_; (with_reducible refine (spec_l3On.calls _ _ l0 x6_1 a1 true _ ?side1 ?side2 A6.out).mono ?_); (case side1 => repeat (first | exact (Kd.C_below HR0.out HB.out) | (with_reducible refine Kd.C_alloc ?_ _) | (with_reducible refine Kd.C_drewN ?_ _) | (with_reducible refine Kd.C_drew ?_))); (case side2 => exact HC0.out); rintro e w' ⟨rfl, ⟨nd, rfl⟩⟩; refine ⟨_, rfl, ?_⟩) | (at_builtin; refine Kd.R_append (Kd.int .i64) (w0 := w) w.heap.size rfl (.tmp 16) (.tmp 18) 23 3 (.int .i64 0) 8 rfl Try.underlying23 info3 rfl (by decide) (by omega) u5 x5_1 x6_1 [.int .i64 x6_1] (fun _ => True) (fun _ => False) rfl rfl ?aP (fun _ hk => hk.elim) ?aF ?aO ?aB ?aS ?aL ?_; (case aP => exact rfl); (case aB => exact (by repeat (first | (with_reducible first | exact HB.out | apply below_alloc | apply pw_below_drewN | apply below_drew1) | exact HB.out))); (case aF => exact (fun _ _ => trivial)); (case aO => exact (by (with_reducible repeat (first | apply Kd.R_alloc | apply Kd.R_drewN | apply Kd.R_drew)); exact HO_5.out)); (case aS => exact (below_size (by repeat (first | (with_reducible first | exact HB.out | apply below_alloc | apply pw_below_drewN | apply below_drew1) | exact HB.out)))); (case aL => have := LMc8.out; omega); intro v190 w9 ho hb hg hat; rw [← Ny189.out] at ho; have n0_ := Aside0.mk (hb); have n1_ := Aside0.mk (ho); clear HB; clear HO_5; have HB := n0_; have HO191 := n1_; clear n0_ n1_; clear ho hb hg hat))
      go_roundg k1
      case measure => have := HK1.out; omega
      case rel => exact ⟨(y189), (wrap64 (x6_1 + 1)), (by first | rfl | (simp; done) | (simp [*]; done)), H', ⟨by have := HK1.out; omega⟩, ⟨by (with_reducible repeat (first | apply Kd.R_alloc | apply Kd.R_drewN | apply Kd.R_drew)); exact HO191.out⟩, ⟨by repeat (first | (with_reducible first | exact HB.out | apply below_alloc | apply pw_below_drewN | apply below_drew1) | exact HB.out)⟩⟩
     ·rw [if_neg c8] at H
      exact absurd H (by simp)
    ·replace c7 := Bool.eq_false_iff.mpr c7
     subst c7
     have H1 : (spec_l3Points.l0 k1 l0 a1 x5_1 (wrap64 (x6_1 + 1))) = some r := by rw [if_neg (show ¬ (false = true) by decide)] at H; exact H
     clear H
     have H := H1
     clear H1
     have H' := Aside0.mk H
     clear H
     go_wp2_with (first | (refine goesL_ (some 15) rfl rfl Try.func106 (by kernel_rfl) rfl #[.slice A0 l0.length c0, .int .i64 x6_1, .int .i64 a1] rfl (by (try simp only [List.map_toArray, List.map_cons, List.map_nil]); first | done | rfl | (simp only [List.length_drop, List.length_take]; rfl)) ?_; (with_reducible refine (spec_l3On.calls _ _ l0 x6_1 a1 false _ ?side1 ?side2 A6.out).mono ?_); (case side1 => repeat (first | exact (Kd.C_below HR0.out HB.out) | (with_reducible refine Kd.C_alloc ?_ _) | (with_reducible refine Kd.C_drewN ?_ _) | (with_reducible refine Kd.C_drew ?_))); (case side2 => exact HC0.out); rintro e w' ⟨rfl, ⟨nd, rfl⟩⟩; refine ⟨_, rfl, ?_⟩))
     go_roundg k1
     case measure => have := HK1.out; omega
     case rel => exact ⟨(x5_1), (wrap64 (x6_1 + 1)), (by first | rfl | (simp; done) | (simp [*]; done)), H', ⟨by have := HK1.out; omega⟩, ⟨by (with_reducible repeat (first | apply Kd.R_alloc | apply Kd.R_drewN | apply Kd.R_drew)); exact HO_5.out⟩, ⟨by repeat (first | (with_reducible first | exact HB.out | apply below_alloc | apply pw_below_drewN | apply below_drew1) | exact HB.out)⟩⟩
   ·rw [if_neg c5] at H
    have c5b0 : decide (x6_1 < 91) = false := decide_eq_false c5
    clear c5
    obtain rfl := Option.some.inj H
    go_wp2
    go_ret
    exact ⟨_, by first | rfl | (simp [errW_none, errW_some] <;> rfl) | (simp [*, errW_none, errW_some] <;> rfl), by (with_reducible repeat (first | apply Kd.R_alloc | apply Kd.R_drewN | apply Kd.R_drew)); exact HO_5.out, by repeat (first | (with_reducible first | exact HB.out | apply below_alloc | apply pw_below_drewN | apply below_drew1) | exact HB.out)⟩


end Go.Proofs.Ytcbkoecanldlpaa.P

namespace Go.Proofs.Ytcbkoecanldlpaa.P
open Go.RowKit Go.Proofs.YtcbkoecanldlpaaW.PrintWords Go.Proofs.YtcbkoecanldlpaaW.PrintLast
set_option linter.unusedVariables false
set_option linter.unusedSimpArgs false

/-! ### spec_l3Join: function 66 -/
def spec_l3Join.l0 : Nat → List Int → Int → Int → Int → Option (Int)
 | 0, _, _, _, _ => none
 | k + 1, x0, x1, x2, x7 => if x7 < 91 then ((spec_l3On.f x0 x1 x7).bind fun t178 => (if t178 = true then ((spec_l3On.f x0 x2 x7).bind fun t179 => (if t179 = true then (some x7) else (spec_l3Join.l0 k x0 x1 x2 (wrap64 (x7 + 1))))) else (spec_l3Join.l0 k x0 x1 x2 (wrap64 (x7 + 1))))) else (some 0)
def spec_l3Join.f (k : Nat) (l0 : List Int) (a1 : Int) (a2 : Int) : Option (Int) := spec_l3Join.l0 k l0 a1 a2 0
set_option maxHeartbeats 8000000 in
set_option maxRecDepth 100000 in
theorem spec_l3Join.calls (k : Nat) (A0 : Option Addr) (c0 : Nat) (l0 : List Int) (a1 : Int) (a2 : Int) (r : Int) (w : World) (hr0 : Kd.C (Kd.int .i64) w A0 l0.length l0) (hc0 : l0.length ≤ c0) (h : spec_l3Join.f k l0 a1 a2 = some r) :
  Calls Try.prog 66 #[.slice A0 l0.length c0, .int .i64 a1, .int .i64 a2] w fun e w' => e = .returned (.int .i64 r) ∧ Drawn0 w w' := by
 have HR0 := Aside0.mk hr0
 have HC0 := Aside0.mk hc0
 clear hr0 hc0
 have H : (spec_l3Join.l0 k l0 a1 a2 0) = some r := h
 clear h
 have H' := Aside0.mk H
 clear H
 go_enter Try.func66, Try.ntmps66
 go_wp2
 go_loopg [7] k (fun kq v7 w' => ∃ (x7_1 : Int), v7 = .int .i64 x7_1 ∧ Aside0 (spec_l3Join.l0 kq l0 a1 a2 x7_1 = some r) ∧ Aside0 (kq ≤ k) ∧ Drawn0 w w')
 case atStart => exact ⟨(0), (by first | rfl | (simp; done) | (simp [*]; done)), H', ⟨Nat.le_refl _⟩, by repeat (first | exact Drawn0.refl _ | apply Drawn0.step)⟩
 case round =>
  clear H'
  try clear p2
  obtain ⟨x7_1, rfl, HA, HK1, ⟨m1, rfl⟩⟩ := hrel
  cases gk with
  | zero => exact absurd HA.out (by simp [spec_l3Join.l0])
  | succ k1 =>
   have H := HA.out
   clear HA
   simp only [spec_l3Join.l0] at H
   by_cases c4 : x7_1 < 91
   ·rw [if_pos c4] at H
    have c4b0 : decide (x7_1 < 91) = true := decide_eq_true c4
    clear c4
    replace H := Option.bind_eq_some_iff.mp H
    obtain ⟨t178, A50, H⟩ := H
    replace H : (if t178 = true then ((spec_l3On.f l0 a2 x7_1).bind fun t179 => (if t179 = true then (some x7_1) else (spec_l3Join.l0 k1 l0 a1 a2 (wrap64 (x7_1 + 1))))) else (spec_l3Join.l0 k1 l0 a1 a2 (wrap64 (x7_1 + 1)))) = some r := H
    have A5 := Aside0.mk A50
    clear A50
    by_cases c6 : t178 = true
    ·subst c6
     have H1 : ((spec_l3On.f l0 a2 x7_1).bind fun t179 => (if t179 = true then (some x7_1) else (spec_l3Join.l0 k1 l0 a1 a2 (wrap64 (x7_1 + 1))))) = some r := by rw [if_pos rfl] at H; exact H
     clear H
     have H := H1
     clear H1
     replace H := Option.bind_eq_some_iff.mp H
     obtain ⟨t179, A70, H⟩ := H
     replace H : (if t179 = true then (some x7_1) else (spec_l3Join.l0 k1 l0 a1 a2 (wrap64 (x7_1 + 1)))) = some r := H
     have A7 := Aside0.mk A70
     clear A70
     by_cases c8 : t179 = true
     ·subst c8
      have H1 : (some x7_1) = some r := by rw [if_pos rfl] at H; exact H
      clear H
      have H := H1
      clear H1
      obtain rfl := Option.some.inj H
      go_wp2_with (first | (refine goesL_ (some 15) rfl rfl Try.func106 (by kernel_rfl) rfl #[.slice A0 l0.length c0, .int .i64 a1, .int .i64 x7_1] rfl (by (try simp only [List.map_toArray, List.map_cons, List.map_nil]); first | done | rfl | (simp only [List.length_drop, List.length_take]; rfl)) ?_; (with_reducible refine (spec_l3On.calls _ _ l0 a1 x7_1 true _ ?side1 ?side2 A5.out).mono ?_); (case side1 => repeat (first | exact HR0.out | (with_reducible refine Kd.C_alloc ?_ _) | (with_reducible refine Kd.C_drewN ?_ _) | (with_reducible refine Kd.C_drew ?_))); (case side2 => exact HC0.out); rintro e w' ⟨rfl, ⟨nd, rfl⟩⟩; refine ⟨_, rfl, ?_⟩) | (go_at_call 106; (with_reducible refine (spec_l3On.calls _ _ l0 a2 x7_1 true _ ?side1 ?side2 A7.out).mono ?_); (case side1 => repeat (first | exact HR0.out | (with_reducible refine Kd.C_alloc ?_ _) | (with_reducible refine Kd.C_drewN ?_ _) | (with_reducible refine Kd.C_drew ?_))); (case side2 => exact HC0.out); rintro e w' ⟨rfl, ⟨nd, rfl⟩⟩))
      go_ret
      exact ⟨by first | rfl | (simp; done) | (simp [*]; done), by repeat (first | exact Drawn0.refl _ | apply Drawn0.step)⟩
     ·replace c8 := Bool.eq_false_iff.mpr c8
      subst c8
      have H1 : (spec_l3Join.l0 k1 l0 a1 a2 (wrap64 (x7_1 + 1))) = some r := by rw [if_neg (show ¬ (false = true) by decide)] at H; exact H
      clear H
      have H := H1
      clear H1
      have H' := Aside0.mk H
      clear H
      go_wp2_with (first | (refine goesL_ (some 15) rfl rfl Try.func106 (by kernel_rfl) rfl #[.slice A0 l0.length c0, .int .i64 a1, .int .i64 x7_1] rfl (by (try simp only [List.map_toArray, List.map_cons, List.map_nil]); first | done | rfl | (simp only [List.length_drop, List.length_take]; rfl)) ?_; (with_reducible refine (spec_l3On.calls _ _ l0 a1 x7_1 true _ ?side1 ?side2 A5.out).mono ?_); (case side1 => repeat (first | exact HR0.out | (with_reducible refine Kd.C_alloc ?_ _) | (with_reducible refine Kd.C_drewN ?_ _) | (with_reducible refine Kd.C_drew ?_))); (case side2 => exact HC0.out); rintro e w' ⟨rfl, ⟨nd, rfl⟩⟩; refine ⟨_, rfl, ?_⟩) | (go_at_call 106; (with_reducible refine (spec_l3On.calls _ _ l0 a2 x7_1 false _ ?side1 ?side2 A7.out).mono ?_); (case side1 => repeat (first | exact HR0.out | (with_reducible refine Kd.C_alloc ?_ _) | (with_reducible refine Kd.C_drewN ?_ _) | (with_reducible refine Kd.C_drew ?_))); (case side2 => exact HC0.out); rintro e w' ⟨rfl, ⟨nd, rfl⟩⟩))
      go_roundg k1
      case measure => have := HK1.out; omega
      case rel => exact ⟨(wrap64 (x7_1 + 1)), (by first | rfl | (simp; done) | (simp [*]; done)), H', ⟨by have := HK1.out; omega⟩, by repeat (first | exact Drawn0.refl _ | apply Drawn0.step)⟩
    ·replace c6 := Bool.eq_false_iff.mpr c6
     subst c6
     have H1 : (spec_l3Join.l0 k1 l0 a1 a2 (wrap64 (x7_1 + 1))) = some r := by rw [if_neg (show ¬ (false = true) by decide)] at H; exact H
     clear H
     have H := H1
     clear H1
     have H' := Aside0.mk H
     clear H
     go_wp2_with (first | (refine goesL_ (some 15) rfl rfl Try.func106 (by kernel_rfl) rfl #[.slice A0 l0.length c0, .int .i64 a1, .int .i64 x7_1] rfl (by (try simp only [List.map_toArray, List.map_cons, List.map_nil]); first | done | rfl | (simp only [List.length_drop, List.length_take]; rfl)) ?_; (with_reducible refine (spec_l3On.calls _ _ l0 a1 x7_1 false _ ?side1 ?side2 A5.out).mono ?_); (case side1 => repeat (first | exact HR0.out | (with_reducible refine Kd.C_alloc ?_ _) | (with_reducible refine Kd.C_drewN ?_ _) | (with_reducible refine Kd.C_drew ?_))); (case side2 => exact HC0.out); rintro e w' ⟨rfl, ⟨nd, rfl⟩⟩; refine ⟨_, rfl, ?_⟩))
     go_roundg k1
     case measure => have := HK1.out; omega
     case rel => exact ⟨(wrap64 (x7_1 + 1)), (by first | rfl | (simp; done) | (simp [*]; done)), H', ⟨by have := HK1.out; omega⟩, by repeat (first | exact Drawn0.refl _ | apply Drawn0.step)⟩
   ·rw [if_neg c4] at H
    have c4b0 : decide (x7_1 < 91) = false := decide_eq_false c4
    clear c4
    obtain rfl := Option.some.inj H
    go_wp2
    go_ret
    exact ⟨by first | rfl | (simp; done) | (simp [*]; done), by repeat (first | exact Drawn0.refl _ | apply Drawn0.step)⟩


end Go.Proofs.Ytcbkoecanldlpaa.P

set_option linter.unusedVariables false
set_option linter.unusedSimpArgs false
namespace Go.Proofs.Ytcbkoecanldlpaa.X
open Go.RowKit Go.Proofs.YtcbkoecanldlpaaW.PrintWords Go.Proofs.YtcbkoecanldlpaaW.PrintLast Go.Proofs.Ytcbkoecanldlpaa.P

theorem l3In_eq (p : Int) : spec_l3In.f p = some (ptB p) := by
  unfold spec_l3In.f ptB
  rw [l6In_eq]
  show some _ = _
  rw [show decide (p ≤ 90) = decide (p < 91) from decide_eq_decide.2 (by omega)]
theorem l3On_eq {t : List Int} (hn : ninesB t 81 = true) {p l : Int} (hp : In91 p) (hl : In91 l) : spec_l3On.f t p l = some (onB t p l) := by
  obtain ⟨p0, p1⟩ := hp
  obtain ⟨l0, l1⟩ := hl
  have hlen := (ninesB_iff.1 hn).1
  unfold spec_l3On.f onB
  by_cases h90 : l = 90
  · rw [if_pos h90, if_pos h90]
  rw [if_neg h90, if_neg h90]
  by_cases h81 : l ≥ 81
  · rw [if_pos h81, if_pos h81]
    by_cases hp90 : p = 90
    · rw [if_pos hp90, decide_eq_true hp90]; rfl
    · rw [if_neg hp90, decide_eq_false hp90, Bool.false_or]
      by_cases hpn : p < 81
      · rw [if_pos hpn, decide_eq_true hpn, Bool.true_and]
        simp (disch := omega) only [w64, tdiv_nn]
        rfl
      · rw [if_neg hpn, decide_eq_false hpn, Bool.false_and]
  · rw [if_neg h81, if_neg h81]
    by_cases hpf : p ≥ 81
    · rw [if_pos hpf, if_pos hpf]
      simp (disch := omega) only [w64, tdiv_nn]
      refine congrArg some ?_
      rw [show decide (p = 81 + l / 9) = decide (p - 81 = l / 9) from decide_eq_decide.2 (by omega)]
      rfl
    · rw [if_neg hpf, if_neg hpf]
      have hr := nines_rd hn (i := 9 * (p / 9) + l / 9) (by omega) (by omega)
      have ha := spec_l1Add_eq (rd t (9 * (p / 9) + l / 9)) (l % 9) hr ⟨by omega, by omega⟩
      simp (disch := omega) only [w64, tdiv_nn, tmod_nn]
      rw [show p / 9 * 9 = 9 * (p / 9) by omega, if_pos (by omega), if_pos (by omega), ha]
      rfl
theorem l3Points_loop {t : List Int} (hn : ninesB t 81 = true) {l : Int} (hl : In91 l) (d : Nat) : ∀ (i : Nat), i + d = 91 → Ev (fun k => spec_l3Points.l0 k t l (filI i fun p => onB t p l) (i : Int)) (pointsL t l) := by
  induction d with
  | zero =>
    intro i h1
    have e : i = 91 := by omega
    subst e
    refine Ev.step (fun k => by rw [spec_l3Points.l0]) ?_
    exact Ev.neg (by omega) (Ev.done rfl)
  | succ d ih =>
    intro i h1
    have hlen := filI_length_le i fun p => onB t p l
    have e1 := l3On_eq hn (p := (i : Int)) ⟨by omega, by omega⟩ hl
    have nx := ih (i + 1) (by omega)
    rw [filI_succ] at nx
    have z : wrap64 ((i : Int) + 1) = ((i + 1 : Nat) : Int) := by rw [w64 (by omega) (by omega)]; rfl
    refine Ev.step (fun k => by rw [spec_l3Points.l0]) ?_
    rw [z]
    refine Ev.pos (by omega) (Ev.fix e1 ?_)
    by_cases a : onB t (i : Int) l = true
    · rw [if_pos a] at nx
      exact Ev.pos a (Ev.pos (by omega) nx)
    · rw [if_neg a, List.append_nil] at nx
      exact Ev.neg a nx
theorem l3Points_ev {t : List Int} (hn : ninesB t 81 = true) {l : Int} (hl : In91 l) : Ev (fun k => spec_l3Points.f k t l) (pointsL t l) :=
  l3Points_loop hn hl 91 0 (by omega)
theorem l3Join_loop {t : List Int} (hn : ninesB t 81 = true) {p q : Int} (hp : In91 p) (hq : In91 q) (hj : ∃ l : Int, 0 ≤ l ∧ l < 91 ∧ onB t p l = true ∧ onB t q l = true) (d : Nat) : ∀ (i : Int), 0 ≤ i → i + d = 91 → (∀ l : Int, 0 ≤ l → l < i → (onB t p l && onB t q l) = false) → Ev (fun k => spec_l3Join.l0 k t p q i) (joinI t p q) := by
  induction d with
  | zero =>
    intro i h0 h1 h
    obtain ⟨l, l0, l1, a, b⟩ := hj
    have := h l l0 (by omega)
    rw [a, b] at this; exact absurd this (by decide)
  | succ d ih =>
    intro i h0 h1 h
    have e1 := l3On_eq hn hp (l := i) ⟨h0, by omega⟩
    have e2 := l3On_eq hn hq (l := i) ⟨h0, by omega⟩
    refine Ev.step (fun k => by rw [spec_l3Join.l0]) ?_
    simp (disch := omega) only [w64, e1, e2, Option.bind_some]
    refine Ev.pos (by omega) ?_
    have next : (onB t p i && onB t q i) = false → Ev (fun k => spec_l3Join.l0 k t p q (i + 1)) (joinI t p q) := fun hb => ih (i + 1) (by omega) (by omega) fun l l0 l1 => by
      by_cases e : l = i
      · rw [e]; exact hb
      · exact h l l0 (by omega)
    by_cases a : onB t p i = true
    · refine Ev.pos a ?_
      by_cases b : onB t q i = true
      · refine Ev.pos b (Ev.done ?_)
        unfold joinI
        rw [firstI_some i h0 (by omega) (by rw [a, b]; rfl) h]
      · exact Ev.neg b (next (by rw [Bool.eq_false_iff.2 b, Bool.and_false]))
    · exact Ev.neg a (next (by rw [Bool.eq_false_iff.2 a, Bool.false_and]))
/-- The join of two different points of a system's plane. -/
theorem l3Join_ev {t : List Int} (h : sysB t = true) {p q : Int} (hp : In91 p) (hq : In91 q) (hne : p ≠ q) : Ev (fun k => spec_l3Join.f k t p q) (joinI t p q) :=
  l3Join_loop (sysB_parts h).1 hp hq (join_ex h hp.1 hp.2 hq.1 hq.2 hne) 91 0 (by omega) (by omega) (fun l h0 h1 => by omega)

end Go.Proofs.Ytcbkoecanldlpaa.X

set_option linter.unusedVariables false
set_option linter.unusedSimpArgs false
namespace Go.Proofs.Ytcbkoecanldlpaa.X
open Go.RowKit Go.Proofs.YtcbkoecanldlpaaW.PrintWords Go.Proofs.YtcbkoecanldlpaaW.PrintLast Go.Proofs.Ytcbkoecanldlpaa.P

theorem l3Meet_loop {t : List Int} (hn : ninesB t 81 = true) {l m : Int} (hl : In91 l) (hm : In91 m) (hj : ∃ p : Int, 0 ≤ p ∧ p < 91 ∧ onB t p l = true ∧ onB t p m = true) (d : Nat) : ∀ (i : Int), 0 ≤ i → i + d = 91 → (∀ p : Int, 0 ≤ p → p < i → (onB t p l && onB t p m) = false) → Ev (fun k => spec_l3Meet.l0 k t l m i) (meetI t l m) := by
  induction d with
  | zero =>
    intro i h0 h1 h
    obtain ⟨p, p0, p1, a, b⟩ := hj
    have := h p p0 (by omega)
    rw [a, b] at this; exact absurd this (by decide)
  | succ d ih =>
    intro i h0 h1 h
    have e1 := l3On_eq hn (p := i) ⟨h0, by omega⟩ hl
    have e2 := l3On_eq hn (p := i) ⟨h0, by omega⟩ hm
    refine Ev.step (fun k => by rw [spec_l3Meet.l0]) ?_
    simp (disch := omega) only [w64, e1, e2, Option.bind_some]
    refine Ev.pos (by omega) ?_
    have next : (onB t i l && onB t i m) = false → Ev (fun k => spec_l3Meet.l0 k t l m (i + 1)) (meetI t l m) := fun hb => ih (i + 1) (by omega) (by omega) fun p p0 p1 => by
      by_cases e : p = i
      · rw [e]; exact hb
      · exact h p p0 (by omega)
    by_cases a : onB t i l = true
    · refine Ev.pos a ?_
      by_cases b : onB t i m = true
      · refine Ev.pos b (Ev.done ?_)
        unfold meetI
        rw [firstI_some i h0 (by omega) (by rw [a, b]; rfl) h]
      · exact Ev.neg b (next (by rw [Bool.eq_false_iff.2 b, Bool.and_false]))
    · exact Ev.neg a (next (by rw [Bool.eq_false_iff.2 a, Bool.false_and]))
theorem l3Meet_ev {t : List Int} (h : sysB t = true) {l m : Int} (hl : In91 l) (hm : In91 m) (hne : l ≠ m) : Ev (fun k => spec_l3Meet.f k t l m) (meetI t l m) :=
  l3Meet_loop (sysB_parts h).1 hl hm (meet_ex h hl.1 hl.2 hm.1 hm.2 hne) 91 0 (by omega) (by omega) (fun p h0 h1 => by omega)

end Go.Proofs.Ytcbkoecanldlpaa.X

set_option linter.unusedVariables false
set_option linter.unusedSimpArgs false
namespace Go.Proofs.Ytcbkoecanldlpaa.X
open Go.RowKit Go.Proofs.YtcbkoecanldlpaaW.PrintWords Go.Proofs.YtcbkoecanldlpaaW.PrintLast Go.Proofs.Ytcbkoecanldlpaa.P

/-! ### a list of bools -/
def bL (n : Nat) (s : Nat → Bool) : List Bool := (List.range n).map s
theorem bL_length (n : Nat) (s : Nat → Bool) : (bL n s).length = n := by simp [bL]
theorem bL_replicate (n : Nat) : List.replicate n false = bL n (fun _ => false) := by
  unfold bL; rw [List.map_const']; simp
theorem bL_rd {n : Nat} {s : Nat → Bool} (v : Int) (h0 : 0 ≤ v) (h1 : v < n) : rdOf false (bL n s) v = s v.toNat := by
  unfold rdOf bL
  rw [List.getD_eq_getElem?_getD, List.getElem?_map, List.getElem?_range (by omega)]
  rfl
theorem bL_set {n : Nat} {s : Nat → Bool} (v : Int) (b : Bool) : (bL n s).set v.toNat b = bL n (fun x => if x = v.toNat then b else s x) := by
  apply List.ext_getElem?
  intro i
  rw [List.getElem?_set]
  by_cases hi : i < n
  · by_cases hj : v.toNat = i
    · subst hj; simp [bL, hi]
    · simp [bL, hi, hj, Ne.symm hj]
  · by_cases hj : v.toNat = i
    · subst hj; simp [bL, hi]
    · simp [bL, hi, hj]
theorem bL_congr {n : Nat} {s s' : Nat → Bool} (h : ∀ j, j < n → s j = s' j) : bL n s = bL n s' := by
  unfold bL
  exact List.map_congr_left fun j hj => h j (List.mem_range.1 hj)
theorem bL_seen {n : Nat} (p : Int → Int) (i : Int) (h0 : 0 ≤ i) (v : Int) (hv0 : 0 ≤ v) (hv : p i = v) : (bL n (seenO p i)).set v.toNat true = bL n (seenO p (i + 1)) := by
  rw [bL_set]
  refine bL_congr fun j hj => ?_
  rw [seenO_succ p i h0 j, hv]
  by_cases e : j = v.toNat
  · subst e; rw [if_pos rfl, decide_eq_true (by omega), Bool.or_true]
  · rw [if_neg e, decide_eq_false (by omega), Bool.or_false]
theorem seenO_zero (p : Int → Int) (j : Nat) : seenO p 0 j = false := rfl

end Go.Proofs.Ytcbkoecanldlpaa.X

set_option linter.unusedVariables false
set_option linter.unusedSimpArgs false
namespace Go.Proofs.Ytcbkoecanldlpaa.X
open Go.RowKit Go.Proofs.YtcbkoecanldlpaaW.PrintWords Go.Proofs.YtcbkoecanldlpaaW.PrintLast Go.Proofs.Ytcbkoecanldlpaa.P

/-! ### l7Lines -/
def cntP (t : List Int) (s : Nat → Bool) (l : Int) (p : Nat) : Nat := cntL t (filI p fun p => s p.toNat) l
theorem cntP_succ (t : List Int) (s : Nat → Bool) (l : Int) (p : Nat) : cntP t s l (p + 1) = cntP t s l p + (if s p = true ∧ onB t (p : Int) l = true then 1 else 0) := by
  unfold cntP cntL
  rw [filI_succ, List.filter_append, List.length_append]
  have hz : ((p : Int)).toNat = p := by omega
  rw [hz]
  by_cases h1 : s p = true
  · by_cases h2 : onB t (p : Int) l = true
    · rw [if_pos h1, if_pos ⟨h1, h2⟩]; simp [h2]
    · rw [if_pos h1, if_neg (fun h => h2 h.2)]; simp [h2]
  · rw [if_neg h1, if_neg (fun h => h1 h.1)]; simp
theorem cntP_le (t : List Int) (s : Nat → Bool) (l : Int) (p : Nat) : cntP t s l p ≤ p := Nat.le_trans (cntL_le _ _ _) (filI_length_le _ _)
theorem l7Lines_l1 {t : List Int} (hn : ninesB t 81 = true) (s : Nat → Bool) (l : Nat) (hl : l < 91)
    (hr : Ev (fun k => spec_l7Lines.l0 k t (bL 91 s) (filI (l + 1) fun l => decide (1 < (cntL t (ptsS s) l : Int))) ((l + 1 : Nat) : Int)) (linesS t s)) (d : Nat) :
    ∀ p : Nat, p + d = 91 → Ev (fun k => spec_l7Lines.l1 k t (bL 91 s) (filI l fun l => decide (1 < (cntL t (ptsS s) l : Int))) (l : Int) (cntP t s l p : Int) (p : Int)) (linesS t s) := by
  have hlen := filI_length_le l fun l => decide (1 < (cntL t (ptsS s) l : Int))
  have zl : wrap64 ((l : Int) + 1) = ((l + 1 : Nat) : Int) := by rw [w64 (by omega) (by omega)]; rfl
  induction d with
  | zero =>
    intro p hp
    have e : p = 91 := by omega
    subst e
    refine Ev.step (fun k => by rw [spec_l7Lines.l1]) ?_
    rw [zl]
    refine Ev.neg (by omega) ?_
    have hc : cntP t s l 91 = cntL t (ptsS s) l := rfl
    rw [filI_succ] at hr
    by_cases h : 1 < (cntL t (ptsS s) (l : Int) : Int)
    · rw [decide_eq_true h, if_pos rfl] at hr
      exact Ev.pos (by rw [hc]; exact h) (Ev.pos (by omega) hr)
    · rw [decide_eq_false h, if_neg (by decide), List.append_nil] at hr
      exact Ev.neg (by rw [hc]; exact h) hr
  | succ d ih =>
    intro p hp
    have nx := ih (p + 1) (by omega)
    rw [cntP_succ] at nx
    have hle := cntP_le t s l p
    have zp : wrap64 ((p : Int) + 1) = ((p + 1 : Nat) : Int) := by rw [w64 (by omega) (by omega)]; rfl
    have zc : wrap64 ((cntP t s l p : Int) + 1) = ((cntP t s l p + 1 : Nat) : Int) := by rw [w64 (by omega) (by omega)]; rfl
    have hb : rdOf false (bL 91 s) (p : Int) = s p := by rw [bL_rd _ (by omega) (by omega)]; rfl
    refine Ev.step (fun k => by rw [spec_l7Lines.l1]) ?_
    rw [zp, zc, hb, bL_length]
    refine Ev.pos (by omega) (Ev.pos (by omega) (Ev.pos (by omega) ?_))
    by_cases h1 : s p = true
    · refine Ev.pos h1 (Ev.fix (l3On_eq hn (p := (p : Int)) (l := (l : Int)) ⟨by omega, by omega⟩ ⟨by omega, by omega⟩) ?_)
      by_cases h2 : onB t (p : Int) (l : Int) = true
      · rw [if_pos ⟨h1, h2⟩] at nx
        exact Ev.pos h2 nx
      · rw [if_neg (fun h => h2 h.2), Nat.add_zero] at nx
        exact Ev.neg h2 nx
    · rw [if_neg (fun h => h1 h.1), Nat.add_zero] at nx
      exact Ev.neg h1 nx
theorem l7Lines_l0 {t : List Int} (hn : ninesB t 81 = true) (s : Nat → Bool) (d : Nat) : ∀ l : Nat, l + d = 91 → Ev (fun k => spec_l7Lines.l0 k t (bL 91 s) (filI l fun l => decide (1 < (cntL t (ptsS s) l : Int))) (l : Int)) (linesS t s) := by
  induction d with
  | zero =>
    intro l hl
    have e : l = 91 := by omega
    subst e
    refine Ev.step (fun k => by rw [spec_l7Lines.l0]) ?_
    exact Ev.neg (by omega) (Ev.done rfl)
  | succ d ih =>
    intro l hl
    refine Ev.step (fun k => by rw [spec_l7Lines.l0]) ?_
    exact Ev.pos (by omega) (l7Lines_l1 hn s l (by omega) (ih (l + 1) (by omega)) 91 0 (by omega))
theorem l7Lines_ev {t : List Int} (hn : ninesB t 81 = true) (s : Nat → Bool) : Ev (fun k => spec_l7Lines.f k t (bL 91 s)) (linesS t s) := l7Lines_l0 hn s 91 0 (by omega)

/-! ### l7Span -/
theorem span_l4 {t : List Int} (s : Nat → Bool) (c : Int) (r : List Int) (hr : Ev (fun k => if ((ptsS s).length : Int) = c then some (ptsS s) else spec_l7Span.l1 k t (bL 91 s) ((ptsS s).length : Int)) r) (d : Nat) :
    ∀ p : Nat, p + d = 91 → Ev (fun k => spec_l7Span.l4 k t (bL 91 s) c (filI p fun p => s p.toNat) (p : Int)) r := by
  induction d with
  | zero =>
    intro p hp
    have e : p = 91 := by omega
    subst e
    refine Ev.step (fun k => by rw [spec_l7Span.l4]) ?_
    exact Ev.neg (by omega) hr
  | succ d ih =>
    intro p hp
    have nx := ih (p + 1) (by omega)
    have hlen := filI_length_le p fun p => s p.toNat
    rw [filI_succ, show ((p : Int)).toNat = p by omega] at nx
    have zp : wrap64 ((p : Int) + 1) = ((p + 1 : Nat) : Int) := by rw [w64 (by omega) (by omega)]; rfl
    have hb : rdOf false (bL 91 s) (p : Int) = s p := by rw [bL_rd _ (by omega) (by omega)]; rfl
    refine Ev.step (fun k => by rw [spec_l7Span.l4]) ?_
    rw [zp, hb, bL_length]
    refine Ev.pos (by omega) (Ev.pos (by omega) (Ev.pos (by omega) ?_))
    by_cases h1 : s p = true
    · rw [if_pos h1] at nx
      exact Ev.pos h1 (Ev.pos (by omega) nx)
    · rw [if_neg h1, List.append_nil] at nx
      exact Ev.neg h1 nx
theorem span_l3 {t : List Int} (hs : sysB t = true) (s : Nat → Bool) (c : Int) (r : List Int) (i : Int) (i0 : 0 ≤ i) (i1 : i < (linesS t s).length)
    (hr : Ev (fun k => spec_l7Span.l2 k t (bL 91 (curS t (linesS t s) s (i + 1) 0)) c (linesS t s) (i + 1)) r) (d : Nat) :
    ∀ k : Int, 0 ≤ k → k + d = i → Ev (fun n => spec_l7Span.l3 n t (bL 91 (curS t (linesS t s) s i k)) c (linesS t s) i k) r := by
  have h91 : (linesS t s).length ≤ 91 := filI_length_le _ _
  induction d with
  | zero =>
    intro k k0 hk
    have e : k = i := by omega
    subst e
    refine Ev.step (fun n => by rw [spec_l7Span.l3]) ?_
    rw [w64 (x := k + 1) (by omega) (by omega)]
    refine Ev.neg (by omega) ?_
    rw [bL_congr fun x _ => (curS_i t (linesS t s) s k0 x).symm]
    exact hr
  | succ d ih =>
    intro k k0 hk
    obtain ⟨p0, p1⟩ := meet_in hs k0 (by omega : k < i) i1
    have hi := linesS_rd (t := t) (s := s) i0 i1
    have hkk := linesS_rd (t := t) (s := s) k0 (by omega)
    have hlt : rd (linesS t s) k < rd (linesS t s) i := filI_lt k0 (by omega) i1
    have nx := ih (k + 1) (by omega) (by omega)
    refine Ev.step (fun n => by rw [spec_l7Span.l3]) ?_
    rw [w64 (x := k + 1) (by omega) (by omega), bL_length]
    refine Ev.pos (by omega) (Ev.pos i0 (Ev.pos i1 (Ev.pos k0 (Ev.pos (by omega) (Ev.bind (l3Meet_ev hs hi hkk (by omega)) (Ev.pos p0 (Ev.pos p1 ?_)))))))
    rw [bL_set, bL_congr fun x _ => (curS_hit t (linesS t s) s i k0 p0 rfl x).symm]
    exact nx
theorem span_l2 {t : List Int} (hs : sysB t = true) (s : Nat → Bool) (c : Int) (r : List Int)
    (hr : Ev (fun k => spec_l7Span.l4 k t (bL 91 (stepS t s)) c [] 0) r) (d : Nat) :
    ∀ i : Int, 0 ≤ i → i + d = (linesS t s).length → Ev (fun k => spec_l7Span.l2 k t (bL 91 (curS t (linesS t s) s i 0)) c (linesS t s) i) r := by
  induction d with
  | zero =>
    intro i i0 hi
    have e : i = ((linesS t s).length : Int) := by omega
    subst e
    refine Ev.step (fun k => by rw [spec_l7Span.l2]) ?_
    refine Ev.neg (by omega) ?_
    rw [bL_congr fun x _ => curS_end t s x]
    exact hr
  | succ d ih =>
    intro i i0 hi
    refine Ev.step (fun k => by rw [spec_l7Span.l2]) ?_
    refine Ev.pos (by omega) (span_l3 hs s c r i i0 (by omega) (ih (i + 1) (by omega) (by omega)) i.toNat 0 (by omega) (by omega))
theorem span_l1 {t : List Int} (hs : sysB t = true) (s0 : Nat → Bool) (m : Nat) : ∀ n c : Nat, n ≤ c → c ≤ sizeS (iterS t s0 n) → 91 - c < m → Ev (fun k => spec_l7Span.l1 k t (bL 91 (iterS t s0 n)) (c : Int)) (spanS t s0) := by
  induction m with
  | zero => intro n c _ _ h; omega
  | succ m ih =>
    intro n c hn hc hm
    have hsz := sizeS_le (iterS t s0 n)
    refine Ev.step (fun k => by rw [spec_l7Span.l1]) ?_
    refine Ev.bind (l7Lines_ev (sysB_parts hs).1 _) ?_
    have e0 : bL 91 (iterS t s0 n) = bL 91 (curS t (linesS t (iterS t s0 n)) (iterS t s0 n) 0 0) := bL_congr fun x _ => (curS_start t _ _ x).symm
    rw [show (fun k => spec_l7Span.l2 k t (bL 91 (iterS t s0 n)) (c : Int) (linesS t (iterS t s0 n)) 0) = fun k => spec_l7Span.l2 k t (bL 91 (curS t (linesS t (iterS t s0 n)) (iterS t s0 n) 0 0)) (c : Int) (linesS t (iterS t s0 n)) 0 by rw [e0]]
    refine span_l2 hs (iterS t s0 n) (c : Int) (spanS t s0) ?_ (linesS t (iterS t s0 n)).length 0 (by omega) (by omega)
    refine span_l4 (stepS t (iterS t s0 n)) (c : Int) (spanS t s0) ?_ 91 0 (by omega)
    have hmono : sizeS (iterS t s0 n) ≤ sizeS (stepS t (iterS t s0 n)) := sizeS_mono fun x _ h => stepS_old t _ x h
    have hsz2 := sizeS_le (stepS t (iterS t s0 n))
    have hlen : (ptsS (stepS t (iterS t s0 n))).length = sizeS (stepS t (iterS t s0 n)) := rfl
    by_cases h : sizeS (stepS t (iterS t s0 n)) = c
    · refine Ev.pos (by rw [hlen]; omega) (Ev.done ?_)
      have heq := sizeS_eq (s := iterS t s0 n) (s' := stepS t (iterS t s0 n)) (fun x _ h => stepS_old t _ x h) (by omega)
      rw [spanS_of (by omega) fun x hx => (heq x hx).symm, ptsS_congr heq]
    · refine Ev.neg (by rw [hlen]; omega) ?_
      rw [hlen]
      exact ih (n + 1) (sizeS (stepS t (iterS t s0 n))) (by omega) (Nat.le_refl _) (by omega)
theorem span_l0 {t : List Int} (hs : sysB t = true) {l : List Int} (hl : l.length ≤ 10) (hp : ∀ x ∈ l, In91 x) (d : Nat) : ∀ i : Int, 0 ≤ i → i + d = l.length → Ev (fun k => spec_l7Span.l0 k t l (bL 91 (inL (l.take i.toNat))) 0 i) (spanS t (inL l)) := by
  induction d with
  | zero =>
    intro i i0 hi
    refine Ev.step (fun k => by rw [spec_l7Span.l0]) ?_
    refine Ev.neg (by omega) ?_
    rw [List.take_of_length_le (by omega)]
    have h1 := span_l1 hs (inL l) 92 0 0 (Nat.le_refl 0) (Nat.zero_le (sizeS (iterS t (inL l) 0))) (by decide)
    have h2 : iterS t (inL l) 0 = inL l := rfl
    rw [h2] at h1
    exact h1
  | succ d ih =>
    intro i i0 hi
    obtain ⟨p0, p1⟩ := hp _ (rd_mem (i := i) (by omega) i0)
    refine Ev.step (fun k => by rw [spec_l7Span.l0]) ?_
    rw [w64 (x := i + 1) (by omega) (by omega), bL_length]
    refine Ev.pos (by omega) (Ev.pos i0 (Ev.pos p0 (Ev.pos p1 ?_)))
    rw [bL_set, bL_congr fun x _ => (inL_take i0 (by omega) p0 x).symm]
    exact ih (i + 1) (by omega) (by omega)
theorem l7Span_ev {t : List Int} (hs : sysB t = true) {l : List Int} (hl : l.length ≤ 10) (hp : ∀ x ∈ l, In91 x) : Ev (fun k => spec_l7Span.f k t l) (spanS t (inL l)) := by
  unfold spec_l7Span.f
  refine Ev.pos (by omega) ?_
  have := span_l0 hs hl hp l.length 0 (by omega) (by omega)
  rw [show bL 91 (inL (l.take (0 : Int).toNat)) = bL 91 fun _ => false from bL_congr fun x _ => by simp [inL]] at this
  rw [bL_replicate]
  exact this

end Go.Proofs.Ytcbkoecanldlpaa.X

set_option linter.unusedVariables false
set_option linter.unusedSimpArgs false
namespace Go.Proofs.Ytcbkoecanldlpaa.X
open Go.RowKit Go.Proofs.YtcbkoecanldlpaaW.PrintWords Go.Proofs.YtcbkoecanldlpaaW.PrintLast Go.Proofs.Ytcbkoecanldlpaa.P

theorem specSpan_l0 {t : List Int} (hs : sysB t = true) {l : List Int} (hl : l.length ≤ 10) (d : Nat) : ∀ i : Int, 0 ≤ i → i + d = l.length → (∀ j : Int, 0 ≤ j → j < i → ptB (rd l j) = true) → Ev (fun k => spec_SpanOf.l0 k t l i) (spanR t l) := by
  induction d with
  | zero =>
    intro i i0 hi h
    have hall : l.all ptB = true := by
      rw [List.all_eq_true]
      intro x hx
      obtain ⟨j, hj, rfl⟩ := List.mem_iff_getElem.1 hx
      have := h (j : Int) (by omega) (by omega)
      rwa [rd_cast l j hj] at this
    refine Ev.step (fun k => by rw [spec_SpanOf.l0]) ?_
    refine Ev.neg (by omega) (Ev.bind (l7Span_ev hs hl fun x hx => ptB_iff.1 (List.all_eq_true.1 hall x hx)) (Ev.done ?_))
    unfold spanR
    rw [if_pos (by unfold spanOk; rw [hs, hall, decide_eq_true hl]; rfl)]
  | succ d ih =>
    intro i i0 hi h
    refine Ev.step (fun k => by rw [spec_SpanOf.l0]) ?_
    rw [w64 (x := i + 1) (by omega) (by omega)]
    refine Ev.pos (by omega) (Ev.pos i0 (Ev.fix (l3In_eq _) ?_))
    by_cases e : ptB (rd l i) = true
    · refine Ev.pos e (ih (i + 1) (by omega) (by omega) fun j j0 j1 => ?_)
      by_cases ej : j = i
      · rw [ej]; exact e
      · exact h j j0 (by omega)
    · refine Ev.neg e (Ev.done ?_)
      have : l.all ptB = false := by
        cases ha : l.all ptB with
        | false => rfl
        | true => exact absurd (List.all_eq_true.1 ha _ (rd_mem (i := i) (by omega) i0)) e
      unfold spanR
      rw [if_neg (by unfold spanOk; rw [this]; simp)]
theorem specSpan_ev (t : List Int) (ht : t.length ≤ 1048576) (l : List Int) : Ev (fun k => spec_SpanOf.f k t l) (spanR t l) := by
  unfold spec_SpanOf.f
  refine Ev.bind (SystemIn_ev t ht) ?_
  by_cases hs : sysB t = true
  case neg =>
    have e : spanR t l = ([], false) := if_neg (by unfold spanOk; rw [Bool.eq_false_iff.2 hs]; simp)
    rw [e]
    refine Ev.neg hs (Ev.step (fun k => by rw [spec_SpanOf.j0]) ?_)
    exact Ev.pos rfl (Ev.done rfl)
  refine Ev.pos hs ?_
  by_cases hl : l.length ≤ 10
  case neg =>
    have e : spanR t l = ([], false) := if_neg (by unfold spanOk; rw [decide_eq_false hl]; simp)
    rw [e, decide_eq_true (by omega : (l.length : Int) > 10)]
    refine Ev.step (fun k => by rw [spec_SpanOf.j0]) ?_
    exact Ev.pos rfl (Ev.done rfl)
  rw [decide_eq_false (by omega : ¬ (l.length : Int) > 10)]
  refine Ev.step (fun k => by rw [spec_SpanOf.j0]) ?_
  exact Ev.neg (by decide) (specSpan_l0 hs hl l.length 0 (by omega) (by omega) fun j j0 j1 => by omega)
theorem spanS_length (t : List Int) (s : Nat → Bool) : (spanS t s).length ≤ 91 := by unfold spanS; exact sizeS_le _
theorem spanR_length (t l : List Int) : (spanR t l).1.length ≤ 1048576 := by
  unfold spanR
  by_cases hs : spanOk t l = true
  · rw [if_pos hs]
    exact Nat.le_trans (spanS_length t (inL l)) (by decide)
  · rw [if_neg hs]; exact Nat.zero_le _

end Go.Proofs.Ytcbkoecanldlpaa.X

set_option linter.unusedVariables false
set_option linter.unusedSimpArgs false
namespace Go.Proofs.Ytcbkoecanldlpaa.X
open Go.RowKit Go.Proofs.YtcbkoecanldlpaaW.PrintWords Go.Proofs.YtcbkoecanldlpaaW.PrintLast Go.Proofs.Ytcbkoecanldlpaa.P

theorem sameInts_loop (a b : List Int) (hl : a.length ≤ 1048576) (hab : a.length = b.length) (d : Nat) : ∀ (i : Int), 0 ≤ i → i + d = a.length → (∀ j : Nat, (j : Int) < i → rd a (j : Int) = rd b (j : Int)) → Ev (fun k => laws_sameInts.l0 k a b i) (decide (a = b)) := by
  induction d with
  | zero =>
    intro i h0 h1 h
    refine Ev.step (fun k => by rw [laws_sameInts.l0]) ?_
    refine Ev.neg (by omega) (Ev.done ?_)
    rw [decide_eq_true (ext_rd hab fun j hj => h j (by omega))]
  | succ d ih =>
    intro i h0 h1 h
    refine Ev.step (fun k => by rw [laws_sameInts.l0]) ?_
    simp (disch := omega) only [w64]
    refine Ev.pos (by omega) (Ev.pos (by omega) (Ev.pos (by omega) ?_))
    by_cases e : rd a i = rd b i
    · refine Ev.pos e (ih (i + 1) (by omega) (by omega) fun j hj => ?_)
      by_cases ej : (j : Int) = i
      · rw [ej]; exact e
      · exact h j (by omega)
    · refine Ev.neg e (Ev.done ?_)
      rw [decide_eq_false (fun hab => e (by rw [hab]))]
theorem sameInts_ev (a b : List Int) (hl : a.length ≤ 1048576) : Ev (fun k => laws_sameInts.f k a b) (decide (a = b)) := by
  unfold laws_sameInts.f
  by_cases h : a.length = b.length
  · exact Ev.pos (by omega) (sameInts_loop a b hl h a.length 0 (by omega) (by omega) fun j hj => by omega)
  · refine Ev.neg (by omega) (Ev.done ?_)
    rw [decide_eq_false (fun hab => h (by rw [hab]))]

end Go.Proofs.Ytcbkoecanldlpaa.X

set_option linter.unusedVariables false
set_option linter.unusedSimpArgs false
namespace Go.Proofs.Ytcbkoecanldlpaa.X
open Go.RowKit Go.Proofs.YtcbkoecanldlpaaW.PrintWords

def threeB (t : List Int) (p q r : Int) : Bool := onB t r (joinI t p q)
def crossI (t : List Int) (p q r s : Int) : Int := meetI t (joinI t p q) (joinI t r s)
def closeB (t : List Int) (p q r : Int) : Bool := decide (p = q) || (decide (p = r) || (decide (q = r) || threeB t p q r))
def lnI (t x : List Int) (i : Int) : Int := joinI t (rd x 0) (rd x i)
def twinC (t x : List Int) : Bool := onB t (rd x 4) (lnI t x 1) && (onB t (rd x 5) (lnI t x 2) && onB t (rd x 6) (lnI t x 3))
def twinD (t x : List Int) : Bool := !decide (lnI t x 1 = lnI t x 2) && (!decide (lnI t x 1 = lnI t x 3) && !decide (lnI t x 2 = lnI t x 3))
def twinE (t x : List Int) : Bool := !threeB t (rd x 1) (rd x 2) (rd x 3) && !threeB t (rd x 4) (rd x 5) (rd x 6)
def twinB (t x : List Int) : Bool := sysB t && (decide (x.length = 7) && (diffB x && (twinC t x && (twinD t x && twinE t x))))
def twinP (t x : List Int) : List Int := [crossI t (rd x 1) (rd x 2) (rd x 4) (rd x 5), crossI t (rd x 1) (rd x 3) (rd x 4) (rd x 6), crossI t (rd x 2) (rd x 3) (rd x 5) (rd x 6)]
def twinK (t x : List Int) : Bool := closeB t (crossI t (rd x 1) (rd x 2) (rd x 4) (rd x 5)) (crossI t (rd x 1) (rd x 3) (rd x 4) (rd x 6)) (crossI t (rd x 2) (rd x 3) (rd x 5) (rd x 6))
structure Twin (t x : List Int) : Prop where
  sys : sysB t = true
  len : x.length = 7
  df : diffB x = true
  c : ∀ i : Int, 1 ≤ i → i ≤ 3 → onB t (rd x (i + 3)) (lnI t x i) = true
  d : ∀ i j : Int, 1 ≤ i → i < j → j ≤ 3 → lnI t x i ≠ lnI t x j
  e1 : threeB t (rd x 1) (rd x 2) (rd x 3) = false
  e2 : threeB t (rd x 4) (rd x 5) (rd x 6) = false
theorem twinB_iff {t x : List Int} : twinB t x = true ↔ Twin t x := by
  unfold twinB twinC twinD twinE
  simp only [Bool.and_eq_true, Bool.not_eq_true', decide_eq_true_eq, decide_eq_false_iff_not]
  constructor
  · rintro ⟨h1, h2, h3, ⟨h4, h5, h6⟩, ⟨h7, h8, h9⟩, h10, h11⟩
    refine ⟨h1, h2, h3, fun i i0 i1 => ?_, fun i j i0 ij j1 => ?_, h10, h11⟩
    · have : i = 1 ∨ i = 2 ∨ i = 3 := by omega
      rcases this with rfl | rfl | rfl
      · exact h4
      · exact h5
      · exact h6
    · have : (i = 1 ∧ j = 2) ∨ (i = 1 ∧ j = 3) ∨ (i = 2 ∧ j = 3) := by omega
      rcases this with ⟨rfl, rfl⟩ | ⟨rfl, rfl⟩ | ⟨rfl, rfl⟩
      · exact h7
      · exact h8
      · exact h9
  · intro T
    exact ⟨T.sys, T.len, T.df, ⟨T.c 1 (by omega) (by omega), T.c 2 (by omega) (by omega), T.c 3 (by omega) (by omega)⟩, ⟨T.d 1 2 (by omega) (by omega) (by omega), T.d 1 3 (by omega) (by omega) (by omega), T.d 2 3 (by omega) (by omega) (by omega)⟩, T.e1, T.e2⟩
namespace Twin
variable {t x : List Int} (T : Twin t x)
include T
theorem pt {i : Int} (i0 : 0 ≤ i) (i1 : i < 7) : In91 (rd x i) := diffB_pt T.df i0 (by have := T.len; omega)
theorem ne {i j : Int} (i0 : 0 ≤ i) (i1 : i < 7) (j0 : 0 ≤ j) (j1 : j < 7) (h : i ≠ j) : rd x i ≠ rd x j := fun e => h (diffB_inj T.df i0 (by have := T.len; omega) j0 (by have := T.len; omega) e)
theorem ln {i : Int} (i0 : 1 ≤ i) (i1 : i < 7) : In91 (lnI t x i) ∧ onB t (rd x 0) (lnI t x i) = true ∧ onB t (rd x i) (lnI t x i) = true := by
  have a := T.pt (i := 0) (by omega) (by omega)
  have b := T.pt (i := i) (by omega) i1
  have h := joinI_spec T.sys a.1 a.2 b.1 b.2 (T.ne (by omega) (by omega) (by omega) i1 (by omega))
  exact ⟨⟨h.1, h.2.1⟩, h.2.2.1, h.2.2.2⟩
theorem jn {i j : Int} (i0 : 0 ≤ i) (i1 : i < 7) (j0 : 0 ≤ j) (j1 : j < 7) (h : i ≠ j) : In91 (joinI t (rd x i) (rd x j)) ∧ onB t (rd x i) (joinI t (rd x i) (rd x j)) = true ∧ onB t (rd x j) (joinI t (rd x i) (rd x j)) = true := by
  have a := T.pt i0 i1
  have b := T.pt j0 j1
  have h := joinI_spec T.sys a.1 a.2 b.1 b.2 (T.ne i0 i1 j0 j1 h)
  exact ⟨⟨h.1, h.2.1⟩, h.2.2.1, h.2.2.2⟩
/-- The line through the centre and a corner of the second triangle. -/
theorem ln2 {i : Int} (i0 : 1 ≤ i) (i1 : i ≤ 3) : lnI t x (i + 3) = lnI t x i := by
  have a := T.pt (i := 0) (by omega) (by omega)
  have b := T.pt (i := i + 3) (by omega) (by omega)
  obtain ⟨l, h1, h2⟩ := T.ln i0 (by omega)
  exact joinI_eq T.sys a.1 a.2 b.1 b.2 (T.ne (by omega) (by omega) (by omega) (by omega) (by omega)) l.1 l.2 h1 (T.c i i0 i1)
theorem apart {i j : Int} (i0 : 1 ≤ i) (ij : i < j) (j1 : j ≤ 3) : joinI t (rd x i) (rd x j) ≠ joinI t (rd x (i + 3)) (rd x (j + 3)) := by
  intro e
  obtain ⟨l, h1, h2⟩ := T.jn (i := i) (j := j) (by omega) (by omega) (by omega) (by omega) (by omega)
  obtain ⟨_, h3, h4⟩ := T.jn (i := i + 3) (j := j + 3) (by omega) (by omega) (by omega) (by omega) (by omega)
  rw [← e] at h3 h4
  have key : ∀ k : Int, 1 ≤ k → k ≤ 3 → onB t (rd x k) (joinI t (rd x i) (rd x j)) = true → onB t (rd x (k + 3)) (joinI t (rd x i) (rd x j)) = true → joinI t (rd x i) (rd x j) = lnI t x k := by
    intro k k0 k1 a b
    obtain ⟨m, g1, g2⟩ := T.ln k0 (by omega)
    have p := T.pt (i := k) (by omega) (by omega)
    have q := T.pt (i := k + 3) (by omega) (by omega)
    exact join_uniq T.sys p.1 p.2 q.1 q.2 (T.ne (by omega) (by omega) (by omega) (by omega) (by omega)) l.1 l.2 m.1 m.2 a b g2 (T.c k k0 k1)
  exact T.d i j i0 ij j1 ((key i i0 (by omega) h1 h3).symm.trans (key j (by omega) j1 h2 h4))
theorem cr {i j : Int} (i0 : 1 ≤ i) (ij : i < j) (j1 : j ≤ 3) : In91 (crossI t (rd x i) (rd x j) (rd x (i + 3)) (rd x (j + 3))) ∧ onB t (crossI t (rd x i) (rd x j) (rd x (i + 3)) (rd x (j + 3))) (joinI t (rd x i) (rd x j)) = true ∧ onB t (crossI t (rd x i) (rd x j) (rd x (i + 3)) (rd x (j + 3))) (joinI t (rd x (i + 3)) (rd x (j + 3))) = true := by
  have a := (T.jn (i := i) (j := j) (by omega) (by omega) (by omega) (by omega) (by omega)).1
  have b := (T.jn (i := i + 3) (j := j + 3) (by omega) (by omega) (by omega) (by omega) (by omega)).1
  have h := meetI_spec T.sys a.1 a.2 b.1 b.2 (T.apart i0 ij j1)
  exact ⟨⟨h.1, h.2.1⟩, h.2.2⟩
end Twin
/-- Both triangles exchanged. -/
def swapL (x : List Int) : List Int := [rd x 0, rd x 4, rd x 5, rd x 6, rd x 1, rd x 2, rd x 3]
def swapI (i : Int) : Int := if i = 0 then 0 else if i < 4 then i + 3 else i - 3
theorem swapL_rd (x : List Int) {i : Int} (i0 : 0 ≤ i) (i1 : i < 7) : rd (swapL x) i = rd x (swapI i) := by
  have : i = 0 ∨ i = 1 ∨ i = 2 ∨ i = 3 ∨ i = 4 ∨ i = 5 ∨ i = 6 := by omega
  rcases this with rfl | rfl | rfl | rfl | rfl | rfl | rfl <;> rfl
theorem swapI_in {i : Int} (i0 : 0 ≤ i) (i1 : i < 7) : 0 ≤ swapI i ∧ swapI i < 7 := by unfold swapI; split <;> (try split) <;> omega
theorem swapI_ne {i j : Int} (i0 : 0 ≤ i) (ij : i < j) (j1 : j < 7) : swapI i ≠ swapI j := by unfold swapI; split <;> split <;> (try split) <;> (try split) <;> omega
theorem Twin.swap {t x : List Int} (T : Twin t x) : Twin t (swapL x) := by
  have hl : ∀ i : Int, 1 ≤ i → i ≤ 3 → lnI t (swapL x) i = lnI t x i := fun i i0 i1 => by
    have h := T.ln2 i0 i1
    unfold lnI at h ⊢
    rw [swapL_rd x (i := i) (by omega) (by omega), show rd (swapL x) 0 = rd x 0 from rfl]
    have : swapI i = i + 3 := by unfold swapI; rw [if_neg (by omega), if_pos (by omega)]
    rw [this, h]
  refine ⟨T.sys, rfl, ?_, fun i i0 i1 => ?_, fun i j i0 ij j1 => ?_, T.e2, T.e1⟩
  · refine diffB_of (fun i i0 i1 => ?_) fun i j i0 ij j1 => ?_
    · have i1 : i < 7 := i1
      rw [swapL_rd x i0 i1]
      have := swapI_in i0 i1
      exact T.pt this.1 this.2
    · have j1 : j < 7 := j1
      rw [swapL_rd x i0 (by omega), swapL_rd x (by omega) j1]
      have a := swapI_in i0 (by omega)
      have b := swapI_in (i := j) (by omega) j1
      exact T.ne a.1 a.2 b.1 b.2 (swapI_ne i0 ij j1)
  · rw [hl i i0 i1, swapL_rd x (i := i + 3) (by omega) (by omega)]
    have : swapI (i + 3) = i := by unfold swapI; rw [if_neg (by omega), if_neg (by omega)]; omega
    rw [this]
    exact (T.ln i0 (by omega)).2.2
  · rw [hl i i0 (by omega), hl j (by omega) j1]
    exact T.d i j i0 ij j1
theorem crossI_comm (t : List Int) (p q r s : Int) : crossI t p q r s = crossI t r s p q := meetI_comm _ _ _
theorem twinP_swap (t x : List Int) : twinP t (swapL x) = twinP t x := by
  unfold twinP
  show [crossI t (rd x 4) (rd x 5) (rd x 1) (rd x 2), crossI t (rd x 4) (rd x 6) (rd x 1) (rd x 3), crossI t (rd x 5) (rd x 6) (rd x 2) (rd x 3)] = _
  rw [crossI_comm t (rd x 4) (rd x 5), crossI_comm t (rd x 4) (rd x 6), crossI_comm t (rd x 5) (rd x 6)]
theorem twinK_swap (t x : List Int) : twinK t (swapL x) = twinK t x := by
  unfold twinK
  show closeB t (crossI t (rd x 4) (rd x 5) (rd x 1) (rd x 2)) (crossI t (rd x 4) (rd x 6) (rd x 1) (rd x 3)) (crossI t (rd x 5) (rd x 6) (rd x 2) (rd x 3)) = _
  rw [crossI_comm t (rd x 4) (rd x 5), crossI_comm t (rd x 4) (rd x 6), crossI_comm t (rd x 5) (rd x 6)]

end Go.Proofs.Ytcbkoecanldlpaa.X

set_option linter.unusedVariables false
set_option linter.unusedSimpArgs false
namespace Go.Proofs.Ytcbkoecanldlpaa.X
open Go.RowKit Go.Proofs.YtcbkoecanldlpaaW.PrintWords Go.Proofs.YtcbkoecanldlpaaW.PrintLast Go.Proofs.Ytcbkoecanldlpaa.P

theorem crossing_ev {t : List Int} (hs : sysB t = true) {p q r s : Int} (hp : In91 p) (hq : In91 q) (hr : In91 r) (hz : In91 s) (h1 : p ≠ q) (h2 : r ≠ s) : Ev (fun k => impl_plane_crossing.f k t p q r s) (crossI t p q r s) := by
  have hn := (sysB_parts hs).1
  have a := joinI_spec hs hp.1 hp.2 hq.1 hq.2 h1
  have b := joinI_spec hs hr.1 hr.2 hz.1 hz.2 h2
  unfold impl_plane_crossing.f
  exact Ev.bind (join_ev hn hp hq) (Ev.bind (join_ev hn hr hz) (Ev.bind (meet_ev hn ⟨a.1, a.2.1⟩ ⟨b.1, b.2.1⟩) (Ev.done rfl)))

end Go.Proofs.Ytcbkoecanldlpaa.X

set_option linter.unusedVariables false
set_option linter.unusedSimpArgs false
namespace Go.Proofs.Ytcbkoecanldlpaa.X
open Go.RowKit Go.Proofs.YtcbkoecanldlpaaW.PrintWords Go.Proofs.YtcbkoecanldlpaaW.PrintLast Go.Proofs.Ytcbkoecanldlpaa.P

def quadB (t l : List Int) : Bool := sysB t && (decide (l.length = 4) && apartP t l)
theorem quadB_parts {t l : List Int} (h : quadB t l = true) : sysB t = true ∧ l.length = 4 ∧ apartP t l = true := by
  unfold quadB at h
  simp only [Bool.and_eq_true, decide_eq_true_eq] at h
  exact h
theorem diff_all {l : List Int} (h : diffB l = true) : ∀ x ∈ l, In91 x := by
  intro x hx
  obtain ⟨i, hi, rfl⟩ := List.mem_iff_getElem.1 hx
  rw [← rd_cast l i hi]
  exact diffB_pt h (by omega) (by omega)
theorem quad_pts {t l : List Int} (h : quadB t l = true) : ∀ x ∈ l, In91 x := diff_all (apart_parts (quadB_parts h).2.2).1

end Go.Proofs.Ytcbkoecanldlpaa.X

namespace Go.Proofs.Ytcbkoecanldlpaa.P
open Go.RowKit Go.Proofs.YtcbkoecanldlpaaW.PrintWords Go.Proofs.YtcbkoecanldlpaaW.PrintLast
set_option linter.unusedVariables false
set_option linter.unusedSimpArgs false

/-! ### spec_l3Three: function 65 -/
def spec_l3Three.f (k : Nat) (l0 : List Int) (a1 : Int) (a2 : Int) (a3 : Int) : Option (Bool) := (spec_l3Join.f k l0 a1 a2).bind fun t275 => ((spec_l3On.f l0 a3 t275).bind fun t276 => (some t276))
set_option maxHeartbeats 8000000 in
set_option maxRecDepth 100000 in
theorem spec_l3Three.calls (k : Nat) (A0 : Option Addr) (c0 : Nat) (l0 : List Int) (a1 : Int) (a2 : Int) (a3 : Int) (r : Bool) (w : World) (hr0 : Kd.C (Kd.int .i64) w A0 l0.length l0) (hc0 : l0.length ≤ c0) (h : spec_l3Three.f k l0 a1 a2 a3 = some r) :
  Calls Try.prog 65 #[.slice A0 l0.length c0, .int .i64 a1, .int .i64 a2, .int .i64 a3] w fun e w' => e = .returned (.bool r) ∧ Drawn0 w w' := by
 have HR0 := Aside0.mk hr0
 have HC0 := Aside0.mk hc0
 clear hr0 hc0
 have H : ((spec_l3Join.f k l0 a1 a2).bind fun t275 => ((spec_l3On.f l0 a3 t275).bind fun t276 => (some t276))) = some r := h
 clear h
 replace H := Option.bind_eq_some_iff.mp H
 obtain ⟨t275, A50, H⟩ := H
 replace H : ((spec_l3On.f l0 a3 t275).bind fun t276 => (some t276)) = some r := H
 have A5 := Aside0.mk A50
 clear A50
 replace H := Option.bind_eq_some_iff.mp H
 obtain ⟨t276, A60, H⟩ := H
 replace H : (some t276) = some r := H
 have A6 := Aside0.mk A60
 clear A60
 obtain rfl := Option.some.inj H
 go_enter Try.func65, Try.ntmps65
 go_wp2_with (first | (refine goesL_ (some 14) rfl rfl Try.func66 (by kernel_rfl) rfl #[.slice A0 l0.length c0, .int .i64 a1, .int .i64 a2] rfl (by (try simp only [List.map_toArray, List.map_cons, List.map_nil]); first | done | rfl | (simp only [List.length_drop, List.length_take]; rfl)) ?_; (with_reducible refine (spec_l3Join.calls k _ _ l0 a1 a2 t275 _ ?side1 ?side2 A5.out).mono ?_); (case side1 => repeat (first | exact HR0.out | (with_reducible refine Kd.C_alloc ?_ _) | (with_reducible refine Kd.C_drewN ?_ _) | (with_reducible refine Kd.C_drew ?_))); (case side2 => exact HC0.out); rintro e w' ⟨rfl, ⟨nd, rfl⟩⟩; refine ⟨_, rfl, ?_⟩) | (refine goesL_ (some 15) rfl rfl Try.func106 (by kernel_rfl) rfl #[.slice A0 l0.length c0, .int .i64 a3, .int .i64 t275] rfl (by (try simp only [List.map_toArray, List.map_cons, List.map_nil]); first | done | rfl | (simp only [List.length_drop, List.length_take]; rfl)) ?_; (with_reducible refine (spec_l3On.calls _ _ l0 a3 t275 t276 _ ?side1 ?side2 A6.out).mono ?_); (case side1 => repeat (first | exact HR0.out | (with_reducible refine Kd.C_alloc ?_ _) | (with_reducible refine Kd.C_drewN ?_ _) | (with_reducible refine Kd.C_drew ?_))); (case side2 => exact HC0.out); rintro e w' ⟨rfl, ⟨nd, rfl⟩⟩; refine ⟨_, rfl, ?_⟩))
 go_ret
 exact ⟨by first | rfl | (simp; done) | (simp [*]; done), by repeat (first | exact Drawn0.refl _ | apply Drawn0.step)⟩


end Go.Proofs.Ytcbkoecanldlpaa.P

namespace Go.Proofs.Ytcbkoecanldlpaa.P
open Go.RowKit Go.Proofs.YtcbkoecanldlpaaW.PrintWords Go.Proofs.YtcbkoecanldlpaaW.PrintLast
set_option linter.unusedVariables false
set_option linter.unusedSimpArgs false

/-! ### spec_l3Apart: function 150 -/
mutual
def spec_l3Apart.l0 : Nat → List Int → List Int → Int → Option (Bool)
 | 0, _, _, _ => none
 | k + 1, x0, x1, x5 => if x5 < (x1.length : Int) then (if 0 ≤ x5 then ((spec_l3In.f (rd x1 x5)).bind fun t794 => (if t794 = true then (spec_l3Apart.l1 k x0 x1 x5 0) else (some false))) else (none)) else (some true)
def spec_l3Apart.l1 : Nat → List Int → List Int → Int → Int → Option (Bool)
 | 0, _, _, _, _ => none
 | k + 1, x0, x1, x5, x6 => if x6 < x5 then (if 0 ≤ x6 then (if x6 < (x1.length : Int) then (if 0 ≤ x5 then (if x5 < (x1.length : Int) then (if (rd x1 x6) = (rd x1 x5) then (some false) else (spec_l3Apart.l2 k x0 x1 x5 x6 0)) else (none)) else (none)) else (none)) else (none)) else (spec_l3Apart.l0 k x0 x1 (wrap64 (x5 + 1)))
def spec_l3Apart.l2 : Nat → List Int → List Int → Int → Int → Int → Option (Bool)
 | 0, _, _, _, _, _ => none
 | k + 1, x0, x1, x5, x6, x7 => if x7 < x6 then (if 0 ≤ x5 then (if x5 < (x1.length : Int) then (if 0 ≤ x6 then (if x6 < (x1.length : Int) then (if 0 ≤ x7 then (if x7 < (x1.length : Int) then ((spec_l3Three.f k x0 (rd x1 x5) (rd x1 x6) (rd x1 x7)).bind fun t800 => (if t800 = true then (some false) else (spec_l3Apart.l2 k x0 x1 x5 x6 (wrap64 (x7 + 1))))) else (none)) else (none)) else (none)) else (none)) else (none)) else (none)) else (spec_l3Apart.l1 k x0 x1 x5 (wrap64 (x6 + 1)))
end
def spec_l3Apart.f (k : Nat) (l0 : List Int) (l1 : List Int) : Option (Bool) := spec_l3Apart.l0 k l0 l1 0
set_option maxHeartbeats 8000000 in
set_option maxRecDepth 100000 in
theorem spec_l3Apart.calls (k : Nat) (A0 : Option Addr) (c0 : Nat) (l0 : List Int) (A1 : Option Addr) (c1 : Nat) (l1 : List Int) (r : Bool) (w : World) (hr0 : Kd.C (Kd.int .i64) w A0 l0.length l0) (hc0 : l0.length ≤ c0) (hr1 : Kd.C (Kd.int .i64) w A1 l1.length l1) (hc1 : l1.length ≤ c1) (h : spec_l3Apart.f k l0 l1 = some r) :
  Calls Try.prog 150 #[.slice A0 l0.length c0, .slice A1 l1.length c1] w fun e w' => e = .returned (.bool r) ∧ Drawn0 w w' := by
 have HR0 := Aside0.mk hr0
 have HC0 := Aside0.mk hc0
 clear hr0 hc0
 have HR1 := Aside0.mk hr1
 have HC1 := Aside0.mk hc1
 clear hr1 hc1
 have H : (spec_l3Apart.l0 k l0 l1 0) = some r := h
 clear h
 have H' := Aside0.mk H
 clear H
 go_enter Try.func150, Try.ntmps150
 go_wp2
 repeat (go_quiet (fail); try go_wp2)
 go_loopg [5] k (fun kq v5 w' => ∃ (x5_1 : Int), v5 = .int .i64 x5_1 ∧ Aside0 (spec_l3Apart.l0 kq l0 l1 x5_1 = some r) ∧ Aside0 (kq ≤ k) ∧ Drawn0 w w')
 case atStart => exact ⟨(0), (by first | rfl | (simp; done) | (simp [*]; done)), H', ⟨Nat.le_refl _⟩, by repeat (first | exact Drawn0.refl _ | apply Drawn0.step)⟩
 case round =>
  clear H'
  try clear c1
  try clear p2
  obtain ⟨x5_1, rfl, HA, HK1, ⟨m1, rfl⟩⟩ := hrel
  cases gk with
  | zero => exact absurd HA.out (by simp [spec_l3Apart.l0])
  | succ k1 =>
   have H := HA.out
   clear HA
   simp only [spec_l3Apart.l0] at H
   by_cases c3 : x5_1 < (l1.length : Int)
   ·rw [if_pos c3] at H
    have c3b0 : decide (x5_1 < (l1.length : Int)) = true := decide_eq_true c3
    clear c3
    by_cases c4 : 0 ≤ x5_1
    ·rw [if_pos c4] at H
     have c4b0 : decide (0 ≤ x5_1) = true := decide_eq_true c4
     clear c4
     replace H := Option.bind_eq_some_iff.mp H
     obtain ⟨t794, A50, H⟩ := H
     replace H : (if t794 = true then (spec_l3Apart.l1 k1 l0 l1 x5_1 0) else (some false)) = some r := H
     have A5 := Aside0.mk A50
     clear A50
     by_cases c6 : t794 = true
     ·subst c6
      have H1 : (spec_l3Apart.l1 k1 l0 l1 x5_1 0) = some r := by rw [if_pos rfl] at H; exact H
      clear H
      have H := H1
      clear H1
      have H' := Aside0.mk H
      clear H
      have p793 : 0 ≤ (x5_1 : Int) := of_decide_eq_true (by first | (with_reducible assumption) | assumption)
      have q793 : x5_1 < (l1.length : Int) := of_decide_eq_true (by first | (with_reducible assumption) | assumption)
      obtain ⟨ad793, e793, hx793_0⟩ := Kd.at_int HR1.out x5_1 p793 q793
      cases e793
      replace p793 := eq_true p793
      replace q793 := eq_true q793
      go_wp2_with (first | (go_at_call 83; (with_reducible refine (spec_l3In.calls (rd l1 x5_1) true _ A5.out).mono ?_); rintro e w' ⟨rfl, ⟨nd, rfl⟩⟩; (try first | exact ⟨rfl, _, World.drewN_drewN _ _ _⟩ | exact ⟨rfl, _, Eq.trans (World.drewN_drewN _ _ _) (congrArg (World.drewN _) (Nat.add_assoc _ _ _))⟩)))
      repeat (go_quiet (first | (go_at_call 83; (with_reducible refine (spec_l3In.calls (rd l1 x5_1) true _ A5.out).mono ?_); rintro e w' ⟨rfl, ⟨nd, rfl⟩⟩; (try first | exact ⟨rfl, _, World.drewN_drewN _ _ _⟩ | exact ⟨rfl, _, Eq.trans (World.drewN_drewN _ _ _) (congrArg (World.drewN _) (Nat.add_assoc _ _ _))⟩))); try go_wp2_with (first | (go_at_call 83; (with_reducible refine (spec_l3In.calls (rd l1 x5_1) true _ A5.out).mono ?_); rintro e w' ⟨rfl, ⟨nd, rfl⟩⟩; (try first | exact ⟨rfl, _, World.drewN_drewN _ _ _⟩ | exact ⟨rfl, _, Eq.trans (World.drewN_drewN _ _ _) (congrArg (World.drewN _) (Nat.add_assoc _ _ _))⟩))))
      go_loopg [6] k1 (fun kq v6 w' => ∃ (x6_2 : Int), v6 = .int .i64 x6_2 ∧ Aside0 (spec_l3Apart.l1 kq l0 l1 x5_1 x6_2 = some r) ∧ Aside0 (kq ≤ k1) ∧ Drawn0 w w')
      case atStart => exact ⟨(0), (by first | rfl | (simp; done) | (simp [*]; done)), H', ⟨Nat.le_refl _⟩, by repeat (first | exact Drawn0.refl _ | apply Drawn0.step)⟩
      case round =>
       clear H'
       try clear c1
       try clear p2
       try clear c3
       try clear c3b0
       try clear c4
       try clear c4b0
       try clear c6
       try clear hx793_0
       try clear p2
       try clear p793
       try clear q793
       obtain ⟨x6_2, rfl, HA, HK2, ⟨m2, rfl⟩⟩ := hrel
       cases gk with
       | zero => exact absurd HA.out (by simp [spec_l3Apart.l1])
       | succ k2 =>
        have H := HA.out
        clear HA
        simp only [spec_l3Apart.l1] at H
        by_cases c7 : x6_2 < x5_1
        ·rw [if_pos c7] at H
         have c7b0 : decide (x6_2 < x5_1) = true := decide_eq_true c7
         clear c7
         by_cases c8 : 0 ≤ x6_2
         ·rw [if_pos c8] at H
          have c8b0 : decide (0 ≤ x6_2) = true := decide_eq_true c8
          clear c8
          by_cases c9 : x6_2 < (l1.length : Int)
          ·rw [if_pos c9] at H
           have c9b0 : decide (x6_2 < (l1.length : Int)) = true := decide_eq_true c9
           clear c9
           by_cases c10 : 0 ≤ x5_1
           ·rw [if_pos c10] at H
            have c10b0 : decide (0 ≤ x5_1) = true := decide_eq_true c10
            clear c10
            by_cases c11 : x5_1 < (l1.length : Int)
            ·rw [if_pos c11] at H
             have c11b0 : decide (x5_1 < (l1.length : Int)) = true := decide_eq_true c11
             clear c11
             by_cases c12 : (rd l1 x6_2) = (rd l1 x5_1)
             ·rw [if_pos c12] at H
              have c12b0 : ((rd l1 x6_2) == (rd l1 x5_1)) = true := beq_iff_eq.mpr c12
              have c12b1 : ((rd l1 x6_2) != (rd l1 x5_1)) = false := bne_eq_false_iff_eq.mpr c12
              clear c12
              obtain rfl := Option.some.inj H
              have p795 : 0 ≤ (x6_2 : Int) := of_decide_eq_true (by first | (with_reducible assumption) | assumption)
              have q795 : x6_2 < (l1.length : Int) := of_decide_eq_true (by first | (with_reducible assumption) | assumption)
              obtain ⟨ad795, e795, hx795_0⟩ := Kd.at_int HR1.out x6_2 p795 q795
              obtain rfl : ad793 = ad795 := (by injection e795)
              replace p795 := eq_true p795
              replace q795 := eq_true q795
              have p796 : 0 ≤ (x5_1 : Int) := of_decide_eq_true (by first | (with_reducible assumption) | assumption)
              have q796 : x5_1 < (l1.length : Int) := of_decide_eq_true (by first | (with_reducible assumption) | assumption)
              obtain ⟨ad796, e796, hx796_0⟩ := Kd.at_int HR1.out x5_1 p796 q796
              obtain rfl : ad793 = ad796 := (by injection e796)
              replace p796 := eq_true p796
              replace q796 := eq_true q796
              go_wp2
              repeat (go_quiet (fail); try go_wp2)
              go_ret
              exact ⟨by first | rfl | (simp; done) | (simp [*]; done), by repeat (first | exact Drawn0.refl _ | apply Drawn0.step)⟩
             ·rw [if_neg c12] at H
              have c12b0 : ((rd l1 x6_2) == (rd l1 x5_1)) = false := beq_eq_false_iff_ne.mpr c12
              have c12b1 : ((rd l1 x6_2) != (rd l1 x5_1)) = true := bne_iff_ne.mpr c12
              have H' := Aside0.mk H
              clear H
              have p795 : 0 ≤ (x6_2 : Int) := of_decide_eq_true (by first | (with_reducible assumption) | assumption)
              have q795 : x6_2 < (l1.length : Int) := of_decide_eq_true (by first | (with_reducible assumption) | assumption)
              obtain ⟨ad795, e795, hx795_0⟩ := Kd.at_int HR1.out x6_2 p795 q795
              obtain rfl : ad793 = ad795 := (by injection e795)
              replace p795 := eq_true p795
              replace q795 := eq_true q795
              have p796 : 0 ≤ (x5_1 : Int) := of_decide_eq_true (by first | (with_reducible assumption) | assumption)
              have q796 : x5_1 < (l1.length : Int) := of_decide_eq_true (by first | (with_reducible assumption) | assumption)
              obtain ⟨ad796, e796, hx796_0⟩ := Kd.at_int HR1.out x5_1 p796 q796
              obtain rfl : ad793 = ad796 := (by injection e796)
              replace p796 := eq_true p796
              replace q796 := eq_true q796
              go_wp2
              repeat (go_quiet (fail); try go_wp2)
              go_loopg [7] k2 (fun kq v7 w' => ∃ (x7_3 : Int), v7 = .int .i64 x7_3 ∧ Aside0 (spec_l3Apart.l2 kq l0 l1 x5_1 x6_2 x7_3 = some r) ∧ Aside0 (kq ≤ k2) ∧ Drawn0 w w')
              case atStart => exact ⟨(0), (by first | rfl | (simp; done) | (simp [*]; done)), H', ⟨Nat.le_refl _⟩, by repeat (first | exact Drawn0.refl _ | apply Drawn0.step)⟩
              case round =>
               clear H'
               try clear c1
               try clear p2
               try clear c3
               try clear c3b0
               try clear c4
               try clear c4b0
               try clear c6
               try clear c7
               try clear c7b0
               try clear p7
               try clear q7
               try clear hx7
               try clear c8
               try clear c8b0
               try clear c9
               try clear c9b0
               try clear c10
               try clear c10b0
               try clear c11
               try clear c11b0
               try clear c12
               try clear c12b0
               try clear c12b1
               try clear hx793_0
               try clear hx795_0
               try clear hx796_0
               try clear p2
               try clear p793
               try clear p795
               try clear p796
               try clear q793
               try clear q795
               try clear q796
               obtain ⟨x7_3, rfl, HA, HK3, ⟨m3, rfl⟩⟩ := hrel
               cases gk with
               | zero => exact absurd HA.out (by simp [spec_l3Apart.l2])
               | succ k3 =>
                have H := HA.out
                clear HA
                simp only [spec_l3Apart.l2] at H
                by_cases c13 : x7_3 < x6_2
                ·rw [if_pos c13] at H
                 have c13b0 : decide (x7_3 < x6_2) = true := decide_eq_true c13
                 clear c13
                 by_cases c14 : 0 ≤ x5_1
                 ·rw [if_pos c14] at H
                  have c14b0 : decide (0 ≤ x5_1) = true := decide_eq_true c14
                  clear c14
                  by_cases c15 : x5_1 < (l1.length : Int)
                  ·rw [if_pos c15] at H
                   have c15b0 : decide (x5_1 < (l1.length : Int)) = true := decide_eq_true c15
                   clear c15
                   by_cases c16 : 0 ≤ x6_2
                   ·rw [if_pos c16] at H
                    have c16b0 : decide (0 ≤ x6_2) = true := decide_eq_true c16
                    clear c16
                    by_cases c17 : x6_2 < (l1.length : Int)
                    ·rw [if_pos c17] at H
                     have c17b0 : decide (x6_2 < (l1.length : Int)) = true := decide_eq_true c17
                     clear c17
                     by_cases c18 : 0 ≤ x7_3
                     ·rw [if_pos c18] at H
                      have c18b0 : decide (0 ≤ x7_3) = true := decide_eq_true c18
                      clear c18
                      by_cases c19 : x7_3 < (l1.length : Int)
                      ·rw [if_pos c19] at H
                       have c19b0 : decide (x7_3 < (l1.length : Int)) = true := decide_eq_true c19
                       clear c19
                       replace H := Option.bind_eq_some_iff.mp H
                       obtain ⟨t800, A200, H⟩ := H
                       replace H : (if t800 = true then (some false) else (spec_l3Apart.l2 k3 l0 l1 x5_1 x6_2 (wrap64 (x7_3 + 1)))) = some r := H
                       have A20 := Aside0.mk A200
                       clear A200
                       by_cases c21 : t800 = true
                       ·subst c21
                        have H1 : (some false) = some r := by rw [if_pos rfl] at H; exact H
                        clear H
                        have H := H1
                        clear H1
                        obtain rfl := Option.some.inj H
                        have p797 : 0 ≤ (x5_1 : Int) := of_decide_eq_true (by first | (with_reducible assumption) | assumption)
                        have q797 : x5_1 < (l1.length : Int) := of_decide_eq_true (by first | (with_reducible assumption) | assumption)
                        obtain ⟨ad797, e797, hx797_0⟩ := Kd.at_int HR1.out x5_1 p797 q797
                        obtain rfl : ad793 = ad797 := (by injection e797)
                        replace p797 := eq_true p797
                        replace q797 := eq_true q797
                        have p798 : 0 ≤ (x6_2 : Int) := of_decide_eq_true (by first | (with_reducible assumption) | assumption)
                        have q798 : x6_2 < (l1.length : Int) := of_decide_eq_true (by first | (with_reducible assumption) | assumption)
                        obtain ⟨ad798, e798, hx798_0⟩ := Kd.at_int HR1.out x6_2 p798 q798
                        obtain rfl : ad793 = ad798 := (by injection e798)
                        replace p798 := eq_true p798
                        replace q798 := eq_true q798
                        have p799 : 0 ≤ (x7_3 : Int) := of_decide_eq_true (by first | (with_reducible assumption) | assumption)
                        have q799 : x7_3 < (l1.length : Int) := of_decide_eq_true (by first | (with_reducible assumption) | assumption)
                        obtain ⟨ad799, e799, hx799_0⟩ := Kd.at_int HR1.out x7_3 p799 q799
                        obtain rfl : ad793 = ad799 := (by injection e799)
                        replace p799 := eq_true p799
                        replace q799 := eq_true q799
                        go_wp2_with (first | (go_at_call 65; (with_reducible refine (spec_l3Three.calls k3 _ _ l0 (rd l1 x5_1) (rd l1 x6_2) (rd l1 x7_3) true _ ?side1 ?side2 A20.out).mono ?_); (case side1 => repeat (first | exact HR0.out | (with_reducible refine Kd.C_alloc ?_ _) | (with_reducible refine Kd.C_drewN ?_ _) | (with_reducible refine Kd.C_drew ?_))); (case side2 => exact HC0.out); rintro e w' ⟨rfl, ⟨nd, rfl⟩⟩; (try first | exact ⟨rfl, _, World.drewN_drewN _ _ _⟩ | exact ⟨rfl, _, Eq.trans (World.drewN_drewN _ _ _) (congrArg (World.drewN _) (Nat.add_assoc _ _ _))⟩)))
                        repeat (go_quiet (first | (go_at_call 65; (with_reducible refine (spec_l3Three.calls k3 _ _ l0 (rd l1 x5_1) (rd l1 x6_2) (rd l1 x7_3) true _ ?side1 ?side2 A20.out).mono ?_); (case side1 => repeat (first | exact HR0.out | (with_reducible refine Kd.C_alloc ?_ _) | (with_reducible refine Kd.C_drewN ?_ _) | (with_reducible refine Kd.C_drew ?_))); (case side2 => exact HC0.out); rintro e w' ⟨rfl, ⟨nd, rfl⟩⟩; (try first | exact ⟨rfl, _, World.drewN_drewN _ _ _⟩ | exact ⟨rfl, _, Eq.trans (World.drewN_drewN _ _ _) (congrArg (World.drewN _) (Nat.add_assoc _ _ _))⟩))); try go_wp2_with (first | (go_at_call 65; (with_reducible refine (spec_l3Three.calls k3 _ _ l0 (rd l1 x5_1) (rd l1 x6_2) (rd l1 x7_3) true _ ?side1 ?side2 A20.out).mono ?_); (case side1 => repeat (first | exact HR0.out | (with_reducible refine Kd.C_alloc ?_ _) | (with_reducible refine Kd.C_drewN ?_ _) | (with_reducible refine Kd.C_drew ?_))); (case side2 => exact HC0.out); rintro e w' ⟨rfl, ⟨nd, rfl⟩⟩; (try first | exact ⟨rfl, _, World.drewN_drewN _ _ _⟩ | exact ⟨rfl, _, Eq.trans (World.drewN_drewN _ _ _) (congrArg (World.drewN _) (Nat.add_assoc _ _ _))⟩))))
                        go_ret
                        exact ⟨by first | rfl | (simp; done) | (simp [*]; done), by repeat (first | exact Drawn0.refl _ | apply Drawn0.step)⟩
                       ·replace c21 := Bool.eq_false_iff.mpr c21
                        subst c21
                        have H1 : (spec_l3Apart.l2 k3 l0 l1 x5_1 x6_2 (wrap64 (x7_3 + 1))) = some r := by rw [if_neg (show ¬ (false = true) by decide)] at H; exact H
                        clear H
                        have H := H1
                        clear H1
                        have H' := Aside0.mk H
                        clear H
                        have p797 : 0 ≤ (x5_1 : Int) := of_decide_eq_true (by first | (with_reducible assumption) | assumption)
                        have q797 : x5_1 < (l1.length : Int) := of_decide_eq_true (by first | (with_reducible assumption) | assumption)
                        obtain ⟨ad797, e797, hx797_0⟩ := Kd.at_int HR1.out x5_1 p797 q797
                        obtain rfl : ad793 = ad797 := (by injection e797)
                        replace p797 := eq_true p797
                        replace q797 := eq_true q797
                        have p798 : 0 ≤ (x6_2 : Int) := of_decide_eq_true (by first | (with_reducible assumption) | assumption)
                        have q798 : x6_2 < (l1.length : Int) := of_decide_eq_true (by first | (with_reducible assumption) | assumption)
                        obtain ⟨ad798, e798, hx798_0⟩ := Kd.at_int HR1.out x6_2 p798 q798
                        obtain rfl : ad793 = ad798 := (by injection e798)
                        replace p798 := eq_true p798
                        replace q798 := eq_true q798
                        have p799 : 0 ≤ (x7_3 : Int) := of_decide_eq_true (by first | (with_reducible assumption) | assumption)
                        have q799 : x7_3 < (l1.length : Int) := of_decide_eq_true (by first | (with_reducible assumption) | assumption)
                        obtain ⟨ad799, e799, hx799_0⟩ := Kd.at_int HR1.out x7_3 p799 q799
                        obtain rfl : ad793 = ad799 := (by injection e799)
                        replace p799 := eq_true p799
                        replace q799 := eq_true q799
                        go_wp2_with (first | (go_at_call 65; (with_reducible refine (spec_l3Three.calls k3 _ _ l0 (rd l1 x5_1) (rd l1 x6_2) (rd l1 x7_3) false _ ?side1 ?side2 A20.out).mono ?_); (case side1 => repeat (first | exact HR0.out | (with_reducible refine Kd.C_alloc ?_ _) | (with_reducible refine Kd.C_drewN ?_ _) | (with_reducible refine Kd.C_drew ?_))); (case side2 => exact HC0.out); rintro e w' ⟨rfl, ⟨nd, rfl⟩⟩; (try first | exact ⟨rfl, _, World.drewN_drewN _ _ _⟩ | exact ⟨rfl, _, Eq.trans (World.drewN_drewN _ _ _) (congrArg (World.drewN _) (Nat.add_assoc _ _ _))⟩)))
                        repeat (go_quiet (first | (go_at_call 65; (with_reducible refine (spec_l3Three.calls k3 _ _ l0 (rd l1 x5_1) (rd l1 x6_2) (rd l1 x7_3) false _ ?side1 ?side2 A20.out).mono ?_); (case side1 => repeat (first | exact HR0.out | (with_reducible refine Kd.C_alloc ?_ _) | (with_reducible refine Kd.C_drewN ?_ _) | (with_reducible refine Kd.C_drew ?_))); (case side2 => exact HC0.out); rintro e w' ⟨rfl, ⟨nd, rfl⟩⟩; (try first | exact ⟨rfl, _, World.drewN_drewN _ _ _⟩ | exact ⟨rfl, _, Eq.trans (World.drewN_drewN _ _ _) (congrArg (World.drewN _) (Nat.add_assoc _ _ _))⟩))); try go_wp2_with (first | (go_at_call 65; (with_reducible refine (spec_l3Three.calls k3 _ _ l0 (rd l1 x5_1) (rd l1 x6_2) (rd l1 x7_3) false _ ?side1 ?side2 A20.out).mono ?_); (case side1 => repeat (first | exact HR0.out | (with_reducible refine Kd.C_alloc ?_ _) | (with_reducible refine Kd.C_drewN ?_ _) | (with_reducible refine Kd.C_drew ?_))); (case side2 => exact HC0.out); rintro e w' ⟨rfl, ⟨nd, rfl⟩⟩; (try first | exact ⟨rfl, _, World.drewN_drewN _ _ _⟩ | exact ⟨rfl, _, Eq.trans (World.drewN_drewN _ _ _) (congrArg (World.drewN _) (Nat.add_assoc _ _ _))⟩))))
                        go_roundg k3
                        case measure => have := HK1.out; have := HK2.out; have := HK3.out; omega
                        case rel => exact ⟨(wrap64 (x7_3 + 1)), (by first | rfl | (simp; done) | (simp [*]; done)), H', ⟨by have := HK1.out; have := HK2.out; have := HK3.out; omega⟩, by repeat (first | exact Drawn0.refl _ | apply Drawn0.step)⟩
                      ·rw [if_neg c19] at H
                       exact absurd H (by simp)
                     ·rw [if_neg c18] at H
                      exact absurd H (by simp)
                    ·rw [if_neg c17] at H
                     exact absurd H (by simp)
                   ·rw [if_neg c16] at H
                    exact absurd H (by simp)
                  ·rw [if_neg c15] at H
                   exact absurd H (by simp)
                 ·rw [if_neg c14] at H
                  exact absurd H (by simp)
                ·rw [if_neg c13] at H
                 have c13b0 : decide (x7_3 < x6_2) = false := decide_eq_false c13
                 clear c13
                 have H' := Aside0.mk H
                 clear H
                 go_wp2
                 repeat (go_quiet (fail); try go_wp2)
                 go_roundg k3
                 case measure => have := HK1.out; have := HK2.out; have := HK3.out; omega
                 case rel => exact ⟨(wrap64 (x6_2 + 1)), (by first | rfl | (simp; done) | (simp [*]; done)), H', ⟨by have := HK1.out; have := HK2.out; have := HK3.out; omega⟩, by repeat (first | exact Drawn0.refl _ | apply Drawn0.step)⟩
            ·rw [if_neg c11] at H
             exact absurd H (by simp)
           ·rw [if_neg c10] at H
            exact absurd H (by simp)
          ·rw [if_neg c9] at H
           exact absurd H (by simp)
         ·rw [if_neg c8] at H
          exact absurd H (by simp)
        ·rw [if_neg c7] at H
         have c7b0 : decide (x6_2 < x5_1) = false := decide_eq_false c7
         clear c7
         have H' := Aside0.mk H
         clear H
         go_wp2
         repeat (go_quiet (fail); try go_wp2)
         go_roundg k2
         case measure => have := HK1.out; have := HK2.out; omega
         case rel => exact ⟨(wrap64 (x5_1 + 1)), (by first | rfl | (simp; done) | (simp [*]; done)), H', ⟨by have := HK1.out; have := HK2.out; omega⟩, by repeat (first | exact Drawn0.refl _ | apply Drawn0.step)⟩
     ·replace c6 := Bool.eq_false_iff.mpr c6
      subst c6
      have H1 : (some false) = some r := by rw [if_neg (show ¬ (false = true) by decide)] at H; exact H
      clear H
      have H := H1
      clear H1
      obtain rfl := Option.some.inj H
      have p793 : 0 ≤ (x5_1 : Int) := of_decide_eq_true (by first | (with_reducible assumption) | assumption)
      have q793 : x5_1 < (l1.length : Int) := of_decide_eq_true (by first | (with_reducible assumption) | assumption)
      obtain ⟨ad793, e793, hx793_0⟩ := Kd.at_int HR1.out x5_1 p793 q793
      cases e793
      replace p793 := eq_true p793
      replace q793 := eq_true q793
      go_wp2_with (first | (go_at_call 83; (with_reducible refine (spec_l3In.calls (rd l1 x5_1) false _ A5.out).mono ?_); rintro e w' ⟨rfl, ⟨nd, rfl⟩⟩; (try first | exact ⟨rfl, _, World.drewN_drewN _ _ _⟩ | exact ⟨rfl, _, Eq.trans (World.drewN_drewN _ _ _) (congrArg (World.drewN _) (Nat.add_assoc _ _ _))⟩)))
      repeat (go_quiet (first | (go_at_call 83; (with_reducible refine (spec_l3In.calls (rd l1 x5_1) false _ A5.out).mono ?_); rintro e w' ⟨rfl, ⟨nd, rfl⟩⟩; (try first | exact ⟨rfl, _, World.drewN_drewN _ _ _⟩ | exact ⟨rfl, _, Eq.trans (World.drewN_drewN _ _ _) (congrArg (World.drewN _) (Nat.add_assoc _ _ _))⟩))); try go_wp2_with (first | (go_at_call 83; (with_reducible refine (spec_l3In.calls (rd l1 x5_1) false _ A5.out).mono ?_); rintro e w' ⟨rfl, ⟨nd, rfl⟩⟩; (try first | exact ⟨rfl, _, World.drewN_drewN _ _ _⟩ | exact ⟨rfl, _, Eq.trans (World.drewN_drewN _ _ _) (congrArg (World.drewN _) (Nat.add_assoc _ _ _))⟩))))
      go_ret
      exact ⟨by first | rfl | (simp; done) | (simp [*]; done), by repeat (first | exact Drawn0.refl _ | apply Drawn0.step)⟩
    ·rw [if_neg c4] at H
     exact absurd H (by simp)
   ·rw [if_neg c3] at H
    have c3b0 : decide (x5_1 < (l1.length : Int)) = false := decide_eq_false c3
    clear c3
    obtain rfl := Option.some.inj H
    go_wp2
    repeat (go_quiet (fail); try go_wp2)
    go_ret
    exact ⟨by first | rfl | (simp; done) | (simp [*]; done), by repeat (first | exact Drawn0.refl _ | apply Drawn0.step)⟩


end Go.Proofs.Ytcbkoecanldlpaa.P

namespace Go.Proofs.Ytcbkoecanldlpaa.P
open Go.RowKit Go.Proofs.YtcbkoecanldlpaaW.PrintWords Go.Proofs.YtcbkoecanldlpaaW.PrintLast
set_option linter.unusedVariables false
set_option linter.unusedSimpArgs false

/-! ### spec_PlaneApart: function 94 -/
def spec_PlaneApart.f (k : Nat) (l0 : List Int) (l1 : List Int) : Option (Bool) := (spec_SystemIn.f k l0).bind fun t801 => (if t801 = true then ((spec_l6In.f (l1.length : Int) 3 20).bind fun t802 => (if t802 = true then ((spec_l3Apart.f k l0 l1).bind fun t803 => (some t803)) else (some false))) else (some false))
set_option maxHeartbeats 8000000 in
set_option maxRecDepth 100000 in
theorem spec_PlaneApart.calls (k : Nat) (A0 : Option Addr) (c0 : Nat) (l0 : List Int) (A1 : Option Addr) (c1 : Nat) (l1 : List Int) (r : Bool) (w : World) (hr0 : Kd.C (Kd.int .i64) w A0 l0.length l0) (hc0 : l0.length ≤ c0) (hr1 : Kd.C (Kd.int .i64) w A1 l1.length l1) (hc1 : l1.length ≤ c1) (h : spec_PlaneApart.f k l0 l1 = some r) :
  Calls Try.prog 94 #[.slice A0 l0.length c0, .slice A1 l1.length c1] w fun e w' => e = .returned (.bool r) ∧ Below w.heap.size w w' := by
 have HR0 := Aside0.mk hr0
 have HC0 := Aside0.mk hc0
 clear hr0 hc0
 have HR1 := Aside0.mk hr1
 have HC1 := Aside0.mk hc1
 clear hr1 hc1
 have HB := Aside0.mk (Below.refl w.heap.size w)
 have H : ((spec_SystemIn.f k l0).bind fun t801 => (if t801 = true then ((spec_l6In.f (l1.length : Int) 3 20).bind fun t802 => (if t802 = true then ((spec_l3Apart.f k l0 l1).bind fun t803 => (some t803)) else (some false))) else (some false))) = some r := h
 clear h
 replace H := Option.bind_eq_some_iff.mp H
 obtain ⟨t801, A30, H⟩ := H
 replace H : (if t801 = true then ((spec_l6In.f (l1.length : Int) 3 20).bind fun t802 => (if t802 = true then ((spec_l3Apart.f k l0 l1).bind fun t803 => (some t803)) else (some false))) else (some false)) = some r := H
 have A3 := Aside0.mk A30
 clear A30
 by_cases c4 : t801 = true
 ·subst c4
  have H1 : ((spec_l6In.f (l1.length : Int) 3 20).bind fun t802 => (if t802 = true then ((spec_l3Apart.f k l0 l1).bind fun t803 => (some t803)) else (some false))) = some r := by rw [if_pos rfl] at H; exact H
  clear H
  have H := H1
  clear H1
  replace H := Option.bind_eq_some_iff.mp H
  obtain ⟨t802, A50, H⟩ := H
  replace H : (if t802 = true then ((spec_l3Apart.f k l0 l1).bind fun t803 => (some t803)) else (some false)) = some r := H
  have A5 := Aside0.mk A50
  clear A50
  by_cases c6 : t802 = true
  ·subst c6
   have H1 : ((spec_l3Apart.f k l0 l1).bind fun t803 => (some t803)) = some r := by rw [if_pos rfl] at H; exact H
   clear H
   have H := H1
   clear H1
   replace H := Option.bind_eq_some_iff.mp H
   obtain ⟨t803, A70, H⟩ := H
   replace H : (some t803) = some r := H
   have A7 := Aside0.mk A70
   clear A70
   obtain rfl := Option.some.inj H
   go_enter Try.func94, Try.ntmps94
   go_wp2_with (first | (refine goesL_ (some 6) rfl rfl Try.func63 (by kernel_rfl) rfl #[.slice A0 l0.length c0] rfl (by (try simp only [List.map_toArray, List.map_cons, List.map_nil]); first | done | rfl | (simp only [List.length_drop, List.length_take]; rfl)) ?_; (with_reducible refine (spec_SystemIn.calls k _ _ l0 true _ ?side1 ?side2 A3.out).mono ?_); (case side1 => repeat (first | exact HR0.out | (with_reducible refine Kd.C_alloc ?_ _) | (with_reducible refine Kd.C_drewN ?_ _) | (with_reducible refine Kd.C_drew ?_))); (case side2 => exact HC0.out); rintro e w8 ⟨rfl, hb⟩; refine ⟨_, rfl, ?_⟩; have n0_ := Aside0.mk (below_step (by repeat (first | (with_reducible first | exact HB.out | apply below_alloc | apply pw_below_drewN | apply below_drew1) | exact HB.out)) hb); clear HB; have HB := n0_; clear n0_; (try clear hb); (try clear hb2); (try clear hk); (try clear hi)) | (go_at_call 87; (with_reducible refine (spec_l6In.calls (l1.length : Int) 3 20 true _ A5.out).mono ?_); rintro e w' ⟨rfl, ⟨nd, rfl⟩⟩) | (go_at_call 150; (with_reducible refine (spec_l3Apart.calls k _ _ l0 _ _ l1 t803 _ ?side1 ?side2 ?side3 ?side4 A7.out).mono ?_); (case side1 => repeat (first | exact (Kd.C_below HR0.out (by repeat (first | (with_reducible first | exact HB.out | apply below_alloc | apply pw_below_drewN | apply below_drew1) | exact HB.out))) | (with_reducible refine Kd.C_alloc ?_ _) | (with_reducible refine Kd.C_drewN ?_ _) | (with_reducible refine Kd.C_drew ?_))); (case side2 => exact HC0.out); (case side3 => repeat (first | exact (Kd.C_below HR1.out (by repeat (first | (with_reducible first | exact HB.out | apply below_alloc | apply pw_below_drewN | apply below_drew1) | exact HB.out))) | (with_reducible refine Kd.C_alloc ?_ _) | (with_reducible refine Kd.C_drewN ?_ _) | (with_reducible refine Kd.C_drew ?_))); (case side4 => exact HC1.out); rintro e w' ⟨rfl, ⟨nd, rfl⟩⟩))
   go_ret
   exact ⟨by first | rfl | (simp [errW_none, errW_some] <;> rfl) | (simp [*, errW_none, errW_some] <;> rfl), by repeat (first | (with_reducible first | exact HB.out | apply below_alloc | apply pw_below_drewN | apply below_drew1) | exact HB.out)⟩
  ·replace c6 := Bool.eq_false_iff.mpr c6
   subst c6
   have H1 : (some false) = some r := by rw [if_neg (show ¬ (false = true) by decide)] at H; exact H
   clear H
   have H := H1
   clear H1
   obtain rfl := Option.some.inj H
   go_enter Try.func94, Try.ntmps94
   go_wp2_with (first | (refine goesL_ (some 6) rfl rfl Try.func63 (by kernel_rfl) rfl #[.slice A0 l0.length c0] rfl (by (try simp only [List.map_toArray, List.map_cons, List.map_nil]); first | done | rfl | (simp only [List.length_drop, List.length_take]; rfl)) ?_; (with_reducible refine (spec_SystemIn.calls k _ _ l0 true _ ?side1 ?side2 A3.out).mono ?_); (case side1 => repeat (first | exact HR0.out | (with_reducible refine Kd.C_alloc ?_ _) | (with_reducible refine Kd.C_drewN ?_ _) | (with_reducible refine Kd.C_drew ?_))); (case side2 => exact HC0.out); rintro e w9 ⟨rfl, hb⟩; refine ⟨_, rfl, ?_⟩; have n0_ := Aside0.mk (below_step (by repeat (first | (with_reducible first | exact HB.out | apply below_alloc | apply pw_below_drewN | apply below_drew1) | exact HB.out)) hb); clear HB; have HB := n0_; clear n0_; (try clear hb); (try clear hb2); (try clear hk); (try clear hi)) | (go_at_call 87; (with_reducible refine (spec_l6In.calls (l1.length : Int) 3 20 false _ A5.out).mono ?_); rintro e w' ⟨rfl, ⟨nd, rfl⟩⟩))
   go_ret
   exact ⟨by first | rfl | (simp [errW_none, errW_some] <;> rfl) | (simp [*, errW_none, errW_some] <;> rfl), by repeat (first | (with_reducible first | exact HB.out | apply below_alloc | apply pw_below_drewN | apply below_drew1) | exact HB.out)⟩
 ·replace c4 := Bool.eq_false_iff.mpr c4
  subst c4
  have H1 : (some false) = some r := by rw [if_neg (show ¬ (false = true) by decide)] at H; exact H
  clear H
  have H := H1
  clear H1
  obtain rfl := Option.some.inj H
  go_enter Try.func94, Try.ntmps94
  go_wp2_with (first | (refine goesL_ (some 6) rfl rfl Try.func63 (by kernel_rfl) rfl #[.slice A0 l0.length c0] rfl (by (try simp only [List.map_toArray, List.map_cons, List.map_nil]); first | done | rfl | (simp only [List.length_drop, List.length_take]; rfl)) ?_; (with_reducible refine (spec_SystemIn.calls k _ _ l0 false _ ?side1 ?side2 A3.out).mono ?_); (case side1 => repeat (first | exact HR0.out | (with_reducible refine Kd.C_alloc ?_ _) | (with_reducible refine Kd.C_drewN ?_ _) | (with_reducible refine Kd.C_drew ?_))); (case side2 => exact HC0.out); rintro e w10 ⟨rfl, hb⟩; refine ⟨_, rfl, ?_⟩; have n0_ := Aside0.mk (below_step (by repeat (first | (with_reducible first | exact HB.out | apply below_alloc | apply pw_below_drewN | apply below_drew1) | exact HB.out)) hb); clear HB; have HB := n0_; clear n0_; (try clear hb); (try clear hb2); (try clear hk); (try clear hi)))
  go_ret
  exact ⟨by first | rfl | (simp [errW_none, errW_some] <;> rfl) | (simp [*, errW_none, errW_some] <;> rfl), by repeat (first | (with_reducible first | exact HB.out | apply below_alloc | apply pw_below_drewN | apply below_drew1) | exact HB.out)⟩


end Go.Proofs.Ytcbkoecanldlpaa.P

set_option linter.unusedVariables false
set_option linter.unusedSimpArgs false
namespace Go.Proofs.Ytcbkoecanldlpaa.X
open Go.RowKit Go.Proofs.YtcbkoecanldlpaaW.PrintWords Go.Proofs.YtcbkoecanldlpaaW.PrintLast Go.Proofs.Ytcbkoecanldlpaa.P

theorem l3Three_ev {t : List Int} (hs : sysB t = true) {p q r : Int} (hp : In91 p) (hq : In91 q) (hr : In91 r) (hne : p ≠ q) : Ev (fun k => spec_l3Three.f k t p q r) (onB t r (joinI t p q)) := by
  have hj := joinI_spec hs hp.1 hp.2 hq.1 hq.2 hne
  unfold spec_l3Three.f
  exact Ev.bind (l3Join_ev hs hp hq hne) (Ev.fix (l3On_eq (sysB_parts hs).1 hr ⟨hj.1, hj.2.1⟩) (Ev.done rfl))
theorem l3Apart_l2 {t l : List Int} (hs : sysB t = true) (hl : l.length ≤ 1048576) {i j : Int} (j0 : 0 ≤ j) (ji : j < i) (i1 : i < l.length) (hd : ∀ x : Int, 0 ≤ x → x ≤ i → In91 (rd l x)) (hne : rd l j ≠ rd l i) {r : Bool}
    (hr : pairB t l i j = true → Ev (fun n => spec_l3Apart.l1 n t l i (j + 1)) r) (hf : pairB t l i j = false → r = false) (d : Nat) :
    ∀ k : Int, 0 ≤ k → k + d = j → (∀ z : Int, 0 ≤ z → z < k → tripB t l i j z = true) → Ev (fun n => spec_l3Apart.l2 n t l i j k) r := by
  induction d with
  | zero =>
    intro k k0 k1 h
    refine Ev.step (fun n => by rw [spec_l3Apart.l2]) ?_
    rw [w64 (x := j + 1) (by omega) (by omega)]
    refine Ev.neg (by omega) (hr ?_)
    exact allI_int_iff.2 fun z z0 z1 => h z z0 (by omega)
  | succ d ih =>
    intro k k0 k1 h
    have e1 := l3Three_ev hs (hd i (by omega) (by omega)) (hd j j0 (by omega)) (hd k k0 (by omega)) (fun e => hne e.symm)
    refine Ev.step (fun n => by rw [spec_l3Apart.l2]) ?_
    rw [w64 (x := k + 1) (by omega) (by omega)]
    refine Ev.pos (by omega) (Ev.pos (by omega) (Ev.pos (by omega) (Ev.pos (by omega) (Ev.pos (by omega) (Ev.pos (by omega) (Ev.pos (by omega) (Ev.bind e1 ?_)))))))
    by_cases e : onB t (rd l k) (joinI t (rd l i) (rd l j)) = true
    · refine Ev.pos e (Ev.done ?_)
      rw [hf (allI_false k.toNat (by omega) (by rw [Int.toNat_of_nonneg k0]; unfold tripB; rw [e]; rfl))]
    · refine Ev.neg e (ih (k + 1) (by omega) (by omega) fun z z0 z1 => ?_)
      by_cases ez : z = k
      · rw [ez]; unfold tripB; rw [Bool.eq_false_iff.2 e]; rfl
      · exact h z z0 (by omega)
theorem l3Apart_l1 {t l : List Int} (hs : sysB t = true) (hl : l.length ≤ 1048576) {i : Int} (i0 : 0 ≤ i) (i1 : i < l.length) (hd : ∀ x : Int, 0 ≤ x → x ≤ i → In91 (rd l x)) {r : Bool}
    (hr : (∀ j : Int, 0 ≤ j → j < i → rd l j ≠ rd l i ∧ pairB t l i j = true) → Ev (fun n => spec_l3Apart.l0 n t l (i + 1)) r) (hf : ∀ j : Int, 0 ≤ j → j < i → (rd l j = rd l i ∨ pairB t l i j = false) → r = false) (d : Nat) :
    ∀ j : Int, 0 ≤ j → j + d = i → (∀ y : Int, 0 ≤ y → y < j → rd l y ≠ rd l i ∧ pairB t l i y = true) → Ev (fun n => spec_l3Apart.l1 n t l i j) r := by
  induction d with
  | zero =>
    intro j j0 j1 h
    refine Ev.step (fun n => by rw [spec_l3Apart.l1]) ?_
    rw [w64 (x := i + 1) (by omega) (by omega)]
    exact Ev.neg (by omega) (hr fun y y0 y1 => h y y0 (by omega))
  | succ d ih =>
    intro j j0 j1 h
    refine Ev.step (fun n => by rw [spec_l3Apart.l1]) ?_
    refine Ev.pos (by omega) (Ev.pos (by omega) (Ev.pos (by omega) (Ev.pos (by omega) (Ev.pos (by omega) ?_))))
    by_cases e : rd l j = rd l i
    · exact Ev.pos e (Ev.done (by rw [hf j j0 (by omega) (.inl e)]))
    · refine Ev.neg e (l3Apart_l2 hs hl j0 (by omega) i1 hd e (fun hp => ih (j + 1) (by omega) (by omega) fun y y0 y1 => ?_) (fun hp => hf j j0 (by omega) (.inr hp)) j.toNat 0 (by omega) (by omega) (fun z z0 z1 => by omega))
      by_cases ey : y = j
      · rw [ey]; exact ⟨e, hp⟩
      · exact h y y0 (by omega)
theorem l3Apart_l0 {t l : List Int} (hs : sysB t = true) (hl : l.length ≤ 1048576) (d : Nat) :
    ∀ i : Int, 0 ≤ i → i + d = l.length → (∀ x : Int, 0 ≤ x → x < i → newB l x = true ∧ ∀ y : Int, 0 ≤ y → y < x → pairB t l x y = true) → Ev (fun n => spec_l3Apart.l0 n t l i) (apartP t l) := by
  induction d with
  | zero =>
    intro i i0 i1 h
    refine Ev.step (fun n => by rw [spec_l3Apart.l0]) ?_
    refine Ev.neg (by omega) (Ev.done ?_)
    rw [apart_all (diffB_all fun x x0 x1 => (h x x0 (by omega)).1) fun x y y0 yx x1 => (h x (by omega) (by omega)).2 y y0 yx]
  | succ d ih =>
    intro i i0 i1 h
    refine Ev.step (fun n => by rw [spec_l3Apart.l0]) ?_
    refine Ev.pos (by omega) (Ev.pos i0 (Ev.fix (l3In_eq (rd l i)) ?_))
    by_cases e : ptB (rd l i) = true
    case neg =>
      refine Ev.neg e (Ev.done ?_)
      have : diffB l = false := diffB_hit i0 (by omega) (by unfold newB; rw [Bool.eq_false_iff.2 e]; rfl)
      unfold apartP; rw [this]; rfl
    have hd : ∀ x : Int, 0 ≤ x → x ≤ i → In91 (rd l x) := fun x x0 x1 => by
      by_cases ex : x = i
      · rw [ex]; exact ptB_iff.1 e
      · exact ((newB_iff x0 (by omega)).1 (h x x0 (by omega)).1).1
    refine Ev.pos e (l3Apart_l1 hs hl i0 (by omega) hd (fun hp => ih (i + 1) (by omega) (by omega) fun x x0 x1 => ?_) (fun j j0 ji hor => ?_) i.toNat 0 (by omega) (by omega) (fun y y0 y1 => by omega))
    · by_cases ex : x = i
      · rw [ex]; exact ⟨(newB_iff i0 (by omega)).2 ⟨ptB_iff.1 e, fun j j0 j1 => (hp j j0 j1).1⟩, fun y y0 y1 => (hp y y0 y1).2⟩
      · exact h x x0 (by omega)
    · rcases hor with he | hp
      · have : diffB l = false := diffB_hit i0 (by omega) (Bool.eq_false_iff.2 fun hn => ((newB_iff i0 (by omega)).1 hn).2 j j0 ji he)
        unfold apartP; rw [this]; rfl
      · exact apart_hit (by omega) j0 ji hp
theorem l3Apart_ev {t l : List Int} (hs : sysB t = true) (hl : l.length ≤ 1048576) : Ev (fun n => spec_l3Apart.f n t l) (apartP t l) := l3Apart_l0 hs hl l.length 0 (by omega) (by omega) (fun x x0 x1 => by omega)
/-- The reference's PlaneApart at four points. -/
theorem planeApart_ev {t l : List Int} (ht : t.length ≤ 1048576) (h4 : l.length = 4) : Ev (fun n => spec_PlaneApart.f n t l) (quadB t l) := by
  unfold spec_PlaneApart.f quadB
  rw [decide_eq_true h4, Bool.true_and]
  refine Ev.bind (SystemIn_ev t ht) ?_
  by_cases hs : sysB t = true
  case neg =>
    rw [Bool.eq_false_iff.2 hs]
    exact Ev.neg (by decide) (Ev.done rfl)
  rw [hs, h4]
  refine Ev.pos rfl (Ev.fix (show spec_l6In.f ((4 : Nat) : Int) 3 20 = some true from rfl) (Ev.pos rfl (Ev.bind (l3Apart_ev hs (by omega)) (Ev.done rfl))))
theorem isQuad_eq {t l : List Int} (hs : sysB t = true) : impl_plane_isQuad.f t l = some (quadB t l) := by
  unfold impl_plane_isQuad.f quadB
  rw [hs, Bool.true_and]
  by_cases h4 : l.length = 4
  · rw [if_pos (by omega), show impl_plane_apart.f t l = some (apartP t l) from if_pos ⟨hs, by omega⟩, decide_eq_true h4, Bool.true_and]; rfl
  · rw [if_neg (by omega), decide_eq_false h4, Bool.false_and]

end Go.Proofs.Ytcbkoecanldlpaa.X

set_option linter.unusedVariables false
set_option linter.unusedSimpArgs false
namespace Go.Proofs.Ytcbkoecanldlpaa.X
open Go.RowKit Go.Proofs.YtcbkoecanldlpaaW.PrintWords Go.Proofs.YtcbkoecanldlpaaW.PrintLast Go.Proofs.Ytcbkoecanldlpaa.P

def quadP (t x : List Int) : List Int := [crossI t (rd x 0) (rd x 1) (rd x 2) (rd x 3), crossI t (rd x 0) (rd x 2) (rd x 1) (rd x 3), crossI t (rd x 0) (rd x 3) (rd x 1) (rd x 2)]
def quadPR (t x : List Int) : List Int × Bool := if quadB t x = true then (quadP t x, true) else ([], false)
theorem quad_ne {t x : List Int} (h : quadB t x = true) {i j : Int} (i0 : 0 ≤ i) (ij : i < j) (j1 : j < 4) : rd x i ≠ rd x j := by
  obtain ⟨_, h4, ha⟩ := quadB_parts h
  exact diffB_ne (apart_parts ha).1 i0 ij (by omega)
theorem quad_pt {t x : List Int} (h : quadB t x = true) {i : Int} (i0 : 0 ≤ i) (i1 : i < 4) : In91 (rd x i) := by
  obtain ⟨_, h4, ha⟩ := quadB_parts h
  exact diffB_pt (apart_parts ha).1 i0 (by omega)
theorem quadPts_ev {t x : List Int} (h : quadB t x = true) : Ev (fun k => impl_plane_quadPoints.f k t x) (quadP t x) := by
  obtain ⟨hs, h4, _⟩ := quadB_parts h
  have P := fun (i : Int) (i0 : 0 ≤ i) (i1 : i < 4) => quad_pt h i0 i1
  have N := fun (i j : Int) (i0 : 0 ≤ i) (ij : i < j) (j1 : j < 4) => quad_ne h i0 ij j1
  have C := fun (a b c d : Int) (a0 : 0 ≤ a) (ab : a < b) (b1 : b < 4) (c0 : 0 ≤ c) (cd : c < d) (d1 : d < 4) => crossing_ev hs (P a a0 (by omega)) (P b (by omega) b1) (P c c0 (by omega)) (P d (by omega) d1) (N a b a0 ab b1) (N c d c0 cd d1)
  unfold impl_plane_quadPoints.f quadP
  refine Ev.pos (by omega) (Ev.pos (by omega) (Ev.pos (by omega) (Ev.pos (by omega) ?_)))
  exact Ev.bind (C 0 1 2 3 (by omega) (by omega) (by omega) (by omega) (by omega) (by omega)) (Ev.bind (C 0 2 1 3 (by omega) (by omega) (by omega) (by omega) (by omega) (by omega)) (Ev.bind (C 0 3 1 2 (by omega) (by omega) (by omega) (by omega) (by omega) (by omega)) (Ev.done rfl)))
theorem implQuadPts_ev (t x : List Int) : Ev (fun k => impl_QuadPoints.f k t x) (quadPR t x) := by
  unfold impl_QuadPoints.f quadPR
  refine Ev.fix (show impl_isSystem.f t = some (sysB t) from rfl) ?_
  by_cases hs : sysB t = true
  case neg =>
    have : quadB t x = false := by unfold quadB; rw [Bool.eq_false_iff.2 hs]; rfl
    rw [this]
    exact Ev.neg hs (Ev.done rfl)
  refine Ev.pos hs (Ev.fix (isQuad_eq hs) ?_)
  by_cases hq : quadB t x = true
  case neg =>
    rw [if_neg hq]
    exact Ev.neg hq (Ev.done rfl)
  rw [if_pos hq]
  exact Ev.pos hq (Ev.bind (quadPts_ev hq) (Ev.done rfl))

end Go.Proofs.Ytcbkoecanldlpaa.X

set_option linter.unusedVariables false
set_option linter.unusedSimpArgs false
namespace Go.Proofs.Ytcbkoecanldlpaa.X
open Go.RowKit Go.Proofs.YtcbkoecanldlpaaW.PrintWords

def Still (t : List Int) (s : Nat → Bool) : Prop := ∀ x, x < 91 → stepS t s x = s x
theorem still_or (t : List Int) (s : Nat → Bool) (n : Nat) : (∃ m, m < n ∧ Still t (iterS t s m)) ∨ n ≤ sizeS (iterS t s n) := by
  induction n with
  | zero => exact .inr (Nat.zero_le _)
  | succ n ih =>
    rcases ih with ⟨m, hm, h⟩ | h
    · exact .inl ⟨m, by omega, h⟩
    · by_cases hs : Still t (iterS t s n)
      · exact .inl ⟨n, by omega, hs⟩
      · right
        have : ∃ x, x < 91 ∧ stepS t (iterS t s n) x = true ∧ iterS t s n x = false := by
          apply Classical.byContradiction
          intro hc
          apply hs
          intro x hx
          cases h0 : iterS t s n x with
          | true => exact stepS_old _ _ _ h0
          | false =>
            cases h1 : stepS t (iterS t s n) x with
            | false => rfl
            | true => exact absurd ⟨x, hx, h1, h0⟩ hc
        obtain ⟨x, hx, h1, h0⟩ := this
        have := sizeS_less (s := iterS t s n) (s' := iterS t s (n + 1)) (fun y _ hy => stepS_old t _ y hy) hx h1 h0
        omega
theorem iter_still (t : List Int) (s : Nat → Bool) : Still t (iterS t s 91) := by
  rcases still_or t s 92 with ⟨m, hm, h⟩ | h
  · intro x hx
    have h1 := fun x hx => iterS_still h (91 - m) x hx
    rw [show m + (91 - m) = 91 by omega] at h1
    rw [stepS_congr h1 x hx, h x hx, h1 x hx]
  · have := sizeS_le (iterS t s 92); omega
theorem iter_old (t : List Int) (s : Nat → Bool) (n : Nat) (x : Nat) (h : s x = true) : iterS t s n x = true := by
  induction n with
  | zero => exact h
  | succ n ih => exact stepS_old t _ x ih
/-- Two different marked points of a line make it a line of the span. -/
theorem lines_mem {t : List Int} {s : Nat → Bool} {l p q : Int} (hl : In91 l) (hp : In91 p) (hq : In91 q) (hne : p ≠ q) (sp : s p.toNat = true) (sq : s q.toNat = true) (a : onB t p l = true) (b : onB t q l = true) : l ∈ linesS t s := by
  unfold linesS
  rw [mem_filI]
  refine ⟨hl.1, hl.2, ?_⟩
  have hm : ∀ r, In91 r → s r.toNat = true → onB t r l = true → r ∈ (ptsS s).filter fun p => onB t p l := fun r hr hs ho => List.mem_filter.2 ⟨mem_filI.2 ⟨hr.1, hr.2, hs⟩, ho⟩
  have := two_mem_length (hm p hp sp a) (hm q hq sq b) hne
  unfold cntL
  exact decide_eq_true (by omega)
theorem prS_mem {t L : List Int} {x : Nat} {l m : Int} (hl : l ∈ L) (hm : m ∈ L) (hne : l ≠ m) (e : meetI t l m = (x : Int)) : prS t L L.length x = true := by
  obtain ⟨i, hi, e1⟩ := List.mem_iff_getElem.1 hl
  obtain ⟨j, hj, e2⟩ := List.mem_iff_getElem.1 hm
  have r1 : rd L (i : Int) = l := by rw [rd_cast L i hi, e1]
  have r2 : rd L (j : Int) = m := by rw [rd_cast L j hj, e2]
  have hij : i ≠ j := fun e => hne (by rw [← r1, ← r2, e])
  unfold prS
  rw [Int.toNat_natCast]
  simp only [List.any_eq_true, List.mem_range, decide_eq_true_eq]
  rcases Nat.lt_or_gt_of_ne hij with h | h
  · exact ⟨j, hj, i, h, by rw [r1, r2, meetI_comm]; exact e⟩
  · exact ⟨i, hi, j, h, by rw [r1, r2]; exact e⟩
/-- A marked point. -/
def Pt (s : Nat → Bool) (p : Int) : Prop := In91 p ∧ s p.toNat = true
/-- A line with two marked points. -/
def Ln (t : List Int) (s : Nat → Bool) (l : Int) : Prop := In91 l ∧ ∃ p q : Int, Pt s p ∧ Pt s q ∧ p ≠ q ∧ onB t p l = true ∧ onB t q l = true
/-- Closed: two different lines, each with two marked points, have a marked point in common. -/
structure Sub (t : List Int) (s : Nat → Bool) : Prop where
  sys : sysB t = true
  meet : ∀ l m : Int, Ln t s l → Ln t s m → l ≠ m → s (meetI t l m).toNat = true
theorem still_sub {t : List Int} {s : Nat → Bool} (hs : sysB t = true) (h : Still t s) : Sub t s := by
  refine ⟨hs, fun l m hl hm hne => ?_⟩
  obtain ⟨hl, p, q, hp, hq, pq, a, b⟩ := hl
  obtain ⟨hm, r, u, hr, hu, ru, c, d⟩ := hm
  have j := meetI_spec hs hl.1 hl.2 hm.1 hm.2 hne
  have h1 := prS_mem (t := t) (x := (meetI t l m).toNat) (lines_mem (s := s) hl hp.1 hq.1 pq hp.2 hq.2 a b) (lines_mem (s := s) hm hr.1 hu.1 ru hr.2 hu.2 c d) hne (by omega)
  rw [← h _ (by omega)]
  unfold stepS
  rw [h1, Bool.or_true]
theorem span_sub {t : List Int} (hs : sysB t = true) (s : Nat → Bool) : Sub t (iterS t s 91) := still_sub hs (iter_still t s)

namespace Sub
variable {t : List Int} {s : Nat → Bool}
theorem mt (S : Sub t s) {l m : Int} (hl : Ln t s l) (hm : Ln t s m) (hne : l ≠ m) : Pt s (meetI t l m) ∧ onB t (meetI t l m) l = true ∧ onB t (meetI t l m) m = true := by
  have j := meetI_spec S.sys hl.1.1 hl.1.2 hm.1.1 hm.1.2 hne
  exact ⟨⟨⟨j.1, j.2.1⟩, S.meet l m hl hm hne⟩, j.2.2.1, j.2.2.2⟩
theorem jn (S : Sub t s) {p q : Int} (hp : Pt s p) (hq : Pt s q) (hne : p ≠ q) : Ln t s (joinI t p q) ∧ onB t p (joinI t p q) = true ∧ onB t q (joinI t p q) = true := by
  have j := joinI_spec S.sys hp.1.1 hp.1.2 hq.1.1 hq.1.2 hne
  exact ⟨⟨⟨j.1, j.2.1⟩, p, q, hp, hq, hne, j.2.2.1, j.2.2.2⟩, j.2.2.1, j.2.2.2⟩
end Sub
theorem same_ln {t : List Int} (h : sysB t = true) {p q l k : Int} (hp : In91 p) (hq : In91 q) (hne : p ≠ q) (hl : In91 l) (hk : In91 k) (a : onB t p l = true) (b : onB t q l = true) (c : onB t p k = true) (d : onB t q k = true) : l = k := join_uniq h hp.1 hp.2 hq.1 hq.2 hne hl.1 hl.2 hk.1 hk.2 a b c d
theorem same_pt {t : List Int} (h : sysB t = true) {p q l k : Int} (hp : In91 p) (hq : In91 q) (hl : In91 l) (hk : In91 k) (hne : l ≠ k) (a : onB t p l = true) (b : onB t q l = true) (c : onB t p k = true) (d : onB t q k = true) : p = q := by
  rcases Decidable.em (p = q) with e | e
  · exact e
  · exact absurd (same_ln h hp hq e hl hk a b c d) hne

end Go.Proofs.Ytcbkoecanldlpaa.X

set_option linter.unusedVariables false
set_option linter.unusedSimpArgs false
namespace Go.Proofs.Ytcbkoecanldlpaa.X
open Go.RowKit Go.Proofs.YtcbkoecanldlpaaW.PrintWords

/-! ### counting -/
theorem len_le (f : Int → Int) : ∀ A B : List Int, A.Nodup → (∀ a ∈ A, f a ∈ B) → (∀ a ∈ A, ∀ b ∈ A, f a = f b → a = b) → A.length ≤ B.length := by
  intro A
  induction A with
  | nil => intro B _ _ _; exact Nat.zero_le _
  | cons a A ih =>
    intro B hA hf hi
    have hA' := List.nodup_cons.1 hA
    have ha := hf a List.mem_cons_self
    have h1 := ih (B.erase (f a)) hA'.2 (fun b hb => by
      refine (List.mem_erase_of_ne ?_).2 (hf b (List.mem_cons_of_mem _ hb))
      intro e
      have := hi b (List.mem_cons_of_mem _ hb) a List.mem_cons_self e
      exact hA'.1 (this ▸ hb)) (fun b hb c hc => hi b (List.mem_cons_of_mem _ hb) c (List.mem_cons_of_mem _ hc))
    have h2 := List.length_erase_of_mem ha
    have h3 := List.length_pos_of_mem ha
    rw [List.length_cons]; omega
theorem filter_two (p : Int → Bool) (L : List Int) : (L.filter p).length + (L.filter fun x => !p x).length = L.length := by
  induction L with
  | nil => rfl
  | cons a L ih =>
    cases h : p a with
    | true => rw [List.filter_cons_of_pos h, List.filter_cons_of_neg (by simp [h])]; simp only [List.length_cons]; omega
    | false => rw [List.filter_cons_of_neg (by simp [h]), List.filter_cons_of_pos (by simp [h])]; simp only [List.length_cons]; omega
theorem fibers (f : Int → Int) (n : Nat) : ∀ B A : List Int, B.Nodup → (∀ a ∈ A, f a ∈ B) → (∀ b ∈ B, (A.filter fun a => decide (f a = b)).length = n) → A.length = n * B.length := by
  intro B
  induction B with
  | nil =>
    intro A _ hf _
    cases A with
    | nil => rfl
    | cons a A => exact absurd (hf a List.mem_cons_self) (by simp)
  | cons b B ih =>
    intro A hB hf hn
    have hB' := List.nodup_cons.1 hB
    have h1 := hn b List.mem_cons_self
    have h2 := filter_two (fun a => decide (f a = b)) A
    have h3 := ih (A.filter fun a => !decide (f a = b)) hB'.2 (fun a ha => by
      have ha := List.mem_filter.1 ha
      rcases List.mem_cons.1 (hf a ha.1) with e | e
      · rw [decide_eq_true e] at ha; exact absurd ha.2 (by decide)
      · exact e) (fun c hc => by
      rw [List.filter_filter, ← hn c (List.mem_cons_of_mem _ hc)]
      refine congrArg List.length (List.filter_congr fun a _ => ?_)
      by_cases e : f a = c
      · have : f a ≠ b := fun e2 => hB'.1 (by rw [← e2, e]; exact hc)
        rw [decide_eq_true e, decide_eq_false this]; rfl
      · rw [decide_eq_false e]; rfl)
    rw [List.length_cons, Nat.mul_succ]; omega
theorem drop_one {L : List Int} (h : L.Nodup) {x : Int} (hx : x ∈ L) : (L.filter fun a => !decide (a = x)).length + 1 = L.length := by
  have h1 := filter_two (fun a => decide (a = x)) L
  have h2 : (L.filter fun a => decide (a = x)).length = 1 := by
    have h3 := len_le id (L.filter fun a => decide (a = x)) [x] (h.filter _) (fun a ha => by
      have := (List.mem_filter.1 ha).2
      exact List.mem_singleton.2 (of_decide_eq_true this)) (fun a _ b _ e => e)
    have h4 := List.length_pos_of_mem (List.mem_filter.2 ⟨hx, decide_eq_true (rfl : x = x)⟩ : x ∈ L.filter fun a => decide (a = x))
    rw [List.length_singleton] at h3
    omega
  omega
theorem filI_nodup (n : Nat) (p : Int → Bool) : (filI n p).Nodup := (filI_asc n p).imp fun h => by omega

/-! ### lines of a closed set -/
/-- The marked points of a line. -/
def onL (t : List Int) (s : Nat → Bool) (l : Int) : List Int := (ptsS s).filter fun p => onB t p l
theorem mem_ptsS {s : Nat → Bool} {p : Int} : p ∈ ptsS s ↔ Pt s p := by
  unfold ptsS Pt In91; rw [mem_filI]
  constructor
  · rintro ⟨a, b, c⟩; exact ⟨⟨a, b⟩, c⟩
  · rintro ⟨⟨a, b⟩, c⟩; exact ⟨a, b, c⟩
theorem mem_onL {t : List Int} {s : Nat → Bool} {l p : Int} : p ∈ onL t s l ↔ Pt s p ∧ onB t p l = true := by
  unfold onL; rw [List.mem_filter, mem_ptsS]
theorem onL_nodup (t : List Int) (s : Nat → Bool) (l : Int) : (onL t s l).Nodup := (filI_nodup 91 _).filter _
namespace Sub
variable {t : List Int} {s : Nat → Bool}
/-- From a marked point off two lines the points of one are projected onto the other. -/
theorem proj_le (S : Sub t s) {o l m : Int} (ho : Pt s o) (hl : Ln t s l) (hm : Ln t s m) (ol : onB t o l ≠ true) (om : onB t o m ≠ true) : (onL t s l).length ≤ (onL t s m).length := by
  have key : ∀ p, Pt s p → onB t p l = true → o ≠ p ∧ (Pt s (meetI t (joinI t o p) m) ∧ onB t (meetI t (joinI t o p) m) (joinI t o p) = true ∧ onB t (meetI t (joinI t o p) m) m = true) := by
    intro p hp a
    have hne : o ≠ p := fun e => ol (e ▸ a)
    obtain ⟨j, j1, j2⟩ := S.jn ho hp hne
    exact ⟨hne, S.mt j hm fun e => om (e ▸ j1)⟩
  refine len_le (fun p => meetI t (joinI t o p) m) _ _ (onL_nodup t s l) (fun p hp => ?_) (fun p hp q hq e => ?_)
  · obtain ⟨hp, a⟩ := mem_onL.1 hp
    obtain ⟨_, k1, _, k3⟩ := key p hp a
    exact mem_onL.2 ⟨k1, k3⟩
  · obtain ⟨hp, a⟩ := mem_onL.1 hp
    obtain ⟨hq, b⟩ := mem_onL.1 hq
    obtain ⟨op, k1, k2, k3⟩ := key p hp a
    obtain ⟨oq, i1, i2, i3⟩ := key q hq b
    have e : meetI t (joinI t o p) m = meetI t (joinI t o q) m := e
    rw [← e] at i2
    obtain ⟨j, j1, j2⟩ := S.jn ho hp op
    obtain ⟨n, n1, n2⟩ := S.jn ho hq oq
    have hz : o ≠ meetI t (joinI t o p) m := fun e => om (by rw [e]; exact k3)
    have hjn := same_ln S.sys ho.1 k1.1 hz j.1 n.1 j1 k2 n1 i2
    rw [← hjn] at n2
    exact same_pt S.sys hp.1 hq.1 hl.1 j.1 (fun e => ol (by rw [e]; exact j1)) a b j2 n2
theorem proj_eq (S : Sub t s) {o l m : Int} (ho : Pt s o) (hl : Ln t s l) (hm : Ln t s m) (ol : onB t o l ≠ true) (om : onB t o m ≠ true) : (onL t s l).length = (onL t s m).length :=
  Nat.le_antisymm (S.proj_le ho hl hm ol om) (S.proj_le ho hm hl om ol)
end Sub

/-! ### all points -/
theorem all_sub {t : List Int} (hs : sysB t = true) : Sub t fun _ => true := ⟨hs, fun _ _ _ _ _ => rfl⟩
theorem all_pt {p : Int} (h : In91 p) : Pt (fun _ => true) p := ⟨h, rfl⟩
theorem all_ln {t : List Int} (hs : sysB t = true) {l : Int} (hl : In91 l) : Ln t (fun _ => true) l := by
  have h2 := pointsL_two hs hl.1 hl.2
  have a := pointsL_rd (t := t) (l := l) (i := 0) (by omega) (by omega)
  have b := pointsL_rd (t := t) (l := l) (i := 1) (by omega) (by omega)
  have c : rd (pointsL t l) 0 < rd (pointsL t l) 1 := filI_lt (by omega) (by omega) (by show (1 : Int) < ((pointsL t l).length : Nat); omega)
  exact ⟨hl, _, _, all_pt a.1, all_pt b.1, by omega, a.2, b.2⟩
theorem off_two {t : List Int} (hs : sysB t = true) {l : Int} (hl : In91 l) : ∃ o, In91 o ∧ o < 81 ∧ onB t o l ≠ true := by
  by_cases h0 : onB t 0 l = true
  · by_cases h1 : onB t 1 l = true
    · refine ⟨9, ⟨by omega, by omega⟩, by omega, fun h9 => ?_⟩
      have a : onB t 0 81 = true := by have := (on_vert (t := t) (x := 0) (y := 0) (c := 0) (by omega) (by omega) (by omega) (by omega) (by omega) (by omega)).2 rfl; simpa using this
      have b : onB t 1 81 = true := by have := (on_vert (t := t) (x := 0) (y := 1) (c := 0) (by omega) (by omega) (by omega) (by omega) (by omega) (by omega)).2 rfl; simpa using this
      have e := same_ln hs (p := 0) (q := 1) ⟨by omega, by omega⟩ ⟨by omega, by omega⟩ (by omega) hl (k := 81) ⟨by omega, by omega⟩ h0 h1 a b
      rw [e] at h9
      have := (on_vert (t := t) (x := 1) (y := 0) (c := 0) (by omega) (by omega) (by omega) (by omega) (by omega) (by omega)).1 (by simpa using h9)
      omega
    · exact ⟨1, ⟨by omega, by omega⟩, by omega, h1⟩
  · exact ⟨0, ⟨by omega, by omega⟩, by omega, h0⟩
theorem far_len (t : List Int) : (onL t (fun _ => true) 90).length = 10 := by
  have : onL t (fun _ => true) 90 = filI 91 fun p => decide (81 ≤ p) := by
    unfold onL ptsS filI
    rw [List.filter_map, List.filter_filter]
    refine congrArg _ (List.filter_congr fun i _ => ?_)
    show (onB t (i : Int) 90 && true) = _
    unfold onB
    rw [if_pos rfl, Bool.and_true]
  rw [this]
  decide +kernel
/-- A line has ten points. -/
theorem ten_points {t : List Int} (hs : sysB t = true) {l : Int} (hl : In91 l) : (onL t (fun _ => true) l).length = 10 := by
  obtain ⟨o, ho, o1, h⟩ := off_two hs hl
  rw [(all_sub hs).proj_eq (all_pt ho) (all_ln hs hl) (all_ln hs (l := 90) ⟨by omega, by omega⟩) h (fun h => by have := on_inf.1 h; omega)]
  exact far_len t

/-! ### a quadrangle in a closed set -/
structure Quad (t : List Int) (s : Nat → Bool) (a b c d : Int) : Prop where
  pa : Pt s a
  pb : Pt s b
  pc : Pt s c
  pd : Pt s d
  ab : a ≠ b
  ac : a ≠ c
  ad : a ≠ d
  bc : b ≠ c
  bd : b ≠ d
  cd : c ≠ d
  cab : onB t c (joinI t a b) ≠ true
  dab : onB t d (joinI t a b) ≠ true
  dac : onB t d (joinI t a c) ≠ true
  dbc : onB t d (joinI t b c) ≠ true
namespace Sub
variable {t : List Int} {s : Nat → Bool} {a b c d : Int}
/-- The line through c and a marked point of the line through a and b has as many points as that. -/
theorem same_len (S : Sub t s) (Q : Quad t s a b c d) {m : Int} (hm : Ln t s m) (hc : onB t c m = true) : (onL t s m).length = (onL t s (joinI t a b)).length := by
  obtain ⟨l, l1, l2⟩ := S.jn Q.pa Q.pb Q.ab
  by_cases h : onB t d m = true
  · -- the lines through a and c, and through b and d, meet off both
    obtain ⟨ac, ac1, ac2⟩ := S.jn Q.pa Q.pc Q.ac
    obtain ⟨bd, bd1, bd2⟩ := S.jn Q.pb Q.pd Q.bd
    have ne : joinI t a c ≠ joinI t b d := fun e => Q.dac (by rw [e]; exact bd2)
    obtain ⟨ho, o1, o2⟩ := S.mt ac bd ne
    have acl : joinI t a c ≠ joinI t a b := fun e => Q.cab (by rw [← e]; exact ac2)
    have bdl : joinI t b d ≠ joinI t a b := fun e => Q.dab (by rw [← e]; exact bd2)
    have acm : joinI t a c ≠ m := fun e => Q.dac (by rw [e]; exact h)
    have bdm : joinI t b d ≠ m := fun e => by
      have : onB t c (joinI t b d) = true := by rw [e]; exact hc
      have e2 := S.jn Q.pb Q.pc Q.bc
      have := same_ln S.sys Q.pb.1 Q.pc.1 Q.bc bd.1 e2.1.1 bd1 this e2.2.1 e2.2.2
      exact Q.dbc (by rw [← this]; exact bd2)
    refine S.proj_eq ho hm l (fun h1 => ?_) (fun h1 => ?_)
    · have e1 := same_pt S.sys ho.1 Q.pc.1 ac.1 hm.1 acm o1 ac2 h1 hc
      rw [e1] at o2
      have e2 := S.jn Q.pb Q.pc Q.bc
      have := same_ln S.sys Q.pb.1 Q.pc.1 Q.bc bd.1 e2.1.1 bd1 o2 e2.2.1 e2.2.2
      exact Q.dbc (by rw [← this]; exact bd2)
    · have e1 := same_pt S.sys ho.1 Q.pa.1 ac.1 l.1 acl o1 ac1 h1 l1
      have e2 := same_pt S.sys ho.1 Q.pb.1 bd.1 l.1 bdl o2 bd1 h1 l2
      exact Q.ab (e1.symm.trans e2)
  · exact S.proj_eq Q.pd hm l h Q.dab
/-- Points are counted by the lines through c. -/
theorem count (S : Sub t s) (Q : Quad t s a b c d) {n : Nat} (hn : (onL t s (joinI t a b)).length = n + 1) : sizeS s = n * (n + 1) + 1 := by
  obtain ⟨l, l1, l2⟩ := S.jn Q.pa Q.pb Q.ab
  have h1 := drop_one (L := ptsS s) (filI_nodup 91 _) (mem_ptsS.2 Q.pc)
  have key : ∀ q, Pt s q → c ≠ q → Pt s (meetI t (joinI t c q) (joinI t a b)) ∧ onB t (meetI t (joinI t c q) (joinI t a b)) (joinI t c q) = true ∧ onB t (meetI t (joinI t c q) (joinI t a b)) (joinI t a b) = true := by
    intro q hq hne
    obtain ⟨j, j1, j2⟩ := S.jn Q.pc hq hne
    exact S.mt j l fun e => Q.cab (by rw [← e]; exact j1)
  have h2 := fibers (fun q => meetI t (joinI t c q) (joinI t a b)) n (onL t s (joinI t a b)) ((ptsS s).filter fun x => !decide (x = c)) (onL_nodup _ _ _) (fun q hq => by
      obtain ⟨hq, hne⟩ := List.mem_filter.1 hq
      obtain ⟨k1, k2, k3⟩ := key q (mem_ptsS.1 hq) (fun e => by rw [decide_eq_true e.symm] at hne; exact absurd hne (by decide))
      exact mem_onL.2 ⟨k1, k3⟩) (fun z hz => by
      obtain ⟨hz, za⟩ := mem_onL.1 hz
      have cz : c ≠ z := fun e => Q.cab (by rw [e]; exact za)
      obtain ⟨j, j1, j2⟩ := S.jn Q.pc hz cz
      have h3 := S.same_len Q j j1
      have h4 := drop_one (onL_nodup t s (joinI t c z)) (mem_onL.2 ⟨Q.pc, j1⟩)
      have h5 : (List.filter (fun q => decide (meetI t (joinI t c q) (joinI t a b) = z)) (List.filter (fun x => !decide (x = c)) (ptsS s))) = (onL t s (joinI t c z)).filter fun a => !decide (a = c) := by
        unfold onL
        rw [List.filter_filter, List.filter_filter]
        refine List.filter_congr fun q hq => ?_
        have hq := mem_ptsS.1 hq
        by_cases e : q = c
        · rw [decide_eq_true e]; simp
        · obtain ⟨k1, k2, k3⟩ := key q hq (fun h => e h.symm)
          obtain ⟨i, i1, i2⟩ := S.jn Q.pc hq (fun h => e h.symm)
          rw [decide_eq_false e, Bool.not_false, Bool.and_true, Bool.true_and]
          by_cases f : onB t q (joinI t c z) = true
          · rw [f, decide_eq_true_iff]
            have e1 := same_ln S.sys Q.pc.1 hq.1 (fun h => e h.symm) i.1 j.1 i1 i2 j1 f
            rw [e1] at k2 k3 ⊢
            exact same_pt S.sys (meetI_spec S.sys j.1.1 j.1.2 l.1.1 l.1.2 (fun e => Q.cab (by rw [← e]; exact j1)) |> fun h => ⟨h.1, h.2.1⟩) hz.1 j.1 l.1 (fun e => Q.cab (by rw [← e]; exact j1)) k2 j2 k3 za
          · rw [Bool.eq_false_iff.2 f, decide_eq_false]
            intro e1
            rw [e1] at k2
            have e2 := same_ln S.sys Q.pc.1 hz.1 cz i.1 j.1 i1 k2 j1 j2
            exact f (by rw [← e2]; exact i2)
      rw [h5]; omega)
  rw [hn] at h2
  unfold sizeS
  omega
theorem three_on (S : Sub t s) (Q : Quad t s a b c d) : 3 ≤ (onL t s (joinI t a b)).length := by
  obtain ⟨l, l1, l2⟩ := S.jn Q.pa Q.pb Q.ab
  obtain ⟨cd, cd1, cd2⟩ := S.jn Q.pc Q.pd Q.cd
  have ne : joinI t a b ≠ joinI t c d := fun e => Q.cab (by rw [e]; exact cd1)
  obtain ⟨ho, o1, o2⟩ := S.mt l cd ne
  have oa : a ≠ meetI t (joinI t a b) (joinI t c d) := fun e => by
    rw [← e] at o2
    have j := S.jn Q.pa Q.pc Q.ac
    have := same_ln S.sys Q.pa.1 Q.pc.1 Q.ac cd.1 j.1.1 o2 cd1 j.2.1 j.2.2
    exact Q.dac (by rw [← this]; exact cd2)
  have ob : b ≠ meetI t (joinI t a b) (joinI t c d) := fun e => by
    rw [← e] at o2
    have j := S.jn Q.pb Q.pc Q.bc
    have := same_ln S.sys Q.pb.1 Q.pc.1 Q.bc cd.1 j.1.1 o2 cd1 j.2.1 j.2.2
    exact Q.dbc (by rw [← this]; exact cd2)
  have := len_le id [a, b, meetI t (joinI t a b) (joinI t c d)] (onL t s (joinI t a b)) (by simp [Q.ab, oa, ob]) (fun x hx => by
    rcases List.mem_cons.1 hx with rfl | hx
    · exact mem_onL.2 ⟨Q.pa, l1⟩
    rcases List.mem_cons.1 hx with rfl | hx
    · exact mem_onL.2 ⟨Q.pb, l2⟩
    · rw [List.mem_singleton.1 hx]; exact mem_onL.2 ⟨ho, o1⟩) (fun x _ y _ e => e)
  exact this
/-- With a point of the line that is not marked there are few marked points off the line. -/
theorem few (S : Sub t s) (Q : Quad t s a b c d) {p : Int} (hp : In91 p) (ps : s p.toNat ≠ true) (pl : onB t p (joinI t a b) = true) : sizeS s ≤ (onL t s (joinI t a b)).length + 9 := by
  obtain ⟨l, l1, l2⟩ := S.jn Q.pa Q.pb Q.ab
  have A := all_sub S.sys
  obtain ⟨k, k1, k2⟩ := S.jn Q.pa Q.pc Q.ac
  have kl : joinI t a c ≠ joinI t a b := fun e => Q.cab (by rw [← e]; exact k2)
  have pa : a ≠ p := fun e => ps (e ▸ Q.pa.2)
  have pk : onB t p (joinI t a c) ≠ true := fun h => kl (same_ln S.sys Q.pa.1 hp pa k.1 l.1 k1 h l1 pl)
  have h1 := filter_two (fun q => onB t q (joinI t a b)) (ptsS s)
  have h2 := drop_one (onL_nodup t (fun _ => true) (joinI t a c)) (mem_onL.2 ⟨all_pt Q.pa.1, k1⟩)
  rw [ten_points S.sys k.1] at h2
  have key : ∀ q, Pt s q → onB t q (joinI t a b) ≠ true → p ≠ q ∧ (In91 (joinI t p q) ∧ onB t p (joinI t p q) = true ∧ onB t q (joinI t p q) = true) ∧ (In91 (meetI t (joinI t p q) (joinI t a c)) ∧ onB t (meetI t (joinI t p q) (joinI t a c)) (joinI t p q) = true ∧ onB t (meetI t (joinI t p q) (joinI t a c)) (joinI t a c) = true) := by
    intro q hq hne
    have pq : p ≠ q := fun e => hne (e ▸ pl)
    obtain ⟨j, j1, j2⟩ := A.jn (all_pt hp) (all_pt hq.1) pq
    obtain ⟨m, m1, m2⟩ := A.mt j (all_ln S.sys k.1) (fun e => pk (by rw [← e]; exact j1))
    exact ⟨pq, ⟨j.1, j1, j2⟩, m.1, m1, m2⟩
  have h3 := len_le (fun q => meetI t (joinI t p q) (joinI t a c)) ((ptsS s).filter fun q => !onB t q (joinI t a b)) ((onL t (fun _ => true) (joinI t a c)).filter fun x => !decide (x = a)) ((filI_nodup 91 _).filter _) (fun q hq => by
      obtain ⟨hq, hne⟩ := List.mem_filter.1 hq
      have hne : onB t q (joinI t a b) ≠ true := fun h => by rw [h] at hne; exact absurd hne (by decide)
      obtain ⟨pq, ⟨j, j1, j2⟩, m, m1, m2⟩ := key q (mem_ptsS.1 hq) hne
      refine List.mem_filter.2 ⟨mem_onL.2 ⟨all_pt m, m2⟩, ?_⟩
      rw [decide_eq_false]; rfl
      intro e
      have e : meetI t (joinI t p q) (joinI t a c) = a := e
      rw [e] at m1
      have := same_ln S.sys hp Q.pa.1 (fun h => pa h.symm) j l.1 j1 m1 pl l1
      exact hne (by rw [← this]; exact j2)) (fun q hq r hr e => by
      obtain ⟨hq, hne⟩ := List.mem_filter.1 hq
      have hne : onB t q (joinI t a b) ≠ true := fun h => by rw [h] at hne; exact absurd hne (by decide)
      obtain ⟨hr, hnr⟩ := List.mem_filter.1 hr
      have hnr : onB t r (joinI t a b) ≠ true := fun h => by rw [h] at hnr; exact absurd hnr (by decide)
      have hq := mem_ptsS.1 hq
      have hr := mem_ptsS.1 hr
      obtain ⟨pq, ⟨j, j1, j2⟩, m, m1, m2⟩ := key q hq hne
      obtain ⟨pr, ⟨i, i1, i2⟩, n, n1, n2⟩ := key r hr hnr
      have e : meetI t (joinI t p q) (joinI t a c) = meetI t (joinI t p r) (joinI t a c) := e
      rw [← e] at n1
      have hz : p ≠ meetI t (joinI t p q) (joinI t a c) := fun e => pk (by rw [e]; exact m2)
      have hji := same_ln S.sys hp m hz j i j1 m1 i1 n1
      rw [← hji] at i2
      rcases Decidable.em (q = r) with h | h
      · exact h
      · exfalso
        have jl : Ln t s (joinI t p q) := ⟨j, q, r, hq, hr, h, j2, i2⟩
        have jne : joinI t p q ≠ joinI t a b := fun e => hne (by rw [← e]; exact j2)
        obtain ⟨v, v1, v2⟩ := S.mt jl l jne
        have := same_pt S.sys v.1 hp j l.1 jne v1 j1 v2 pl
        rw [this] at v
        exact ps v.2)
  unfold sizeS
  unfold onL at h3 h2 ⊢
  omega
/-- The orders of closed sets with a quadrangle. -/
theorem orders (S : Sub t s) (Q : Quad t s a b c d) : ∃ n : Nat, (onL t s (joinI t a b)).length = n + 1 ∧ sizeS s = n * n + n + 1 ∧ (n = 2 ∨ n = 3 ∨ n = 9) := by
  obtain ⟨l, l1, l2⟩ := S.jn Q.pa Q.pb Q.ab
  have h3 := S.three_on Q
  obtain ⟨n, hn⟩ : ∃ n, (onL t s (joinI t a b)).length = n + 1 := ⟨(onL t s (joinI t a b)).length - 1, by omega⟩
  have hc := S.count Q hn
  have h10 := ten_points S.sys l.1
  refine ⟨n, hn, by rw [hc, Nat.mul_succ], ?_⟩
  by_cases hall : ∀ p, In91 p → onB t p (joinI t a b) = true → s p.toNat = true
  · have := len_le id (onL t (fun _ => true) (joinI t a b)) (onL t s (joinI t a b)) (onL_nodup _ _ _) (fun p hp => by
      obtain ⟨hp, h⟩ := mem_onL.1 hp
      exact mem_onL.2 ⟨⟨hp.1, hall p hp.1 h⟩, h⟩) (fun _ _ _ _ e => e)
    have h2 := len_le id (onL t s (joinI t a b)) (onL t (fun _ => true) (joinI t a b)) (onL_nodup _ _ _) (fun p hp => by
      obtain ⟨hp, h⟩ := mem_onL.1 hp
      exact mem_onL.2 ⟨all_pt hp.1, h⟩) (fun _ _ _ _ e => e)
    omega
  · have : ∃ p, In91 p ∧ onB t p (joinI t a b) = true ∧ s p.toNat ≠ true := by
      apply Classical.byContradiction
      intro hno
      exact hall fun p hp h => Classical.byContradiction fun h2 => hno ⟨p, hp, h, h2⟩
    obtain ⟨p, hp, h, h2⟩ := this
    have hf := S.few Q hp h2 h
    rw [hn, hc] at hf
    have hb : n ≤ 3 := by
      rcases Nat.lt_or_ge 3 n with hlt | hge
      · have : 4 * (n + 1) ≤ n * (n + 1) := Nat.mul_le_mul_right _ hlt
        have : n * (n + 1) = n * n + n := Nat.mul_succ n n
        have : 4 * n ≤ n * n := Nat.mul_le_mul_right _ hlt
        omega
      · exact hge
    omega
end Sub

end Go.Proofs.Ytcbkoecanldlpaa.X

set_option linter.unusedVariables false
set_option linter.unusedSimpArgs false
namespace Go.Proofs.Ytcbkoecanldlpaa.X
open Go.RowKit Go.Proofs.YtcbkoecanldlpaaW.PrintWords

/-- What a span of points marks. -/
def spB (t l : List Int) : Nat → Bool := iterS t (inL l) 91
theorem spB_old {t l : List Int} {p : Int} (hp : In91 p) (h : p ∈ l) : Pt (spB t l) p := by
  refine ⟨hp, iter_old t _ 91 _ ?_⟩
  unfold inL
  rw [Int.toNat_of_nonneg hp.1]
  exact decide_eq_true h
theorem mem_spanS {t l : List Int} {p : Int} : p ∈ spanS t (inL l) ↔ Pt (spB t l) p := mem_ptsS
theorem off_swap {t : List Int} (h : sysB t = true) {p q r : Int} (hp : In91 p) (hq : In91 q) (hr : In91 r) (pq : p ≠ q) (qr : q ≠ r) (pr : p ≠ r) (ho : onB t p (joinI t r q) = false) : onB t r (joinI t p q) ≠ true := by
  intro a
  have j := joinI_spec h hp.1 hp.2 hq.1 hq.2 pq
  have k := joinI_spec h hr.1 hr.2 hq.1 hq.2 (fun e => qr e.symm)
  have := same_ln h hr hq (fun e => qr e.symm) ⟨j.1, j.2.1⟩ ⟨k.1, k.2.1⟩ a j.2.2.2 k.2.2.1 k.2.2.2
  rw [← this, j.2.2.1] at ho
  exact absurd ho (by decide)
theorem quad_in {t x : List Int} (h : quadB t x = true) : Quad t (spB t x) (rd x 0) (rd x 1) (rd x 2) (rd x 3) := by
  obtain ⟨hs, h4, ha⟩ := quadB_parts h
  obtain ⟨hd, ht⟩ := apart_parts ha
  have P := fun (i : Int) (i0 : 0 ≤ i) (i1 : i < 4) => spB_old (t := t) (diffB_pt hd (i := i) i0 (by omega)) (rd_mem (t := x) (i := i) (by omega) i0)
  have N := fun (i j : Int) (i0 : 0 ≤ i) (ij : i < j) (j1 : j < 4) => diffB_ne hd (i := i) (j := j) i0 ij (by omega)
  have O : ∀ i j k : Int, 0 ≤ k → k < j → j < i → i < 4 → onB t (rd x i) (joinI t (rd x k) (rd x j)) ≠ true := fun i j k k0 kj ji i1 => by
    have := ht i j k k0 kj ji (by omega)
    exact off_swap hs (P k k0 (by omega)).1 (P j (by omega) (by omega)).1 (P i (by omega) i1).1 (N k j k0 kj (by omega)) (N j i (by omega) ji i1) (N k i k0 (by omega) i1) this
  exact ⟨P 0 (by omega) (by omega), P 1 (by omega) (by omega), P 2 (by omega) (by omega), P 3 (by omega) (by omega), N 0 1 (by omega) (by omega) (by omega), N 0 2 (by omega) (by omega) (by omega), N 0 3 (by omega) (by omega) (by omega), N 1 2 (by omega) (by omega) (by omega), N 1 3 (by omega) (by omega) (by omega), N 2 3 (by omega) (by omega) (by omega), O 2 1 0 (by omega) (by omega) (by omega) (by omega), O 3 1 0 (by omega) (by omega) (by omega) (by omega), O 3 2 0 (by omega) (by omega) (by omega) (by omega), O 3 2 1 (by omega) (by omega) (by omega) (by omega)⟩
/-- Two joins of a quadrangle's points with no corner in common are different. -/
theorem Quad.ne1 {t : List Int} {s : Nat → Bool} {a b c d : Int} (S : Sub t s) (Q : Quad t s a b c d) : joinI t a b ≠ joinI t c d := fun e => Q.cab (by rw [e]; exact (S.jn Q.pc Q.pd Q.cd).2.1)
theorem Quad.ne2 {t : List Int} {s : Nat → Bool} {a b c d : Int} (S : Sub t s) (Q : Quad t s a b c d) : joinI t a c ≠ joinI t b d := fun e => Q.dac (by rw [e]; exact (S.jn Q.pb Q.pd Q.bd).2.2)
theorem Quad.ne3 {t : List Int} {s : Nat → Bool} {a b c d : Int} (S : Sub t s) (Q : Quad t s a b c d) : joinI t a d ≠ joinI t b c := fun e => Q.dbc (by rw [← e]; exact (S.jn Q.pa Q.pd Q.ad).2.2)

end Go.Proofs.Ytcbkoecanldlpaa.X

set_option linter.unusedVariables false
set_option linter.unusedSimpArgs false
namespace Go.Proofs.Ytcbkoecanldlpaa.Pure
open Go.RowKit Go.Proofs.Ytcbkoecanldlpaa.P Go.Proofs.YtcbkoecanldlpaaW.PrintWords Go.Proofs.YtcbkoecanldlpaaW.PrintLast Go.Proofs.Ytcbkoecanldlpaa.X

theorem drawSpan_ev (l0 : List Int) (hu : ∀ x ∈ l0, (Lit.int .u8 x).wf = true) : ∃ t l, DrawnT t ∧ l.length ≤ 4 ∧ Ev (fun k => spec_DrawSpanOf.f k l0) (t, l) := by
  obtain ⟨s, hs, eo⟩ := open_ev l0 hu
  obtain ⟨t, q, ht, hq, et⟩ := system_ev hs (p := 0) (by omega) (by omega)
  obtain ⟨l, q1, hl, _, hq1, el⟩ := quad_ev hs (p := q) (by omega) (by omega)
  obtain ⟨a, ha, ea⟩ := pick_ev hs (p := q1) (by omega) (by omega) (n := 3) (by omega) (by omega)
  obtain ⟨b, hb, eb⟩ := pick_ev hs (p := q1 + 1) (by omega) (by omega) (n := 4) (by omega) (by omega)
  by_cases e : a = 0
  · refine ⟨t, l.take b.toNat, ht, by rw [List.length_take]; omega, ?_⟩
    unfold spec_DrawSpanOf.f
    exact Ev.fix eo (Ev.bind et (Ev.bind el (Ev.bind ea (Ev.pos e (Ev.bind eb (Ev.pos hb.1 (Ev.pos (by dsimp only; omega) (Ev.done rfl))))))))
  · refine ⟨t, l, ht, by omega, ?_⟩
    unfold spec_DrawSpanOf.f
    exact Ev.fix eo (Ev.bind et (Ev.bind el (Ev.bind ea (Ev.neg e (Ev.done rfl)))))
theorem fspan_l1 {t x : List Int} (hs : sysB t = true) (hx : x.length ≤ 4) (hp : ∀ p ∈ x, In91 p) (s : Nat → Bool) (hS : ∀ i : Int, Pt (spB t x) i → s i.toNat = true) (d : Nat) : ∀ i : Int, 0 ≤ i → i + d = x.length → Ev (fun k => laws_FnSpan.l1 k t x (bL 91 s) i) true := by
  induction d with
  | zero =>
    intro i i0 i1
    refine Ev.step (fun k => by rw [laws_FnSpan.l1]) ?_
    refine Ev.neg (by omega) (Ev.bind (implQuadPts_ev t x) ?_)
    by_cases hq : quadB t x = true
    case neg =>
      rw [show quadPR t x = ([], false) from if_neg hq]
      exact Ev.neg (by decide) (Ev.done rfl)
    rw [show quadPR t x = (quadP t x, true) from if_pos hq]
    have S := span_sub hs (inL x)
    have Q := quad_in hq
    have A := S.mt (S.jn Q.pa Q.pb Q.ab).1 (S.jn Q.pc Q.pd Q.cd).1 (Q.ne1 S)
    have B := S.mt (S.jn Q.pa Q.pc Q.ac).1 (S.jn Q.pb Q.pd Q.bd).1 (Q.ne2 S)
    have C := S.mt (S.jn Q.pa Q.pd Q.ad).1 (S.jn Q.pb Q.pc Q.bc).1 (Q.ne3 S)
    have a := A.1.1
    have b := B.1.1
    have c := C.1.1
    have sa := hS _ A.1
    have sb := hS _ B.1
    have sc := hS _ C.1
    have hL : (bL 91 s).length = 91 := bL_length _ _
    have e0 : rd (quadP t x) 0 = meetI t (joinI t (rd x 0) (rd x 1)) (joinI t (rd x 2) (rd x 3)) := rfl
    have e1 : rd (quadP t x) 1 = meetI t (joinI t (rd x 0) (rd x 2)) (joinI t (rd x 1) (rd x 3)) := rfl
    have e2 : rd (quadP t x) 2 = meetI t (joinI t (rd x 0) (rd x 3)) (joinI t (rd x 1) (rd x 2)) := rfl
    have h3 : (quadP t x).length = 3 := rfl
    rw [← e0] at a sa
    rw [← e1] at b sb
    rw [← e2] at c sc
    refine Ev.pos rfl (Ev.pos (by dsimp only; omega) (Ev.pos a.1 (Ev.pos (by rw [hL]; exact a.2) (Ev.pos (by rw [bL_rd (s := s) _ a.1 a.2]; exact sa) ?_))))
    refine Ev.pos (by dsimp only; omega) (Ev.pos b.1 (Ev.pos (by rw [hL]; exact b.2) (Ev.pos (by rw [bL_rd (s := s) _ b.1 b.2]; exact sb) ?_)))
    refine Ev.pos (by dsimp only; omega) (Ev.pos c.1 (Ev.pos (by rw [hL]; exact c.2) (Ev.done ?_)))
    dsimp only
    rw [bL_rd (s := s) _ c.1 c.2, sc]
  | succ d ih =>
    intro i i0 i1
    have hm := rd_mem (t := x) (i := i) (by omega) i0
    have hi := hp _ hm
    refine Ev.step (fun k => by rw [laws_FnSpan.l1]) ?_
    rw [w64 (x := i + 1) (by omega) (by omega)]
    exact Ev.pos (by omega) (Ev.pos i0 (Ev.pos hi.1 (Ev.pos (by rw [bL_length]; exact hi.2) (Ev.pos (by rw [bL_rd (s := s) _ hi.1 hi.2]; exact hS _ (spB_old hi hm)) (ih (i + 1) (by omega) (by omega))))))
theorem fspan_l0 {t x : List Int} (hs : sysB t = true) (hx : x.length ≤ 4) (hp : ∀ p ∈ x, In91 p) (d : Nat) : ∀ i : Int, 0 ≤ i → i + d = (spanS t (inL x)).length → Ev (fun k => laws_FnSpan.l0 k t x (spanS t (inL x)) (bL 91 (inL ((spanS t (inL x)).take i.toNat))) i) true := by
  have hlen := spanS_length t (inL x)
  induction d with
  | zero =>
    intro i i0 i1
    refine Ev.step (fun k => by rw [laws_FnSpan.l0]) ?_
    refine Ev.neg (by omega) (fspan_l1 hs hx hp _ (fun j hj => ?_) x.length 0 (by omega) (by omega))
    rw [List.take_of_length_le (by omega)]
    unfold inL
    rw [Int.toNat_of_nonneg hj.1.1]
    exact decide_eq_true (mem_spanS.2 hj)
  | succ d ih =>
    intro i i0 i1
    have nx := ih (i + 1) (by omega) (by omega)
    have hm := mem_spanS.1 (rd_mem (t := spanS t (inL x)) (i := i) (by omega) i0)
    have hi := hm.1
    have e : bL 91 (inL ((spanS t (inL x)).take (i + 1).toNat)) = (bL 91 (inL ((spanS t (inL x)).take i.toNat))).set (rd (spanS t (inL x)) i).toNat true := by
      rw [bL_set]
      exact bL_congr fun y _ => inL_take i0 (by omega) hi.1 y
    rw [e] at nx
    refine Ev.step (fun k => by rw [laws_FnSpan.l0]) ?_
    rw [w64 (x := i + 1) (by omega) (by omega)]
    refine Ev.pos (by omega) ?_
    by_cases h : i > 0
    · rw [w64 (x := i - 1) (by omega) (by omega)]
      have hi2 : i < ((spanS t (inL x)).length : Int) := by omega
      have hlt : rd (spanS t (inL x)) (i - 1) < rd (spanS t (inL x)) i := filI_lt (n := 91) (p := fun p => iterS t (inL x) 91 p.toNat) (by omega) (by omega) hi2
      exact Ev.pos h (Ev.pos i0 (Ev.pos (by omega) (Ev.pos (by omega) (Ev.neg (by omega) (Ev.pos hi.1 (Ev.pos (by rw [bL_length]; exact hi.2) nx))))))
    · exact Ev.neg h (Ev.pos i0 (Ev.pos hi.1 (Ev.pos (by rw [bL_length]; exact hi.2) nx)))
theorem FnSpan : laws_FnSpan.Pure := by
  intro l0 _ _ hu
  refine Ev.rounds ?_
  unfold laws_FnSpan.f
  by_cases hb : (l0.length : Int) > 1048576
  · exact Ev.pos hb (Ev.done rfl)
  refine Ev.neg hb ?_
  obtain ⟨t, x, ht, hx, e⟩ := drawSpan_ev l0 hu
  have htl := ht.len
  refine Ev.bind e ?_
  dsimp only
  refine Ev.fix (show impl_SpanOf.f t x = some (spanR t x) from rfl) (Ev.bind (specSpan_ev t (by omega) x) ?_)
  refine Ev.neg (by simp) (Ev.bind (sameInts_ev _ _ (spanR_length t x)) (Ev.pos (by simp) ?_))
  refine Ev.step (fun k => by rw [laws_FnSpan.j0]) ?_
  by_cases h : spanOk t x = true
  case neg =>
    have eR : spanR t x = ([], false) := if_neg h
    rw [eR]
    exact Ev.pos (by decide) (Ev.pos (by decide) (Ev.bind (sameInts_ev [] [] (by decide)) (Ev.done (by simp))))
  have eR : spanR t x = (spanS t (inL x), true) := if_pos h
  rw [eR]
  unfold spanOk at h
  simp only [Bool.and_eq_true, decide_eq_true_eq] at h
  have hp : ∀ p ∈ x, In91 p := fun p hm => ptB_iff.1 (List.all_eq_true.1 h.2.2 p hm)
  refine Ev.neg (by simp) (Ev.pos (by decide) ?_)
  have e0 : List.replicate 91 false = bL 91 (inL ((spanS t (inL x)).take (0 : Int).toNat)) := by
    rw [bL_replicate]
    exact bL_congr fun y _ => by unfold inL; simp
  rw [e0]
  exact fspan_l0 h.1 hx hp (spanS t (inL x)).length 0 (by omega) (by omega)

end Go.Proofs.Ytcbkoecanldlpaa.Pure

namespace Go.Proofs.Ytcbkoecanldlpaa.fnSpan
open Go.ChangeShapes Go.WideShapes Go.ChangeAt Go.RowKit
open Go.ChangeMaps (open_string shut_string)
set_option linter.unusedVariables false
theorem own : ownKnob Try.prog.godebug = none := by kernel_rfl
theorem laidOut : laidOutB Try.prog = true := by kernel_rfl
def IsRow (k : IntKind) (w : World) (a : Option Addr) (len cap : Nat) (zs : List Int) : Prop :=
  (a = none ∧ len = 0 ∧ cap = 0 ∧ zs = []) ∨
  ∃ x, a = some x ∧ len ≤ cap ∧ cap ≤ maxLen ∧ zs.length = cap ∧ (∀ i, i < zs.length → w.cell? (x.add i) = some (.int k (zs.getD i 0))) ∧ ∀ n ∈ zs, (Lit.int k n).wf = true
set_option maxRecDepth 100000 in
theorem lifted (os : Os) (started : os.Started) (H : Type) (enc : TypeId × Value → H) :
    ReturnsInHanded {} Try.checked os 7 .any (Rows.fnSpanSpec.pre6 enc Try.prog Try.f7 Rows.fnSpanRow.domain false) (Rows.fnSpanSpec.post enc Try.prog Try.f7 false true false false) := by
  refine returnsInHanded_of_change_sized (C := Try.checked) own started (by kernel_rfl) Try.func7
    (ChangeSpec.witness6 (enc := enc) (C := Try.checked) false ⟨#[], #[.slice none 0 0], []⟩ 8 (by kernel_rfl) (by kernel_rfl) (by kernel_rfl) (by kernel_rfl)) ?_
  intro W base args ds gs before hval0 hW hcnd hsz0 _
  have hsz : (DataW.weightsEach Try.prog (Try.f7.params.toList ++ Rows.fnSpanSpec.plain.varTypes Try.prog) (ds ++ gs)).all (· ≤ reachBytes) = true := hsz0
  have hval : ∀ (j : Nat) t v, Try.f7.params[j]? = some t → args[j]? = some v → Value.okWide Try.prog W .any base t v := hval0
  have hW' := hW
  obtain ⟨p, q, hA0, hV, rfl, hfz, hnd⟩ := hW
  have hA : DataW.TrodAll enc Try.prog W 0 (fun _ => true) true Try.f7.params.toList args.toList ds p := hA0
  rw [Try.params7] at hA hval hsz
  obtain ⟨v0, vs0, d0, ds0, p0, q0, hargs, rfl, rfl, h0, r0⟩ := trodAll_cons hA
  obtain ⟨rfl, rfl, rfl⟩ := trodAll_nil r0
  obtain rfl : args = #[v0] := by cases args; simp_all
  obtain ⟨rfl, rfl⟩ := trodVars_none hV
  obtain ⟨a0, len0, cap0, rfl⟩ := okWide_slice Try.underlying22 (hval 0 22 v0 rfl rfl)
  have k0 := h0
  have lt0 : ∀ x ∈ p0, x.block < W.heap.size := by obtain ⟨m, hm⟩ := k0; exact DataW.trod_lt m _ _ _ hm
  obtain ⟨z0, w0⟩ : ∃ zs, IsRow .u8 W a0 len0 cap0 zs := by
    obtain ⟨fuel, hf⟩ := h0
    rcases open_ints Try.underlying22 Try.underlying5 (by kernel_rfl) hf with ⟨hcs, _⟩ | ⟨x, l, c, zs, hcs, _, hl, hm, hz, _, hcell, hwz⟩
    · simp [Value.cells] at hcs
      obtain ⟨rfl, rfl, rfl⟩ := hcs
      exact ⟨[], .inl ⟨rfl, rfl, rfl, rfl⟩⟩
    · simp [Value.cells] at hcs
      obtain ⟨rfl, rfl, rfl⟩ := hcs
      exact ⟨zs, .inr ⟨_, rfl, hl, hm, by simpa using hz, hcell, hwz⟩⟩
  have y0 : len0 * 1 ≤ 140737488351232 := Go.Proofs.YtcbkoecanldlpaaW.PrintWords.sized_ints hsz (j := 0) (t := 22) rfl rfl Try.underlying22 Try.underlying5 (by kernel_rfl) (by kernel_rfl) h0
  clear hA0 hval0 hsz0 hsz
  refine (P.laws_FnSpan.walk Pure.FnSpan a0 len0 cap0 z0 W w0 y0).mono fun e W' ⟨he, bel⟩ => ?_
  subst he
  exact ⟨_, rfl, _, _, _, [], _, [], hW', trodAll_mk1 (shut_bool Try.underlying4 _), (trodAll_cons_mk (Below.trod laidOut (by kernel_rfl) (of_decide_eq_true (by kernel_rfl)) k0 bel lt0) trodAll_mk0), rfl, bel.frame _, fun h => by cases h⟩
theorem over : Rows.fnSpanRow.holds Try.pinned (OpenSpec.ofChange Rows.fnSpanSpec) :=
  OpenClaim.holds_of_wide 7 Try.f7 rfl rfl rfl rfl rfl rfl rfl ⟨rfl, rfl, rfl, rfl, rfl⟩ rfl rfl rfl rfl rfl (by kernel_rfl) Try.func7 (by kernel_rfl)
    (of_decide_eq_true (by kernel_rfl)) (by unfold Func.isWrapper; first | (rw [if_pos (by decide +kernel)]; kernel_rfl) | (rw [if_neg (by decide +kernel)]; exact ⟨rfl, rfl⟩))
    (fun os started H enc _ => lifted os started H enc)
theorem proved : Rows.FnSpanSaid := over
#print axioms proved
end Go.Proofs.Ytcbkoecanldlpaa.fnSpan
namespace Go.Proofs.Ytcbkoecanldlpaa
/-- The row, under a short name, for the claim. -/
theorem fnSpan_holds : Rows.FnSpanSaid := fnSpan.proved
end Go.Proofs.Ytcbkoecanldlpaa
