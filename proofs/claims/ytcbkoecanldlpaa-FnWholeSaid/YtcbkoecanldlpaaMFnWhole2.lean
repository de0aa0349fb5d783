/- The law FnWhole of the given program: for every input the call returns true, and each argument reads afterwards as it read before. No conditions. (Part 3 of 3; the last part holds the theorem.) -/
import Derived.Test.YtcbkoecanldlpaaMFnWhole0
import Derived.Test.YtcbkoecanldlpaaMFnWhole1
import Derived.Test.YtcbkoecanldlpaaRows
import Derived.WalkKit
import Derived.ProofKit
import Derived.OpenShut
import Derived.ShutString
import Derived.ChangeOld
import Derived.Below
import Derived.SizedLaws
import Derived.Test.YtcbkoecanldlpaaWSized
set_option linter.unusedVariables false
set_option linter.unusedSimpArgs false
namespace Go.Proofs.Ytcbkoecanldlpaa.X
open Go.RowKit Go.Proofs.YtcbkoecanldlpaaW.PrintWords Go.Proofs.YtcbkoecanldlpaaW.PrintLast Go.Proofs.Ytcbkoecanldlpaa.P

def spanOk (t l : List Int) : Bool := sysB t && (decide (l.length ≤ 10) && l.all ptB)
def spanR (t l : List Int) : List Int × Bool := if spanOk t l = true then (spanS t (inL l), true) else ([], false)
theorem entersSO1 : Eg 81 := enters_of Try.func81 (by kernel_rfl) rfl
set_option maxHeartbeats 1000000 in
theorem spanOf1_calls (p : Int) (w : World) :
    Calls Try.prog 81 #[.int .i64 p] w fun e w' => e = .returned (.bool (!ptB p)) ∧ Below w.heap.size w w' := by
  have HC := Aside0.mk (isPoint_calls p w)
  go_enter Try.func81, Try.ntmps81
  go_wp2_with (go_at_call 73; refine HC.out.mono ?_; rintro e w' ⟨rfl, ⟨nd, rfl⟩⟩)
  go_ret
  exact ⟨rfl, Drawn0.below ⟨⟨_, rfl⟩⟩⟩
theorem any_not_all (l : List Int) : (l.any fun p => !ptB p) = !l.all ptB := by
  induction l with
  | nil => rfl
  | cons a l ih => simp [ih]
set_option maxRecDepth 100000 in
set_option maxHeartbeats 4000000 in
theorem spanOf_yes (A0 : Option Addr) (c0 : Nat) (t : List Int) (A1 : Option Addr) (c1 : Nat) (l : List Int) (w : World) (hr : Kd.C (Kd.int .i64) w A0 t.length t) (hc0 : t.length ≤ c0) (hr1 : Kd.C (Kd.int .i64) w A1 l.length l) (h : spanOk t l = true) :
    Calls Try.prog 29 #[.slice A0 t.length c0, .slice A1 l.length c1] w fun e w' => ∃ v : Value, e = .returned (.tuple #[v, .bool true]) ∧ Kd.R (Kd.int .i64) 3 w' w.heap.size (fun _ => True) v (spanS t (inL l)) ∧ Below w.heap.size w w' := by
  unfold spanOk at h
  simp only [Bool.and_eq_true, decide_eq_true_eq] at h
  obtain ⟨hs, hlen, hall⟩ := h
  have hcall := isSystem_calls A0 c0 t w hr
  rw [hs] at hcall
  have HC := Aside0.mk hcall
  have HR := Aside0.mk hr
  have HR1 := Aside0.mk hr1
  have HS := Aside0.mk hs
  have HA := Aside0.mk hall
  have d1 : decide (10 < (l.length : Int)) = false := decide_eq_false (by omega)
  clear hcall hr hr1 hs hall hlen
  go_enter Try.func29, Try.ntmps29
  go_wp2_with fail
  refine HC.out.mono ?_
  rintro e w1 ⟨rfl, hb1⟩
  have hcall := containsFunc_calls 81 #[] entersSO1 (fun p => !ptB p) A1 c1 l w1 (Kd.C_below HR1.out hb1) (fun V x _ _ => spanOf1_calls x V)
  rw [any_not_all, HA.out] at hcall
  have HC2 := Aside0.mk hcall
  have HB1 := Aside0.mk hb1
  clear hcall hb1 HC
  go_wp2_with fail
  refine HC2.out.mono ?_
  rintro e w2 ⟨rfl, hb2⟩
  have HB2 := Aside0.mk (bstep HB1.out hb2)
  clear hb2 HC2 HB1
  have HC3 := Aside0.mk (span_calls A0 c0 t A1 c1 l w2 (Kd.C_below HR.out HB2.out) hc0 (Kd.C_below HR1.out HB2.out) HS.out (fun x hx => ptB_iff.1 (List.all_eq_true.1 HA.out x hx)))
  go_wp2_with (go_at_call 82; refine HC3.out.mono ?_; rintro e w3 ⟨v, rfl, ho, hb⟩; have HO := Aside0.mk ho; have HB3 := Aside0.mk hb; clear ho hb)
  go_ret2
  exact ⟨_, rfl, Kd.R_lower HO.out HB2.out.size, bstep HB2.out HB3.out⟩
set_option maxRecDepth 100000 in
set_option maxHeartbeats 4000000 in
theorem spanOf_no (A0 : Option Addr) (c0 : Nat) (t : List Int) (A1 : Option Addr) (c1 : Nat) (l : List Int) (w : World) (hr : Kd.C (Kd.int .i64) w A0 t.length t) (hc0 : t.length ≤ c0) (hr1 : Kd.C (Kd.int .i64) w A1 l.length l) (h : spanOk t l = false) :
    Calls Try.prog 29 #[.slice A0 t.length c0, .slice A1 l.length c1] w fun e w' => e = .returned (.tuple #[.slice none 0 0, .bool false]) ∧ Below w.heap.size w w' := by
  have hcall := isSystem_calls A0 c0 t w hr
  have HR1 := Aside0.mk hr1
  clear hr hr1
  unfold spanOk at h
  by_cases hs : sysB t = true
  case neg =>
    rw [Bool.eq_false_iff.2 hs] at hcall
    have HC := Aside0.mk hcall
    clear hcall hs h
    go_enter Try.func29, Try.ntmps29
    go_wp2_with (go_at_call 61; refine HC.out.mono ?_; rintro e w' ⟨rfl, hb⟩)
    go_ret2
    exact ⟨rfl, hb⟩
  case pos =>
  rw [hs] at hcall h
  have HC := Aside0.mk hcall
  clear hcall hs
  by_cases hl : l.length ≤ 10
  case neg =>
    have d1 : decide (10 < (l.length : Int)) = true := decide_eq_true (by omega)
    clear h hl
    go_enter Try.func29, Try.ntmps29
    go_wp2_with (go_at_call 61; refine HC.out.mono ?_; rintro e w' ⟨rfl, hb⟩)
    go_ret2
    exact ⟨rfl, hb⟩
  case pos =>
  have d1 : decide (10 < (l.length : Int)) = false := decide_eq_false (by omega)
  have HA := Aside0.mk (show l.all ptB = false by rw [decide_eq_true hl] at h; simpa using h)
  clear h hl
  go_enter Try.func29, Try.ntmps29
  go_wp2_with fail
  refine HC.out.mono ?_
  rintro e w1 ⟨rfl, hb1⟩
  have hcall := containsFunc_calls 81 #[] entersSO1 (fun p => !ptB p) A1 c1 l w1 (Kd.C_below HR1.out hb1) (fun V x _ _ => spanOf1_calls x V)
  rw [any_not_all, HA.out] at hcall
  have HC2 := Aside0.mk hcall
  have HB1 := Aside0.mk hb1
  clear hcall hb1 HC
  go_wp2_with (go_at_call 80; refine HC2.out.mono ?_; rintro e w2 ⟨rfl, hb2⟩)
  go_ret2
  exact ⟨rfl, bstep HB1.out hb2⟩
end Go.Proofs.Ytcbkoecanldlpaa.X
namespace Go.Proofs.Ytcbkoecanldlpaa.P
open Go.RowKit Go.Proofs.YtcbkoecanldlpaaW.PrintWords Go.Proofs.YtcbkoecanldlpaaW.PrintLast
def impl_SpanOf.f (l0 l1 : List Int) : Option (List Int × Bool) := some (X.spanR l0 l1)
theorem impl_SpanOf.calls (A0 : Option Addr) (c0 : Nat) (l0 : List Int) (A1 : Option Addr) (c1 : Nat) (l1 : List Int) (r1 : List Int) (r2 : Bool) (w : World) (hr0 : Kd.C (Kd.int .i64) w A0 l0.length l0) (hc0 : l0.length ≤ c0) (hr1 : Kd.C (Kd.int .i64) w A1 l1.length l1) (hc1 : l1.length ≤ c1) (h : impl_SpanOf.f l0 l1 = some (r1, r2)) :
    Calls Try.prog 29 #[.slice A0 l0.length c0, .slice A1 l1.length c1] w fun e w' => ∃ v0_ : Value, e = .returned (.tuple #[v0_, .bool r2]) ∧ Kd.R (Kd.int .i64) 3 w' w.heap.size (fun _ => True) v0_ r1 ∧ Below w.heap.size w w' := by
  unfold impl_SpanOf.f X.spanR at h
  by_cases hc : X.spanOk l0 l1 = true
  · rw [if_pos hc] at h
    injection h with h
    injection h with h1 h2
    subst h1; subst h2
    exact X.spanOf_yes A0 c0 l0 A1 c1 l1 w hr0 hc0 hr1 hc
  · rw [if_neg hc] at h
    injection h with h
    injection h with h1 h2
    subst h1; subst h2
    exact (X.spanOf_no A0 c0 l0 A1 c1 l1 w hr0 hc0 hr1 (Bool.eq_false_iff.2 hc)).mono fun e w' ⟨he, hb⟩ => ⟨_, he, Kd.R_nil _ _ _ _ _, hb⟩
end Go.Proofs.Ytcbkoecanldlpaa.P

namespace Go.Proofs.Ytcbkoecanldlpaa.P
open Go.RowKit Go.Proofs.YtcbkoecanldlpaaW.PrintWords Go.Proofs.YtcbkoecanldlpaaW.PrintLast
set_option linter.unusedVariables false
set_option linter.unusedSimpArgs false

def laws_FnWhole.j0 : Nat → List Int → List Int → Bool → Bool → Bool → Option (Bool)
 | 0, _, _, _, _, _ => none
 | k + 1, x3, x4, x5, x6, x29 => if x29 = true then (some (x5 == x6)) else ((impl_SpanOf.f x3 x4).bind fun bt839 => (if bt839.2 = true then (if (bt839.1.length : Int) = 91 then ((laws_field.f x3).bind fun t843 => (some (!t843))) else (some false)) else (some false)))
def laws_FnWhole.f (k : Nat) (l0 : List Int) : Option (Bool) := if (l0.length : Int) > 1048576 then (some true) else ((spec_DrawSpanWhole.f k l0).bind fun bt831 => ((impl_SpanWhole.f bt831.1 bt831.2).bind fun t837 => ((spec_SpanWhole.f k bt831.1 bt831.2).bind fun t838 => (if (t837 != t838) = true then (laws_FnWhole.j0 k bt831.1 bt831.2 t837 t838 true) else (laws_FnWhole.j0 k bt831.1 bt831.2 t837 t838 (!t837))))))
set_option maxHeartbeats 8000000 in
set_option maxRecDepth 100000 in
theorem laws_FnWhole.calls (k : Nat) (A0 : Option Addr) (c0 : Nat) (l0 : List Int) (r : Bool) (w : World) (hr0 : Kd.C (Kd.int .u8) w A0 l0.length l0) (hc0 : l0.length ≤ c0) (h : laws_FnWhole.f k l0 = some r) :
  Calls Try.prog 9 #[.slice A0 l0.length c0] w fun e w' => e = .returned (.bool r) ∧ Below w.heap.size w w' := by
 have HR0 := Aside0.mk hr0
 have HC0 := Aside0.mk hc0
 clear hr0 hc0
 have HB := Aside0.mk (Below.refl w.heap.size w)
 have H : (if (l0.length : Int) > 1048576 then (some true) else ((spec_DrawSpanWhole.f k l0).bind fun bt831 => ((impl_SpanWhole.f bt831.1 bt831.2).bind fun t837 => ((spec_SpanWhole.f k bt831.1 bt831.2).bind fun t838 => (if (t837 != t838) = true then (laws_FnWhole.j0 k bt831.1 bt831.2 t837 t838 true) else (laws_FnWhole.j0 k bt831.1 bt831.2 t837 t838 (!t837))))))) = some r := h
 clear h
 by_cases c2 : (l0.length : Int) > 1048576
 ·rw [if_pos c2] at H
  have c2b0 : decide (1048576 < (l0.length : Int)) = true := decide_eq_true c2
  have c2b1 : decide (1048576 < l0.length) = true := decide_eq_true (by omega)
  clear c2
  obtain rfl := Option.some.inj H
  go_enter Try.func9, Try.ntmps9
  go_wp2
  go_ret
  exact ⟨ee_, bb_ HB⟩
 ·rw [if_neg c2] at H
  have c2b0 : decide (1048576 < (l0.length : Int)) = false := decide_eq_false c2
  have c2b1 : decide (1048576 < l0.length) = false := decide_eq_false (by omega)
  clear c2
  replace H := Option.bind_eq_some_iff.mp H
  obtain ⟨⟨t831, t832⟩, A30, H⟩ := H
  replace H : ((impl_SpanWhole.f t831 t832).bind fun t837 => ((spec_SpanWhole.f k t831 t832).bind fun t838 => (if (t837 != t838) = true then (laws_FnWhole.j0 k t831 t832 t837 t838 true) else (laws_FnWhole.j0 k t831 t832 t837 t838 (!t837))))) = some r := H
  have A3 := Aside0.mk A30
  clear A30
  replace H := Option.bind_eq_some_iff.mp H
  obtain ⟨t837, A40, H⟩ := H
  replace H : ((spec_SpanWhole.f k t831 t832).bind fun t838 => (if (t837 != t838) = true then (laws_FnWhole.j0 k t831 t832 t837 t838 true) else (laws_FnWhole.j0 k t831 t832 t837 t838 (!t837)))) = some r := H
  have A4 := Aside0.mk A40
  clear A40
  replace H := Option.bind_eq_some_iff.mp H
  obtain ⟨t838, A50, H⟩ := H
  replace H : (if (t837 != t838) = true then (laws_FnWhole.j0 k t831 t832 t837 t838 true) else (laws_FnWhole.j0 k t831 t832 t837 t838 (!t837))) = some r := H
  have A5 := Aside0.mk A50
  clear A50
  have HC6 := Aside0.mk H
  clear H
  go_enter Try.func9, Try.ntmps9
  go_upto_region 6 with (first | (refine goesL_ (some 14) rfl rfl Try.func38 (by kernel_rfl) rfl #[.slice A0 l0.length c0] rfl ll_ ?_; (with_reducible refine (spec_DrawSpanWhole.calls k _ _ l0 t831 t832 _ ?side1 ?side2 A3.out).mono ?_); (case side1 => exact ss_ HR0); (case side2 => exact HC0.out); rintro e w7 ⟨v833, v835, rfl, ho0, ho1, hb⟩; refine ⟨_, rfl, ?_⟩; have n0_ := Aside0.mk (Kd.R_lower ho0 (below_size (bb_ HB))); have n1_ := Aside0.mk (Kd.R_lower ho1 (below_size (bb_ HB))); have n2_ := Aside0.mk (below_step (bb_ HB) hb); clear HB; have HO834 := n0_; have HO836 := n1_; have HB := n2_; clear n0_ n1_ n2_; (try clear hb); (try clear hb2); (try clear hk); (try clear hi); (try clear ho0); (try clear ho1); obtain ⟨Ao8, co8, eo8⟩ := Kd.R_slice HO834.out; subst eo8; obtain ⟨Ao9, co9, eo9⟩ := Kd.R_slice HO836.out; subst eo9) | (refine goesL_ (some 19) rfl rfl Try.func39 (by kernel_rfl) rfl #[.slice Ao8 t831.length co8, .slice Ao9 t832.length co9] rfl ll_ ?_; (with_reducible refine (impl_SpanWhole.calls _ _ t831 _ _ t832 t837 _ ?side1 ?side2 ?side3 ?side4 A4.out).mono ?_); (case side1 => exact cc_ HO834); (case side2 => exact (Kd.R_reads' HO834.out).2.1); (case side3 => exact cc_ HO836); (case side4 => exact (Kd.R_reads' HO836.out).2.1); rintro e w10 ⟨rfl, hb⟩; refine ⟨_, rfl, ?_⟩; have n0_ := Aside0.mk (Kd.R_below (rr_ HO834) hb); have n1_ := Aside0.mk (Kd.R_below (rr_ HO836) hb); have n2_ := Aside0.mk (below_step (bb_ HB) hb); clear HO834; clear HO836; clear HB; have HO834 := n0_; have HO836 := n1_; have HB := n2_; clear n0_ n1_ n2_; (try clear hb); (try clear hb2); (try clear hk); (try clear hi)) | (refine goesL_ (some 22) rfl rfl Try.func40 (by kernel_rfl) rfl #[.slice Ao8 t831.length co8, .slice Ao9 t832.length co9] rfl ll_ ?_; (with_reducible refine (spec_SpanWhole.calls k _ _ t831 _ _ t832 t838 _ ?side1 ?side2 ?side3 ?side4 A5.out).mono ?_); (case side1 => exact cc_ HO834); (case side2 => exact (Kd.R_reads' HO834.out).2.1); (case side3 => exact cc_ HO836); (case side4 => exact (Kd.R_reads' HO836.out).2.1); rintro e w11 ⟨rfl, hb⟩; refine ⟨_, rfl, ?_⟩; have n0_ := Aside0.mk (Kd.R_below (rr_ HO834) hb); have n1_ := Aside0.mk (Kd.R_below (rr_ HO836) hb); have n2_ := Aside0.mk (below_step (bb_ HB) hb); clear HO834; clear HO836; clear HB; have HO834 := n0_; have HO836 := n1_; have HB := n2_; clear n0_ n1_ n2_; (try clear hb); (try clear hb2); (try clear hk); (try clear hi)))
  (try simp only [Act.put, List.setIfInBounds_toArray, List.set_cons_zero, List.set_cons_succ])
  go_cut [29] (fun v29 wc => ∃ (kq : Nat) (x29_5 : Bool), v29 = .bool x29_5 ∧ Aside0 (laws_FnWhole.j0 kq t831 t832 t837 t838 x29_5 = some r) ∧ Aside0 (kq ≤ k) ∧ Aside0 (Kd.R (Kd.int .i64) 3 wc w.heap.size (fun k_ => some k_ ≠ ((.slice Ao9 t832.length co9) : Value).ownBlock) (.slice Ao8 t831.length co8) t831) ∧ Aside0 (Kd.R (Kd.int .i64) 3 wc w.heap.size (fun k_ => some k_ ≠ ((.slice Ao8 t831.length co8) : Value).ownBlock) (.slice Ao9 t832.length co9) t832) ∧ Aside0 (Below w.heap.size w wc))
  case first =>
   have H := HC6.out
   clear HC6
   by_cases c12 : (t837 != t838) = true
   ·rw [if_pos c12] at H
    have c12b0 : (t837 != t838) = true := c12
    (try (have c12b1 : decide (t837 = t838) = false := by simpa using c12))
    (try (have c12b2 : (t837 == t838) = false := by simpa using c12))
    (try (have c12b3 : ¬ (t837 = t838) := by simpa using c12))
    clear c12
    (first | rw [c12b0] | (simp only [i64_w, i32_w]; rw [c12b0]) | skip)
    have H' := Aside0.mk H
    clear H
    go_wp2
    go_meet
    case rel => exact ⟨_, (true), (by first | rfl | (simp; done) | (simp [*]; done)), H', ⟨by first | omega | exact Nat.le_refl _⟩, ⟨rr_ HO834⟩, ⟨rr_ HO836⟩, ⟨by repeat (first | (with_reducible first | exact HB.out | apply below_alloc | apply pw_below_drewN | apply below_drew1) | exact HB.out)⟩⟩
   ·rw [if_neg c12] at H
    have c12b0 : (t837 != t838) = false := by simpa using c12
    (try (have c12b1 : decide (t837 = t838) = true := by simpa using c12))
    (try (have c12b2 : (t837 == t838) = true := by simpa using c12))
    clear c12
    (first | rw [c12b0] | (simp only [i64_w, i32_w]; rw [c12b0]) | skip)
    have H' := Aside0.mk H
    clear H
    go_wp2
    go_meet
    case rel => exact ⟨_, (!t837), (by first | rfl | (simp; done) | (simp [*]; done)), H', ⟨by first | omega | exact Nat.le_refl _⟩, ⟨rr_ HO834⟩, ⟨rr_ HO836⟩, ⟨by repeat (first | (with_reducible first | exact HB.out | apply below_alloc | apply pw_below_drewN | apply below_drew1) | exact HB.out)⟩⟩
  case rest =>
   clear HC6
   try clear c1
   try clear c2
   try clear c2b0
   try clear c2b1
   try clear p2
   try clear c3
   try clear c4
   try clear c9
   try clear c12
   try clear c12b0
   try clear c12b1
   try clear c12b2
   obtain ⟨kq, x29_5, rfl, HA, HJ5, HO_3, HO_4, HB⟩ := hcut
   cases kq with
   | zero => exact absurd HA.out (by simp [laws_FnWhole.j0])
   | succ kj5 =>
    have H := HA.out
    clear HA
    simp only [laws_FnWhole.j0] at H
    by_cases c13 : x29_5 = true
    ·subst c13
     have H1 : (some (t837 == t838)) = some r := by rw [if_pos rfl] at H; exact H
     clear H
     have H := H1
     clear H1
     obtain rfl := Option.some.inj H
     go_wp2
     go_ret
     exact ⟨ee_, bb_ HB⟩
    ·replace c13 := Bool.eq_false_iff.mpr c13
     subst c13
     have H1 : ((impl_SpanOf.f t831 t832).bind fun bt839 => (if bt839.2 = true then (if (bt839.1.length : Int) = 91 then ((laws_field.f t831).bind fun t843 => (some (!t843))) else (some false)) else (some false))) = some r := by rw [if_neg (show ¬ (false = true) by decide)] at H; exact H
     clear H
     have H := H1
     clear H1
     replace H := Option.bind_eq_some_iff.mp H
     obtain ⟨⟨t839, t840⟩, A140, H⟩ := H
     replace H : (if t840 = true then (if (t839.length : Int) = 91 then ((laws_field.f t831).bind fun t843 => (some (!t843))) else (some false)) else (some false)) = some r := H
     have A14 := Aside0.mk A140
     clear A140
     by_cases c15 : t840 = true
     ·subst c15
      have H1 : (if (t839.length : Int) = 91 then ((laws_field.f t831).bind fun t843 => (some (!t843))) else (some false)) = some r := by rw [if_pos rfl] at H; exact H
      clear H
      have H := H1
      clear H1
      by_cases c16 : (t839.length : Int) = 91
      ·rw [if_pos c16] at H
       have c16b0 : ((t839.length : Int) == 91) = true := beq_iff_eq.mpr c16
       have c16b1 : ((t839.length : Int) != 91) = false := bne_eq_false_iff_eq.mpr c16
       clear c16
       replace H := Option.bind_eq_some_iff.mp H
       obtain ⟨t843, A170, H⟩ := H
       replace H : (some (!t843)) = some r := H
       have A17 := Aside0.mk A170
       clear A170
       obtain rfl := Option.some.inj H
       go_wp2_with (first | (refine goesL_ (some 36) rfl rfl Try.func29 (by kernel_rfl) rfl #[.slice Ao8 t831.length co8, .slice Ao9 t832.length co9] rfl ll_ ?_; (with_reducible refine (impl_SpanOf.calls _ _ t831 _ _ t832 t839 true _ ?side1 ?side2 ?side3 ?side4 A14.out).mono ?_); (case side1 => exact cc_ HO_3); (case side2 => exact (Kd.R_reads' HO_3.out).2.1); (case side3 => exact cc_ HO_4); (case side4 => exact (Kd.R_reads' HO_4.out).2.1); rintro e w18 ⟨v841, rfl, ho0, hb⟩; refine ⟨_, rfl, ?_⟩; have n0_ := Aside0.mk (Kd.R_elder' (rr_ HO_3) (Kd.R_base ho0) hb); have n1_ := Aside0.mk (Kd.R_elder' (rr_ HO_4) (Kd.R_base ho0) hb); have n2_ := Aside0.mk (Kd.R_lower (Kd.R_new' (Kd.R_new' ho0 (Kd.R_lt (rr_ HO_3))) (Kd.R_lt (rr_ HO_4))) (below_size (bb_ HB))); have n3_ := Aside0.mk (below_step (bb_ HB) hb); clear HO_3; clear HO_4; clear HB; have HO_3 := n0_; have HO_4 := n1_; have HO842 := n2_; have HB := n3_; clear n0_ n1_ n2_ n3_; (try clear hb); (try clear hb2); (try clear hk); (try clear hi); (try clear ho0); obtain ⟨Ao19, co19, eo19⟩ := Kd.R_slice HO842.out; subst eo19) | (go_at_call 20; (with_reducible refine (laws_field.calls _ _ t831 t843 _ ?side1 ?side2 A17.out).mono ?_); (case side1 => exact cc_ HO_3); (case side2 => exact (Kd.R_reads' HO_3.out).2.1); rintro e w20 ⟨rfl, hb⟩; have n0_ := Aside0.mk (Kd.R_below (rr_ HO_3) hb); have n1_ := Aside0.mk (Kd.R_below (rr_ HO_4) hb); have n2_ := Aside0.mk (Kd.R_below (rr_ HO842) hb); have n3_ := Aside0.mk (below_step (bb_ HB) hb); clear HO_3; clear HO_4; clear HO842; clear HB; have HO_3 := n0_; have HO_4 := n1_; have HO842 := n2_; have HB := n3_; clear n0_ n1_ n2_ n3_; (try clear hb); (try clear hb2); (try clear hk); (try clear hi)))
       go_ret
       exact ⟨ee_, bb_ HB⟩
      ·rw [if_neg c16] at H
       have c16b0 : ((t839.length : Int) == 91) = false := beq_eq_false_iff_ne.mpr c16
       have c16b1 : ((t839.length : Int) != 91) = true := bne_iff_ne.mpr c16
       obtain rfl := Option.some.inj H
       go_wp2_with (first | (refine goesL_ (some 36) rfl rfl Try.func29 (by kernel_rfl) rfl #[.slice Ao8 t831.length co8, .slice Ao9 t832.length co9] rfl ll_ ?_; (with_reducible refine (impl_SpanOf.calls _ _ t831 _ _ t832 t839 true _ ?side1 ?side2 ?side3 ?side4 A14.out).mono ?_); (case side1 => exact cc_ HO_3); (case side2 => exact (Kd.R_reads' HO_3.out).2.1); (case side3 => exact cc_ HO_4); (case side4 => exact (Kd.R_reads' HO_4.out).2.1); rintro e w21 ⟨v841, rfl, ho0, hb⟩; refine ⟨_, rfl, ?_⟩; have n0_ := Aside0.mk (Kd.R_elder' (rr_ HO_3) (Kd.R_base ho0) hb); have n1_ := Aside0.mk (Kd.R_elder' (rr_ HO_4) (Kd.R_base ho0) hb); have n2_ := Aside0.mk (Kd.R_lower (Kd.R_new' (Kd.R_new' ho0 (Kd.R_lt (rr_ HO_3))) (Kd.R_lt (rr_ HO_4))) (below_size (bb_ HB))); have n3_ := Aside0.mk (below_step (bb_ HB) hb); clear HO_3; clear HO_4; clear HB; have HO_3 := n0_; have HO_4 := n1_; have HO842 := n2_; have HB := n3_; clear n0_ n1_ n2_ n3_; (try clear hb); (try clear hb2); (try clear hk); (try clear hi); (try clear ho0); obtain ⟨Ao22, co22, eo22⟩ := Kd.R_slice HO842.out; subst eo22))
       go_ret
       exact ⟨ee_, bb_ HB⟩
     ·replace c15 := Bool.eq_false_iff.mpr c15
      subst c15
      have H1 : (some false) = some r := by rw [if_neg (show ¬ (false = true) by decide)] at H; exact H
      clear H
      have H := H1
      clear H1
      obtain rfl := Option.some.inj H
      go_wp2_with (first | (refine goesL_ (some 36) rfl rfl Try.func29 (by kernel_rfl) rfl #[.slice Ao8 t831.length co8, .slice Ao9 t832.length co9] rfl ll_ ?_; (with_reducible refine (impl_SpanOf.calls _ _ t831 _ _ t832 t839 false _ ?side1 ?side2 ?side3 ?side4 A14.out).mono ?_); (case side1 => exact cc_ HO_3); (case side2 => exact (Kd.R_reads' HO_3.out).2.1); (case side3 => exact cc_ HO_4); (case side4 => exact (Kd.R_reads' HO_4.out).2.1); rintro e w23 ⟨v841, rfl, ho0, hb⟩; refine ⟨_, rfl, ?_⟩; have n0_ := Aside0.mk (Kd.R_elder' (rr_ HO_3) (Kd.R_base ho0) hb); have n1_ := Aside0.mk (Kd.R_elder' (rr_ HO_4) (Kd.R_base ho0) hb); have n2_ := Aside0.mk (Kd.R_lower (Kd.R_new' (Kd.R_new' ho0 (Kd.R_lt (rr_ HO_3))) (Kd.R_lt (rr_ HO_4))) (below_size (bb_ HB))); have n3_ := Aside0.mk (below_step (bb_ HB) hb); clear HO_3; clear HO_4; clear HB; have HO_3 := n0_; have HO_4 := n1_; have HO842 := n2_; have HB := n3_; clear n0_ n1_ n2_ n3_; (try clear hb); (try clear hb2); (try clear hk); (try clear hi); (try clear ho0)))
      go_ret
      exact ⟨ee_, bb_ HB⟩
def laws_FnWhole.Pure : Prop := ∀ (l0 : List Int), l0.length ≤ maxLen → l0.length * 1 ≤ 140737488351232 → (∀ x ∈ l0, (Lit.int .u8 x).wf = true) → ∃ k, laws_FnWhole.f k l0 = some true
theorem laws_FnWhole.walk (P : laws_FnWhole.Pure) (a0 : Option Addr) (len0 cap0 : Nat) (z0 : List Int) (w : World) (w0 : (a0 = none ∧ len0 = 0 ∧ cap0 = 0 ∧ z0 = []) ∨ ∃ x, a0 = some x ∧ len0 ≤ cap0 ∧ cap0 ≤ maxLen ∧ z0.length = cap0 ∧ (∀ i, i < z0.length → w.cell? (x.add i) = some (.int .u8 (z0.getD i 0))) ∧ ∀ n ∈ z0, (Lit.int .u8 n).wf = true) (y0 : len0 * 1 ≤ 140737488351232) :
  Calls Try.prog 9 #[.slice a0 len0 cap0] w fun e w' => e = .returned (.bool true) ∧ Below w.heap.size w w' := by
 obtain ⟨l0, rfl, hr0, hm0, hw0, hc0⟩ := ReadsInt.ofRowC w0
 obtain ⟨k, h⟩ := P l0 hm0 y0 hw0
 refine (laws_FnWhole.calls k _ _ l0 true w (Kd.C_of_reads (d := (0 : Int)) (h1 := fun _ => rfl) hr0) hc0 h).mono ?_
 rintro e w' ⟨rfl, hd⟩
 exact ⟨rfl, hd⟩
end Go.Proofs.Ytcbkoecanldlpaa.P

set_option linter.unusedVariables false
set_option linter.unusedSimpArgs false
namespace Go.Proofs.Ytcbkoecanldlpaa.X
open Go.RowKit Go.Proofs.YtcbkoecanldlpaaW.PrintWords Go.Proofs.YtcbkoecanldlpaaW.PrintLast Go.Proofs.Ytcbkoecanldlpaa.P

theorem l6In_eq (a b c : Int) : spec_l6In.f a b c = some (decide (b ≤ a) && decide (a ≤ c)) := by
  unfold spec_l6In.f
  by_cases h : a ≥ b
  · rw [if_pos h, decide_eq_true h]; simp
  · rw [if_neg h, decide_eq_false h]; simp
theorem l1In_eq (a : Int) : spec_l1In.f a = some (isN a) := by
  unfold spec_l1In.f isN
  rw [l6In_eq]
  show some _ = _
  rw [show decide (a ≤ 8) = decide (a < 9) from decide_eq_decide.2 (by omega)]
theorem l2Table_loop (l : List Int) (hl : l.length ≤ 1048576) (d : Nat) : ∀ (i : Int), 0 ≤ i → i + d = l.length → (∀ j : Nat, (j : Int) < i → isN (rd l j) = true) → Ev (fun k => spec_l2Table.l0 k l i) (ninesB l 81) := by
  induction d with
  | zero =>
    intro i h0 h1 h
    refine Ev.step (fun k => by rw [spec_l2Table.l0]) ?_
    refine Ev.neg (by omega) (Ev.done ?_)
    have ha : l.all isN = true := by
      rw [List.all_eq_true]
      intro x hx
      obtain ⟨j, hj, rfl⟩ := List.mem_iff_getElem.1 hx
      rw [← rd_cast l j hj]
      exact h j (by omega)
    unfold ninesB
    rw [ha, Bool.and_true]
    congr 1
    rw [Bool.eq_iff_iff]; simp; omega
  | succ d ih =>
    intro i h0 h1 h
    refine Ev.step (fun k => by rw [spec_l2Table.l0]) ?_
    simp (disch := omega) only [w64, l1In_eq, Option.bind_some]
    refine Ev.pos (by omega) (Ev.pos (by omega) ?_)
    by_cases e : isN (rd l i) = true
    · refine Ev.pos e (ih (i + 1) (by omega) (by omega) fun j hj => ?_)
      by_cases ej : (j : Int) = i
      · rw [ej]; exact e
      · exact h j (by omega)
    · refine Ev.neg e (Ev.done ?_)
      have : l.all isN = false := by
        rw [List.all_eq_false]
        exact ⟨rd l i, rd_mem (by omega) h0, e⟩
      unfold ninesB
      rw [this, Bool.and_false]
theorem l2Table_ev (l : List Int) (hl : l.length ≤ 1048576) : Ev (fun k => spec_l2Table.f k l) (ninesB l 81) :=
  l2Table_loop l hl l.length 0 (by omega) (by omega) (fun j h => by omega)
theorem l2Units_loop (t : List Int) (hl : t.length = 81) (d : Nat) : ∀ (i : Int), 0 ≤ i → i + d = 9 → (∀ x : Int, 0 ≤ x → x < i → unitB t x = true) → Ev (fun k => spec_l2Units.l0 k t i) (unitsB t) := by
  induction d with
  | zero =>
    intro i h0 h1 h
    refine Ev.step (fun k => by rw [spec_l2Units.l0]) ?_
    refine Ev.neg (by omega) (Ev.done ?_)
    rw [unitsB_iff.2 fun x x0 x1 => h x x0 (by omega)]
  | succ d ih =>
    intro i h0 h1 h
    have hu : unitB t i = (decide (rd t i = 0) && decide (rd t (9 * i) = 0) && decide (rd t (9 + i) = i) && decide (rd t (9 * i + 1) = i)) := rfl
    refine Ev.step (fun k => by rw [spec_l2Units.l0]) ?_
    have z1 : wrap64 (9 * i) = 9 * i := w64 (by omega) (by omega)
    have z2 : wrap64 (9 + i) = 9 + i := w64 (by omega) (by omega)
    have z3 : wrap64 (9 * i + 1) = 9 * i + 1 := w64 (by omega) (by omega)
    have z4 : wrap64 (i + 1) = i + 1 := w64 (by omega) (by omega)
    simp only [z1, z2, z3, z4]
    refine Ev.pos (by omega) (Ev.pos (by omega) (Ev.pos (by omega) ?_))
    by_cases e1 : rd t i = 0
    case neg => exact Ev.neg e1 (Ev.done (by rw [unitsB_hit h0 (by omega) (by rw [hu, decide_eq_false e1]; rfl)]))
    refine Ev.pos e1 (Ev.pos (by omega) (Ev.pos (by omega) ?_))
    by_cases e2 : rd t (9 * i) = 0
    case neg => exact Ev.neg e2 (Ev.done (by rw [unitsB_hit h0 (by omega) (by rw [hu, decide_eq_false e2, Bool.and_false]; rfl)]))
    refine Ev.pos e2 (Ev.pos (by omega) (Ev.pos (by omega) ?_))
    by_cases e3 : rd t (9 + i) = i
    case neg => exact Ev.neg e3 (Ev.done (by rw [unitsB_hit h0 (by omega) (by rw [hu, decide_eq_false e3, Bool.and_false]; rfl)]))
    refine Ev.pos e3 (Ev.pos (by omega) (Ev.pos (by omega) ?_))
    by_cases e4 : rd t (9 * i + 1) = i
    case neg => exact Ev.neg e4 (Ev.done (by rw [unitsB_hit h0 (by omega) (by rw [hu, decide_eq_false e4, Bool.and_false])]))
    refine Ev.pos e4 (ih (i + 1) (by omega) (by omega) fun x x0 x1 => ?_)
    by_cases e : x = i
    · rw [e, hu, decide_eq_true e1, decide_eq_true e2, decide_eq_true e3, decide_eq_true e4]; rfl
    · exact h x x0 (by omega)
theorem l2Units_ev (t : List Int) (hl : t.length = 81) : Ev (fun k => spec_l2Units.f k t) (unitsB t) :=
  l2Units_loop t hl 9 0 (by omega) (by omega) (fun x h0 h1 => by omega)
theorem SystemIn_l1 (t : List Int) (hn : ninesB t 81 = true) (c : Int) (hc : In9 c) (hr : (∀ d : Int, 0 ≤ d → d < c → gapsB t c d = true) → Ev (fun k => spec_SystemIn.l0 k t (c + 1)) (solvesB t)) (n : Nat) :
    ∀ (d : Int), 0 ≤ d → d + n = c → (∀ x : Int, 0 ≤ x → x < d → gapsB t c x = true) → Ev (fun k => spec_SystemIn.l1 k t c d) (solvesB t) := by
  obtain ⟨c0, c1⟩ := hc
  induction n with
  | zero =>
    intro d h0 h1 h
    refine Ev.step (fun k => by rw [spec_SystemIn.l1]) ?_
    simp (disch := omega) only [w64]
    exact Ev.neg (by omega) (hr fun x x0 x1 => h x x0 (by omega))
  | succ n ih =>
    intro d h0 h1 h
    refine Ev.step (fun k => by rw [spec_SystemIn.l1]) ?_
    have hs : spec_l2Solves.f t c d = some (gapsB t c d) := by unfold spec_l2Solves.f; exact if_pos ⟨hn, ⟨c0, c1⟩, ⟨h0, by omega⟩⟩
    simp (disch := omega) only [w64, hs, Option.bind_some]
    refine Ev.pos (by omega) ?_
    by_cases e : gapsB t c d = true
    · refine Ev.pos e (ih (d + 1) (by omega) (by omega) fun x x0 x1 => ?_)
      by_cases ex : x = d
      · rw [ex]; exact e
      · exact h x x0 (by omega)
    · refine Ev.neg e (Ev.done ?_)
      rw [solvesB_hit h0 (by omega) c1 (Bool.eq_false_iff.2 e)]
theorem SystemIn_l0 (t : List Int) (hn : ninesB t 81 = true) (n : Nat) : ∀ (c : Int), 0 ≤ c → c + n = 9 → (∀ x y : Int, 0 ≤ y → y < x → x < c → gapsB t x y = true) → Ev (fun k => spec_SystemIn.l0 k t c) (solvesB t) := by
  induction n with
  | zero =>
    intro c h0 h1 h
    refine Ev.step (fun k => by rw [spec_SystemIn.l0]) ?_
    refine Ev.neg (by omega) (Ev.done ?_)
    rw [solvesB_all fun x y y0 yx x9 => h x y y0 yx (by omega)]
  | succ n ih =>
    intro c h0 h1 h
    refine Ev.step (fun k => by rw [spec_SystemIn.l0]) ?_
    refine Ev.pos (by omega) ?_
    refine SystemIn_l1 t hn c ⟨h0, by omega⟩ (fun hg => ih (c + 1) (by omega) (by omega) fun x y y0 yx x1 => ?_) c.toNat 0 (by omega) (by omega) (fun x x0 x1 => by omega)
    by_cases e : x = c
    · subst e; exact hg y y0 yx
    · exact h x y y0 yx (by omega)
theorem SystemIn_ev (t : List Int) (hl : t.length ≤ 1048576) : Ev (fun k => spec_SystemIn.f k t) (sysB t) := by
  unfold spec_SystemIn.f
  refine Ev.bind (l2Table_ev t hl) ?_
  by_cases hn : ninesB t 81 = true
  case neg =>
    refine Ev.neg hn (Ev.step (fun k => by rw [spec_SystemIn.j0]) (Ev.pos rfl (Ev.done ?_)))
    unfold sysB; rw [Bool.eq_false_iff.2 hn]; rfl
  refine Ev.pos hn (Ev.bind (l2Units_ev t (ninesB_iff.1 hn).1) ?_)
  by_cases hu : unitsB t = true
  case neg =>
    refine Ev.neg hu (Ev.step (fun k => by rw [spec_SystemIn.j0]) (Ev.pos rfl (Ev.done ?_)))
    rw [sysB_of hn, Bool.eq_false_iff.2 hu]; rfl
  have hs : spec_l2Shares.f t = some (sharesB t) := by unfold spec_l2Shares.f; exact if_pos hn
  refine Ev.pos hu (Ev.fix hs ?_)
  rw [sysB_of hn, hu]
  by_cases h : sharesB t = true
  · rw [h]
    refine Ev.step (fun k => by rw [spec_SystemIn.j0]) ?_
    refine Ev.neg (by simp) ?_
    exact SystemIn_l0 t hn 9 0 (by omega) (by omega) (fun x y h0 h1 h2 => by omega)
  · rw [Bool.eq_false_iff.2 h]
    refine Ev.step (fun k => by rw [spec_SystemIn.j0]) ?_
    exact Ev.pos rfl (Ev.done rfl)
end Go.Proofs.Ytcbkoecanldlpaa.X

set_option linter.unusedVariables false
set_option linter.unusedSimpArgs false
namespace Go.Proofs.Ytcbkoecanldlpaa.X
open Go.RowKit Go.Proofs.YtcbkoecanldlpaaW.PrintWords Go.Proofs.YtcbkoecanldlpaaW.PrintLast Go.Proofs.Ytcbkoecanldlpaa.P

def RdS (s : List Int) : Prop := s.length ≤ 2000 ∧ ∀ x ∈ s, 0 ≤ x ∧ x ≤ 255
theorem u8_range {x : Int} (h : (Lit.int .u8 x).wf = true) : 0 ≤ x ∧ x ≤ 255 := by
  simp [Lit.wf, IntKind.min, IntKind.max, IntKind.signed, IntKind.bits] at h
  omega
theorem open_ev (l : List Int) (h : ∀ x ∈ l, (Lit.int .u8 x).wf = true) : ∃ s, RdS s ∧ spec_l6Open.f l = some (s, 0) := by
  unfold spec_l6Open.f
  by_cases hl : (l.length : Int) > 2000
  · rw [if_pos hl, if_pos (by omega)]
    exact ⟨_, ⟨by rw [List.length_take]; omega, fun x hx => u8_range (h x (List.mem_of_mem_take hx))⟩, rfl⟩
  · rw [if_neg hl]
    exact ⟨_, ⟨by omega, fun x hx => u8_range (h x hx)⟩, rfl⟩
theorem xor_nn {a b : Int} (h0 : 0 ≤ a) (h1 : a < 9223372036854775808) (h2 : 0 ≤ b) (h3 : b < 9223372036854775808) : 0 ≤ Go.bits .xor .i64 a b := by
  obtain ⟨x, rfl⟩ := Int.eq_ofNat_of_zero_le h0
  obtain ⟨y, rfl⟩ := Int.eq_ofNat_of_zero_le h2
  have hx : x ^^^ y < 2 ^ 63 := Nat.xor_lt_two_pow (by omega) (by omega)
  have e1 : (BitVec.ofInt 64 (x : Int)).toNat = x := by
    rw [BitVec.ofInt_natCast, BitVec.toNat_ofNat]; exact Nat.mod_eq_of_lt (by omega)
  have e2 : (BitVec.ofInt 64 (y : Int)).toNat = y := by
    rw [BitVec.ofInt_natCast, BitVec.toNat_ofNat]; exact Nat.mod_eq_of_lt (by omega)
  have e : Go.bits .xor .i64 (x : Int) (y : Int) = IntKind.i64.wrap ((BitVec.ofInt 64 (x : Int) ^^^ BitVec.ofInt 64 (y : Int)).toNat : Int) := rfl
  rw [e, BitVec.toNat_xor, e1, e2]
  generalize x ^^^ y = z at hx
  simp [IntKind.wrap, IntKind.bits, IntKind.signed]
  omega
theorem tmod_range {a n : Int} (h : 0 ≤ a) (hn : 1 ≤ n) : 0 ≤ Int.tmod a n ∧ Int.tmod a n < n := by
  rw [tmod_nn h]
  exact ⟨Int.emod_nonneg _ (by omega), Int.emod_lt_of_pos _ (by omega)⟩
theorem rd_byte {s : List Int} (hs : RdS s) {i : Int} (h0 : 0 ≤ i) (h1 : i < s.length) : 0 ≤ rd s i ∧ rd s i ≤ 255 := hs.2 _ (rd_mem h1 h0)
theorem pick_j0 (s : List Int) (hs : RdS s) (p : Int) (h0 : 0 ≤ p) (h1 : p ≤ 1099511627776) (n : Int) (n0 : 1 ≤ n) (n1 : n ≤ 1000000) :
    ∃ v, (0 ≤ v ∧ v < n) ∧ Ev (fun k => spec_l6Rd_pick.j0 k n ((s.length : Int) == 0) s (p + 1)) (v, p + 1) := by
  have hl := hs.1
  by_cases e : s.length = 0
  · refine ⟨0, by omega, ?_⟩
    refine Ev.step (fun k => by rw [spec_l6Rd_pick.j0]) ?_
    refine Ev.pos (by rw [e]; rfl) (Ev.done rfl)
  have ez : wrap64 (p + 1 - 1) = p := by rw [w64 (by omega) (by omega)]; omega
  have er : ∀ i : Int, 0 ≤ i → i < s.length → wrap64 (rd s i) = rd s i := fun i i0 i1 => by
    have := rd_byte hs i0 i1; exact w64 (by omega) (by omega)
  by_cases hp : p < s.length
  · obtain ⟨b0, b1⟩ := rd_byte hs h0 hp
    refine ⟨Int.tmod (rd s p) n, tmod_range b0 n0, ?_⟩
    refine Ev.step (fun k => by rw [spec_l6Rd_pick.j0]) ?_
    rw [ez]
    refine Ev.neg (by simp; intro hh; apply e; simp [hh]) (Ev.pos hp (Ev.pos h0 (Ev.neg (by omega) ?_)))
    rw [er p h0 hp]
    exact Ev.done rfl
  · have hL : (1 : Int) ≤ s.length := by omega
    have ha : 0 ≤ p % (s.length : Int) ∧ p % (s.length : Int) < s.length := ⟨Int.emod_nonneg _ (by omega), Int.emod_lt_of_pos _ (by omega)⟩
    have hb : 0 ≤ (p * 7 + 3) % (s.length : Int) ∧ (p * 7 + 3) % (s.length : Int) < s.length := ⟨Int.emod_nonneg _ (by omega), Int.emod_lt_of_pos _ (by omega)⟩
    have hd : 0 ≤ p / (s.length : Int) ∧ p / (s.length : Int) ≤ p := ⟨Int.ediv_nonneg h0 (by omega), Int.ediv_le_self _ h0⟩
    obtain ⟨a0, a1⟩ := rd_byte hs ha.1 ha.2
    obtain ⟨b0, b1⟩ := rd_byte hs hb.1 hb.2
    have ea := er _ ha.1 ha.2
    have eb := er _ hb.1 hb.2
    have e7 : wrap64 (wrap64 (p * 7) + 3) = p * 7 + 3 := by rw [w64 (x := p * 7) (by omega) (by omega), w64 (by omega) (by omega)]
    have em : Int.tmod p (s.length : Int) = p % (s.length : Int) := tmod_nn h0
    have en : Int.tmod (p * 7 + 3) (s.length : Int) = (p * 7 + 3) % (s.length : Int) := tmod_nn (by omega)
    have ed : Int.tdiv p (s.length : Int) = p / (s.length : Int) := tdiv_nn h0
    generalize hA : rd s (p % (s.length : Int)) = A at *
    generalize hB : rd s ((p * 7 + 3) % (s.length : Int)) = B at *
    generalize hD : p / (s.length : Int) = D at *
    have eX : wrap64 (wrap64 (wrap64 (wrap64 (A * 131) + wrap64 (B * 1117)) + wrap64 (p * 29)) + wrap64 (wrap64 D * 53)) = A * 131 + B * 1117 + p * 29 + D * 53 := by
      rw [w64 (x := A * 131) (by omega) (by omega), w64 (x := B * 1117) (by omega) (by omega), w64 (x := A * 131 + B * 1117) (by omega) (by omega), w64 (x := p * 29) (by omega) (by omega), w64 (x := D) (by omega) (by omega), w64 (x := D * 53) (by omega) (by omega), w64 (x := A * 131 + B * 1117 + p * 29) (by omega) (by omega), w64 (by omega) (by omega)]
    have hX0 : 0 ≤ A * 131 + B * 1117 + p * 29 + D * 53 := by omega
    have hX1 : A * 131 + B * 1117 + p * 29 + D * 53 ≤ 9223372036854775807 := by omega
    generalize A * 131 + B * 1117 + p * 29 + D * 53 = X at *
    have eY : wrap64 (Int.tdiv X 64) = X / 64 := by rw [tdiv_nn hX0]; exact w64 (by omega) (by omega)
    refine ⟨Int.tmod (Go.bits .xor .i64 X (X / 64)) n, tmod_range (xor_nn hX0 (by omega) (by omega) (by omega)) n0, ?_⟩
    refine Ev.step (fun k => by rw [spec_l6Rd_pick.j0]) ?_
    rw [ez]
    refine Ev.neg (by simp; intro hh; apply e; simp [hh]) (Ev.neg hp (Ev.neg (by omega) ?_))
    rw [e7, em, en, ed, hA, hB, ea, eb, eX, eY]
    exact Ev.pos ha.1 (Ev.pos ha.2 (Ev.pos hb.1 (Ev.pos hb.2 (Ev.neg (by omega) (Ev.done rfl)))))
theorem pick_ev {s : List Int} (hs : RdS s) {p : Int} (h0 : 0 ≤ p) (h1 : p ≤ 1099511627776) {n : Int} (n0 : 1 ≤ n) (n1 : n ≤ 1000000) :
    ∃ v, (0 ≤ v ∧ v < n) ∧ Ev (fun k => spec_l6Rd_pick.f k s p n) (v, p + 1) := by
  obtain ⟨v, hv, he⟩ := pick_j0 s hs p h0 h1 n n0 n1
  refine ⟨v, hv, ?_⟩
  unfold spec_l6Rd_pick.f
  rw [w64 (by omega) (by omega)]
  exact Ev.neg (by omega) he
def kindL (c : Int) : List Int := (spec_l2Of.f 300 c).getD []
theorem five {P : Int → Prop} (h : ∀ i : Fin 5, P (i.val : Int)) (a : Int) (h0 : 0 ≤ a) (h1 : a < 5) : P a := by
  have := h ⟨a.toNat, by omega⟩
  simpa [Int.toNat_of_nonneg h0] using this
theorem kindL_some : ∀ i : Fin 5, spec_l2Of.f 300 (i.val : Int) = some (kindL (i.val : Int)) := by decide +kernel
theorem kindL_nines : ∀ i : Fin 5, ninesB (kindL (i.val : Int)) 81 = true := by decide +kernel
theorem kind_ev (c : Int) (h0 : 0 ≤ c) (h1 : c < 5) : Ev (fun k => spec_l2Of.f k c) (kindL c) :=
  Ev.of (fun k => spec_l2Of.mono c k) (five (P := fun c => spec_l2Of.f 300 c = some (kindL c)) kindL_some c h0 h1)
theorem kind_nines (c : Int) (h0 : 0 ≤ c) (h1 : c < 5) : ninesB (kindL c) 81 = true := five (P := fun c => ninesB (kindL c) 81 = true) kindL_nines c h0 h1
def DrawnT (t : List Int) : Prop := ∃ c : Int, 0 ≤ c ∧ c < 5 ∧ (t = kindL c ∨ (∃ i v : Int, 0 ≤ i ∧ i < 81 ∧ 0 ≤ v ∧ v < 9 ∧ t = (kindL c).set i.toNat v) ∨ t = (kindL c).take 80)
theorem DrawnT.len {t : List Int} (h : DrawnT t) : t.length ≤ 81 := by
  obtain ⟨c, c0, c1, h⟩ := h
  have hl := (ninesB_iff.1 (kind_nines c c0 c1)).1
  rcases h with rfl | ⟨i, v, _, _, _, _, rfl⟩ | rfl
  · omega
  · rw [List.length_set]; omega
  · rw [List.length_take]; omega
theorem system_ev {s : List Int} (hs : RdS s) {p : Int} (h0 : 0 ≤ p) (h1 : p ≤ 1099511000000) : ∃ t q, DrawnT t ∧ (p ≤ q ∧ q ≤ p + 5) ∧ Ev (fun k => spec_l91System.f k s p) (t, q) := by
  obtain ⟨c, hc, ec⟩ := pick_ev hs h0 (by omega) (n := 5) (by omega) (by omega)
  obtain ⟨a, ha, ea⟩ := pick_ev hs (p := p + 1) (by omega) (by omega) (n := 30) (by omega) (by omega)
  obtain ⟨i, hi, ei⟩ := pick_ev hs (p := p + 1 + 1) (by omega) (by omega) (n := 9) (by omega) (by omega)
  obtain ⟨j, hj, ej⟩ := pick_ev hs (p := p + 1 + 1 + 1) (by omega) (by omega) (n := 9) (by omega) (by omega)
  obtain ⟨v, hv, ev⟩ := pick_ev hs (p := p + 1 + 1 + 1 + 1) (by omega) (by omega) (n := 9) (by omega) (by omega)
  have hl := (ninesB_iff.1 (kind_nines c hc.1 hc.2)).1
  have ew : wrap64 (wrap64 (9 * i) + j) = 9 * i + j := by rw [w64 (x := 9 * i) (by omega) (by omega), w64 (by omega) (by omega)]
  by_cases e : a = 0
  · refine ⟨(kindL c).set (9 * i + j).toNat v, p + 1 + 1 + 1 + 1 + 1, ⟨c, hc.1, hc.2, .inr (.inl ⟨9 * i + j, v, by omega, by omega, hv.1, hv.2, rfl⟩)⟩, by omega, ?_⟩
    unfold spec_l91System.f
    refine Ev.bind ec (Ev.bind (kind_ev c hc.1 hc.2) (Ev.bind ea (Ev.pos e (Ev.bind ei (Ev.bind ej (Ev.bind ev ?_))))))
    dsimp only
    rw [ew]
    exact Ev.pos (by omega) (Ev.pos (by omega) (Ev.done rfl))
  by_cases e1 : a = 1
  · refine ⟨(kindL c).take 80, p + 1 + 1, ⟨c, hc.1, hc.2, .inr (.inr rfl)⟩, by omega, ?_⟩
    unfold spec_l91System.f
    refine Ev.bind ec (Ev.bind (kind_ev c hc.1 hc.2) (Ev.bind ea (Ev.neg e (Ev.pos e1 (Ev.pos ?_ (Ev.done rfl))))))
    omega
  · refine ⟨kindL c, p + 1 + 1, ⟨c, hc.1, hc.2, .inl rfl⟩, by omega, ?_⟩
    unfold spec_l91System.f
    exact Ev.bind ec (Ev.bind (kind_ev c hc.1 hc.2) (Ev.bind ea (Ev.neg e (Ev.neg e1 (Ev.done rfl)))))
end Go.Proofs.Ytcbkoecanldlpaa.X

set_option linter.unusedVariables false
set_option linter.unusedSimpArgs false
namespace Go.Proofs.Ytcbkoecanldlpaa.X
open Go.RowKit Go.Proofs.YtcbkoecanldlpaaW.PrintWords Go.Proofs.YtcbkoecanldlpaaW.PrintLast Go.Proofs.Ytcbkoecanldlpaa.P

theorem point_ev {s : List Int} (hs : RdS s) {p : Int} (h0 : 0 ≤ p) (h1 : p ≤ 1099511000000) : ∃ v q, (-1 ≤ v ∧ v ≤ 91) ∧ (p ≤ q ∧ q ≤ p + 3) ∧ Ev (fun k => spec_l91Point.f k s p) (v, q) := by
  obtain ⟨a, ha, ea⟩ := pick_ev hs h0 (by omega) (n := 30) (by omega) (by omega)
  obtain ⟨b, hb, eb⟩ := pick_ev hs (p := p + 1) (by omega) (by omega) (n := 2) (by omega) (by omega)
  obtain ⟨c, hc, ec⟩ := pick_ev hs (p := p + 1) (by omega) (by omega) (n := 4) (by omega) (by omega)
  obtain ⟨d, hd, ed⟩ := pick_ev hs (p := p + 1 + 1) (by omega) (by omega) (n := 10) (by omega) (by omega)
  obtain ⟨e, he, ee⟩ := pick_ev hs (p := p + 1 + 1) (by omega) (by omega) (n := 81) (by omega) (by omega)
  by_cases h : a = 0
  · refine ⟨rd [-1, 91] b, p + 1 + 1, ?_, by omega, ?_⟩
    · have : b = 0 ∨ b = 1 := by omega
      rcases this with rfl | rfl <;> decide
    · unfold spec_l91Point.f
      refine Ev.bind ea (Ev.pos h (Ev.fix rfl (Ev.bind eb ?_)))
      exact Ev.pos hb.1 (Ev.pos hb.2 (Ev.done rfl))
  by_cases h' : c = 0
  · refine ⟨81 + d, p + 1 + 1 + 1, by omega, by omega, ?_⟩
    unfold spec_l91Point.f
    refine Ev.bind ea (Ev.neg h (Ev.bind ec (Ev.pos h' (Ev.bind ed ?_))))
    dsimp only
    rw [w64 (x := 81 + d) (by omega) (by omega)]
    exact Ev.done rfl
  · refine ⟨e, p + 1 + 1 + 1, by omega, by omega, ?_⟩
    unfold spec_l91Point.f
    exact Ev.bind ea (Ev.neg h (Ev.bind ec (Ev.neg h' (Ev.bind ee (Ev.done rfl)))))
theorem quad_l0 {s : List Int} (hs : RdS s) (d : Nat) : ∀ (i p : Int) (l : List Int), 0 ≤ i → i + d = 4 → 0 ≤ p → p ≤ 1099510000000 + 3 * i → (l.length : Int) = i → (∀ x ∈ l, -1 ≤ x ∧ x ≤ 91) → ∃ l' q, l'.length = 4 ∧ (∀ x ∈ l', -1 ≤ x ∧ x ≤ 91) ∧ (p ≤ q ∧ q ≤ p + 3 * d) ∧ Ev (fun k => spec_l91Quad.l0 k l i s p) (l', q) := by
  induction d with
  | zero =>
    intro i p l i0 i1 p0 p1 hl ha
    refine ⟨l, p, by omega, ha, by omega, ?_⟩
    refine Ev.step (fun k => by rw [spec_l91Quad.l0]) ?_
    exact Ev.neg (by omega) (Ev.done rfl)
  | succ d ih =>
    intro i p l i0 i1 p0 p1 hl ha
    obtain ⟨v, q, hv, hq, ev⟩ := point_ev hs p0 (by omega)
    obtain ⟨l', q', h1, h2, h3, h4⟩ := ih (i + 1) q (l ++ [v]) (by omega) (by omega) (by omega) (by omega) (by rw [List.length_append, List.length_singleton]; omega) (fun x hx => by
      rcases List.mem_append.1 hx with h | h
      · exact ha x h
      · rw [List.mem_singleton.1 h]; exact hv)
    refine ⟨l', q', h1, h2, by omega, ?_⟩
    refine Ev.step (fun k => by rw [spec_l91Quad.l0]) ?_
    rw [w64 (x := i + 1) (by omega) (by omega)]
    exact Ev.pos (by omega) (Ev.bind ev (Ev.pos (by omega) h4))
theorem quad_ev {s : List Int} (hs : RdS s) {p : Int} (h0 : 0 ≤ p) (h1 : p ≤ 1099510000000) : ∃ l q, l.length = 4 ∧ (∀ x ∈ l, -1 ≤ x ∧ x ≤ 91) ∧ (p ≤ q ∧ q ≤ p + 12) ∧ Ev (fun k => spec_l91Quad.f k s p) (l, q) := by
  obtain ⟨l, q, a, b, c, d⟩ := quad_l0 hs 4 0 p [] (by omega) (by omega) h0 (by omega) rfl (fun x hx => by cases hx)
  exact ⟨l, q, a, b, by omega, d⟩
end Go.Proofs.Ytcbkoecanldlpaa.X

set_option linter.unusedVariables false
set_option linter.unusedSimpArgs false
namespace Go.Proofs.Ytcbkoecanldlpaa.X
open Go.RowKit Go.Proofs.YtcbkoecanldlpaaW.PrintWords Go.Proofs.YtcbkoecanldlpaaW.PrintLast Go.Proofs.Ytcbkoecanldlpaa.P

theorem four_ev (l0 : List Int) (hu : ∀ x ∈ l0, (Lit.int .u8 x).wf = true) : ∃ t x, DrawnT t ∧ x.length = 4 ∧ Ev (fun k => spec_l91Four.f k l0) (t, x) := by
  obtain ⟨s, hs, eo⟩ := open_ev l0 hu
  obtain ⟨t, q, ht, hq, et⟩ := system_ev hs (p := 0) (by omega) (by omega)
  obtain ⟨l, q1, hl, _, hq1, el⟩ := quad_ev hs (p := q) (by omega) (by omega)
  refine ⟨t, l, ht, hl, ?_⟩
  unfold spec_l91Four.f
  exact Ev.fix eo (Ev.bind et (Ev.bind el (Ev.done rfl)))
end Go.Proofs.Ytcbkoecanldlpaa.X

set_option linter.unusedVariables false
set_option linter.unusedSimpArgs false
namespace Go.Proofs.Ytcbkoecanldlpaa.X
open Go.RowKit Go.Proofs.YtcbkoecanldlpaaW.PrintWords

theorem rd_setC {l : List Int} {i j v : Int} (i0 : 0 ≤ i) (i1 : i < l.length) (j0 : 0 ≤ j) : rd (l.set i.toNat v) j = if j = i then v else rd l j := by
  unfold rd
  rw [List.getD_eq_getElem?_getD, List.getD_eq_getElem?_getD, List.getElem?_set]
  by_cases e : j = i
  · rw [if_pos e, if_pos (by omega), if_pos (by omega)]; rfl
  · rw [if_neg e, if_neg (by omega)]
end Go.Proofs.Ytcbkoecanldlpaa.X

set_option linter.unusedVariables false
set_option linter.unusedSimpArgs false
namespace Go.Proofs.Ytcbkoecanldlpaa.X
open Go.RowKit Go.Proofs.YtcbkoecanldlpaaW.PrintWords Go.Proofs.YtcbkoecanldlpaaW.PrintLast Go.Proofs.Ytcbkoecanldlpaa.P

theorem kindL_sys : ∀ i : Fin 5, sysB (kindL (i.val : Int)) = true := by decide +kernel
theorem kind_sys (c : Int) (h0 : 0 ≤ c) (h1 : c < 5) : sysB (kindL c) = true := five (P := fun c => sysB (kindL c) = true) kindL_sys c h0 h1
theorem drawn_kind {t : List Int} (h : DrawnT t) (hs : sysB t = true) : ∃ c : Int, 0 ≤ c ∧ c < 5 ∧ t = kindL c := by
  obtain ⟨c, c0, c1, h⟩ := h
  have hk := kind_sys c c0 c1
  have hkl := sys_len hk
  refine ⟨c, c0, c1, ?_⟩
  rcases h with h | ⟨i, v, i0, i1, v0, v1, h⟩ | h
  · exact h
  · have ht : ∀ j : Int, 0 ≤ j → rd t j = if j = i then v else rd (kindL c) j := fun j j0 => by rw [h]; exact rd_setC i0 (by omega) j0
    obtain ⟨a, b, a0, a1, b0, b1, rfl⟩ : ∃ a b : Int, 0 ≤ a ∧ a < 9 ∧ 0 ≤ b ∧ b < 9 ∧ i = 9 * a + b := ⟨i / 9, i % 9, by omega, by omega, by omega, by omega, by omega⟩
    have hv : v = rd (kindL c) (9 * a + b) := by
      have e1 := ht (9 * a + b) i0
      rw [if_pos rfl] at e1
      by_cases ea : a = 0
      · subst ea
        have e2 := (sys_units hs b0 b1).1
        have e3 := (sys_units hk b0 b1).1
        rw [show 9 * (0 : Int) + b = b by omega] at e1 ⊢
        rw [← e1, e2, e3]
      · have key : ∀ x : Int, 0 < x → x < 9 → x ≠ a → v = rd (kindL c) (9 * a + b) := by
          intro x x0 x1 xa
          have rs := addN_range a (minusN x)
          have hsa : addN a (minusN x) ≠ a := nine2 (P := fun a x => x ≠ 0 → addN a (minusN x) ≠ a) (by decide +kernel) a x a0 a1 (by omega) x1 (by omega)
          have s1 := sys_share hs rs.1 rs.2 (by omega : 0 ≤ x) x1 b0 b1
          have s2 := sys_share hk rs.1 rs.2 (by omega : 0 ≤ x) x1 b0 b1
          rw [minus_add a0 a1 (by omega) x1] at s1 s2
          rw [ht (9 * addN a (minusN x) + b) (by omega), if_neg (by omega), ht (9 * x + b) (by omega), if_neg (by omega), e1] at s1
          rw [s1, s2]
        by_cases e : a = 1
        · exact key 2 (by omega) (by omega) (by omega)
        · exact key 1 (by omega) (by omega) (by omega)
    refine ext_rd (by rw [h, List.length_set]) fun j hj => ?_
    rw [ht j (by omega)]
    by_cases e : (j : Int) = 9 * a + b
    · rw [if_pos e, hv, e]
    · rw [if_neg e]
  · exfalso
    have := sys_len hs
    rw [h, List.length_take] at this
    omega
end Go.Proofs.Ytcbkoecanldlpaa.X

set_option linter.unusedVariables false
set_option linter.unusedSimpArgs false
namespace Go.Proofs.Ytcbkoecanldlpaa.X
open Go.RowKit Go.Proofs.YtcbkoecanldlpaaW.PrintWords

abbrev K := Fin 9
def kA (a b : K) : K := ⟨(a.val % 3 + b.val % 3) % 3 + 3 * ((a.val / 3 + b.val / 3) % 3), by omega⟩
def kN (a : K) : K := ⟨(3 - a.val % 3) % 3 + 3 * ((3 - a.val / 3) % 3), by omega⟩
def kM (a b : K) : K := ⟨(a.val % 3 * (b.val % 3) + 2 * (a.val / 3 * (b.val / 3))) % 3 + 3 * ((a.val % 3 * (b.val / 3) + a.val / 3 * (b.val % 3)) % 3), by omega⟩
def kI (a : K) : K := kM (kM (kM a a) (kM a a)) (kM (kM a a) a)
theorem kA_comm : ∀ a b : K, kA a b = kA b a := by decide +kernel
theorem kA_assoc : ∀ a b c : K, kA (kA a b) c = kA a (kA b c) := by decide +kernel
theorem kM_comm : ∀ a b : K, kM a b = kM b a := by decide +kernel
theorem kM_assoc : ∀ a b c : K, kM (kM a b) c = kM a (kM b c) := by decide +kernel
theorem kM_dl : ∀ a b c : K, kM a (kA b c) = kA (kM a b) (kM a c) := by decide +kernel
theorem kM_dr : ∀ a b c : K, kM (kA a b) c = kA (kM a c) (kM b c) := by decide +kernel
theorem kM_neg : ∀ a b : K, kM (kN a) b = kN (kM a b) := by decide +kernel
theorem kA_sub : ∀ a b : K, kA a (kN b) = 0 ↔ a = b := by decide +kernel
theorem kM_zero : ∀ a : K, kM a 0 = 0 := by decide +kernel
theorem kA_zero : ∀ a : K, kA a 0 = a := by decide +kernel
theorem kzero_A : ∀ a : K, kA 0 a = a := by decide +kernel
theorem kI_mul : ∀ a : K, a ≠ 0 → kM (kI a) a = 1 := by decide +kernel
theorem kI_ne : ∀ a : K, a ≠ 0 → kI a ≠ 0 := by decide +kernel
instance : Std.Associative kA := ⟨kA_assoc⟩
instance : Std.Commutative kA := ⟨kA_comm⟩
structure V where
  x : K
  y : K
  z : K
deriving DecidableEq
def V.add (v w : V) : V := ⟨kA v.x w.x, kA v.y w.y, kA v.z w.z⟩
def V.smul (a : K) (v : V) : V := ⟨kM a v.x, kM a v.y, kM a v.z⟩
def dot (v l : V) : K := kA (kA (kM v.x l.x) (kM v.y l.y)) (kM v.z l.z)
theorem dot_add (v w l : V) : dot (v.add w) l = kA (dot v l) (dot w l) := by
  unfold dot V.add
  simp only [kM_dr]
  ac_rfl
theorem dot_smul (a : K) (v l : V) : dot (V.smul a v) l = kM a (dot v l) := by
  unfold dot V.smul
  simp only [kM_dl, kM_assoc]
def vZero : V := ⟨0, 0, 0⟩
theorem dot_zero (l : V) : dot vZero l = 0 := by
  unfold dot vZero
  have h : ∀ a : K, kM 0 a = 0 := by decide +kernel
  rw [h, h, h]; rfl
theorem V.ext' {v w : V} (h1 : v.x = w.x) (h2 : v.y = w.y) (h3 : v.z = w.z) : v = w := by
  cases v; cases w; simp_all
def kF (a : Int) : K := ⟨(a % 9).toNat, by omega⟩
theorem kF_val : ∀ i : Fin 9, kF (i.val : Int) = i := by decide +kernel
theorem fin_of {x : Int} (h0 : 0 ≤ x) (h1 : x < 9) : ∃ i : Fin 9, x = (i.val : Int) := ⟨⟨x.toNat, by omega⟩, by show x = ((x.toNat : Nat) : Int); omega⟩
def vecP (p : Int) : V := if p < 81 then ⟨kF (p / 9), kF (p % 9), 1⟩ else if p < 90 then ⟨1, kF (p - 81), 0⟩ else ⟨0, 1, 0⟩
def covL (l : Int) : V := if l < 81 then ⟨kF (l / 9), kN 1, kF (l % 9)⟩ else if l < 90 then ⟨1, 0, kN (kF (l - 81))⟩ else ⟨0, 0, 1⟩
theorem vec_near (i j : Fin 9) : vecP (9 * (i.val : Int) + (j.val : Int)) = ⟨i, j, 1⟩ := by
  unfold vecP
  have hi := i.isLt
  have hj := j.isLt
  rw [if_pos (by omega), show (9 * (i.val : Int) + (j.val : Int)) / 9 = i.val by omega, show (9 * (i.val : Int) + (j.val : Int)) % 9 = j.val by omega, kF_val, kF_val]
theorem vec_far (i : Fin 9) : vecP (81 + (i.val : Int)) = ⟨1, i, 0⟩ := by
  unfold vecP
  have hi := i.isLt
  rw [if_neg (by omega), if_pos (by omega), show 81 + (i.val : Int) - 81 = i.val by omega, kF_val]
theorem vec_last : vecP 90 = ⟨0, 1, 0⟩ := rfl
theorem cov_near (i j : Fin 9) : covL (9 * (i.val : Int) + (j.val : Int)) = ⟨i, kN 1, j⟩ := by
  unfold covL
  have hi := i.isLt
  have hj := j.isLt
  rw [if_pos (by omega), show (9 * (i.val : Int) + (j.val : Int)) / 9 = i.val by omega, show (9 * (i.val : Int) + (j.val : Int)) % 9 = j.val by omega, kF_val, kF_val]
theorem cov_far (i : Fin 9) : covL (81 + (i.val : Int)) = ⟨1, 0, kN i⟩ := by
  unfold covL
  have hi := i.isLt
  rw [if_neg (by omega), if_pos (by omega), show 81 + (i.val : Int) - 81 = i.val by omega, kF_val]
theorem cov_last : covL 90 = ⟨0, 0, 1⟩ := rfl
theorem kind0_times : ∀ i j : Fin 9, rd (kindL 0) (9 * (i.val : Int) + (j.val : Int)) = ((kM i j).val : Int) := by decide +kernel
theorem on_key : ∀ s j l : Fin 9, ((j.val : Int) = addN (s.val : Int) (l.val : Int)) ↔ kA (kA s (kM j (kN 1))) (kM 1 l) = 0 := by decide +kernel
theorem pt_fin {p : Int} (hp : In91 p) : (∃ i j : Fin 9, p = 9 * (i.val : Int) + (j.val : Int)) ∨ (∃ i : Fin 9, p = 81 + (i.val : Int)) ∨ p = 90 := by
  rcases line_cases hp.1 hp.2 with ⟨m, b, m0, m1, b0, b1, rfl⟩ | ⟨c, c0, c1, rfl⟩ | rfl
  · obtain ⟨i, rfl⟩ := fin_of m0 m1
    obtain ⟨j, rfl⟩ := fin_of b0 b1
    exact .inl ⟨i, j, rfl⟩
  · obtain ⟨i, rfl⟩ := fin_of c0 c1
    exact .inr (.inl ⟨i, rfl⟩)
  · exact .inr (.inr rfl)
theorem onK {p l : Int} (hp : In91 p) (hl : In91 l) : onB (kindL 0) p l = true ↔ dot (vecP p) (covL l) = 0 := by
  have d1 : ∀ i m : Fin 9, (81 + (i.val : Int) = 81 + (m.val : Int)) ↔ dot ⟨1, i, 0⟩ ⟨m, kN 1, 0⟩ = 0 := by
    have : ∀ i m : Fin 9, i = m ↔ dot ⟨1, i, 0⟩ ⟨m, kN 1, 0⟩ = 0 := by decide +kernel
    intro i m
    rw [← this i m, Fin.ext_iff]
    omega
  have d0 : ∀ (v : V) (m b : K), v.z = 0 → dot v ⟨m, kN 1, b⟩ = dot v ⟨m, kN 1, 0⟩ := fun v m b hz => by
    unfold dot
    have h : ∀ a : K, kM 0 a = 0 := by decide +kernel
    rw [hz, h, h]
  rcases pt_fin hp with ⟨i, j, rfl⟩ | ⟨i, rfl⟩ | rfl <;> rcases pt_fin hl with ⟨m, b, rfl⟩ | ⟨c, rfl⟩ | rfl
  · rw [on_near (by omega) (by have := i.isLt; omega) (by omega) (by have := j.isLt; omega) (by omega) (by have := m.isLt; omega) (by omega) (by have := b.isLt; omega), kind0_times, on_key, vec_near, cov_near]
    rfl
  · rw [on_vert (by omega) (by have := i.isLt; omega) (by omega) (by have := j.isLt; omega) (by omega) (by have := c.isLt; omega), vec_near, cov_far]
    have : ∀ i j c : Fin 9, i = c ↔ dot ⟨i, j, 1⟩ ⟨1, 0, kN c⟩ = 0 := by decide +kernel
    rw [← this i j c, Fin.ext_iff]; omega
  · rw [on_inf, vec_near, cov_last]
    have : ∀ i j : Fin 9, ¬ dot ⟨i, j, 1⟩ ⟨0, 0, 1⟩ = 0 := by decide +kernel
    exact ⟨fun h => by have := i.isLt; have := j.isLt; omega, fun h => absurd h (this i j)⟩
  · rw [on_far (by omega) (by omega) (by have := m.isLt; omega) (by omega) (by have := b.isLt; omega), vec_far, cov_near, d0 _ _ _ rfl]
    exact d1 i m
  · rw [on_far_vert (by omega) (by omega) (by have := c.isLt; omega), vec_far, cov_far]
    have : ∀ i c : Fin 9, ¬ dot ⟨1, i, 0⟩ ⟨1, 0, kN c⟩ = 0 := by decide +kernel
    exact ⟨fun h => by have := i.isLt; omega, fun h => absurd h (this i c)⟩
  · rw [on_inf, vec_far, cov_last]
    have : ∀ i : Fin 9, dot ⟨1, i, 0⟩ ⟨0, 0, 1⟩ = 0 := by decide +kernel
    exact ⟨fun _ => this i, fun _ => by omega⟩
  · rw [on_far (by omega) (by omega) (by have := m.isLt; omega) (by omega) (by have := b.isLt; omega), vec_last, cov_near, d0 _ _ _ rfl]
    have : ∀ m : Fin 9, ¬ dot ⟨0, 1, 0⟩ ⟨m, kN 1, 0⟩ = 0 := by decide +kernel
    exact ⟨fun h => by have := m.isLt; omega, fun h => absurd h (this m)⟩
  · rw [on_far_vert (by omega) (by omega) (by have := c.isLt; omega), vec_last, cov_far]
    have : ∀ c : Fin 9, dot ⟨0, 1, 0⟩ ⟨1, 0, kN c⟩ = 0 := by decide +kernel
    exact ⟨fun _ => this c, fun _ => rfl⟩
  · rw [on_inf, vec_last, cov_last]
    exact ⟨fun _ => by decide, fun _ => by omega⟩
theorem vec_inj {p q : Int} (hp : In91 p) (hq : In91 q) (e : vecP p = vecP q) : p = q := by
  rcases pt_fin hp with ⟨i, j, rfl⟩ | ⟨i, rfl⟩ | rfl <;> rcases pt_fin hq with ⟨m, b, rfl⟩ | ⟨c, rfl⟩ | rfl <;>
    simp only [vec_near, vec_far, vec_last, V.mk.injEq] at e
  · obtain ⟨h1, h2, _⟩ := e; rw [h1, h2]
  · exact absurd e.2.2 (by decide)
  · exact absurd e.2.2 (by decide)
  · exact absurd e.2.2 (by decide)
  · rw [e.2.1]
  · exact absurd e.1 (by decide)
  · exact absurd e.2.2 (by decide)
  · exact absurd e.1 (by decide)
  · rfl
def c2 (k : Fin 10) : K × K := if h : k.val < 9 then (⟨k.val, h⟩, 1) else (1, 0)
def cD (i j : Fin 10) : K := kI (kA (kM (c2 i).1 (c2 j).2) (kN (kM (c2 i).2 (c2 j).1)))
def cX (i j k : Fin 10) : K := kM (cD i j) (kA (kM (c2 k).1 (c2 j).2) (kN (kM (c2 k).2 (c2 j).1)))
def cY (i j k : Fin 10) : K := kM (cD i j) (kA (kM (c2 i).1 (c2 k).2) (kN (kM (c2 i).2 (c2 k).1)))
theorem c2_key : ∀ i j k : Fin 10, i ≠ j → (c2 k).1 = kA (kM (cX i j k) (c2 i).1) (kM (cY i j k) (c2 j).1) ∧ (c2 k).2 = kA (kM (cX i j k) (c2 i).2) (kM (cY i j k) (c2 j).2) ∧ (k ≠ j → cX i j k ≠ 0) ∧ (k ≠ i → cY i j k ≠ 0) := by decide +kernel
structure Lin (f : K × K → V) : Prop where
  out : ∀ a b u v, f (kA (kM a u.1) (kM b v.1), kA (kM a u.2) (kM b v.2)) = (V.smul a (f u)).add (V.smul b (f v))
def fA (m b : K) (u : K × K) : V := ⟨u.1, kA (kM u.1 m) (kM b u.2), u.2⟩
def fB (c : K) (u : K × K) : V := ⟨kM c u.2, u.1, u.2⟩
def fC (u : K × K) : V := ⟨u.2, u.1, 0⟩
theorem kM_left (a b c : K) : kM a (kM b c) = kM b (kM a c) := by rw [← kM_assoc, kM_comm a b, kM_assoc]
theorem fA_lin (m b : K) : Lin (fA m b) := ⟨fun a e u v => V.ext' rfl (by
  show kA (kM (kA (kM a u.1) (kM e v.1)) m) (kM b (kA (kM a u.2) (kM e v.2))) = kA (kM a (kA (kM u.1 m) (kM b u.2))) (kM e (kA (kM v.1 m) (kM b v.2)))
  simp only [kM_dl, kM_dr, kM_assoc]
  rw [kM_left b a, kM_left b e]
  ac_rfl) rfl⟩
theorem fB_lin (c : K) : Lin (fB c) := ⟨fun a e u v => V.ext' (by
  show kM c (kA (kM a u.2) (kM e v.2)) = kA (kM a (kM c u.2)) (kM e (kM c v.2))
  rw [kM_dl, kM_left c a, kM_left c e]) rfl rfl⟩
theorem fC_lin : Lin fC := ⟨fun a e u v => V.ext' rfl rfl (by
  show (0 : K) = kA (kM a 0) (kM e 0)
  rw [kM_zero, kM_zero]; rfl)⟩
theorem line_param {l : Int} (hl : In91 l) : ∃ f : K × K → V, Lin f ∧ ∀ p, In91 p → onB (kindL 0) p l = true → ∃ k : Fin 10, vecP p = f (c2 k) := by
  have near_idx : ∀ j : Fin 9, ∃ k : Fin 10, c2 k = (j, 1) := by decide +kernel
  have far_idx : ∃ k : Fin 10, c2 k = (1, 0) := ⟨9, by decide⟩
  have m0 : ∀ a : K, kM a 0 = 0 := kM_zero
  have m1 : ∀ a : K, kM a 1 = a := by decide +kernel
  have o1 : ∀ a : K, kM 1 a = a := by decide +kernel
  rcases pt_fin hl with ⟨m, b, rfl⟩ | ⟨c, rfl⟩ | rfl
  · refine ⟨fA m b, fA_lin m b, fun p hp ho => ?_⟩
    rw [onK hp hl, cov_near] at ho
    rcases pt_fin hp with ⟨i, j, rfl⟩ | ⟨i, rfl⟩ | rfl
    · rw [vec_near] at ho ⊢
      obtain ⟨k, hk⟩ := near_idx i
      refine ⟨k, ?_⟩
      rw [hk]
      refine V.ext' rfl ?_ rfl
      show j = kA (kM i m) (kM b 1)
      rw [m1]
      have : ∀ s j b : K, kA (kA s (kM j (kN 1))) (kM 1 b) = 0 → j = kA s b := by decide +kernel
      exact this (kM i m) j b ho
    · rw [vec_far] at ho ⊢
      obtain ⟨k, hk⟩ := far_idx
      refine ⟨k, ?_⟩
      rw [hk]
      refine V.ext' rfl ?_ rfl
      show i = kA (kM 1 m) (kM b 0)
      rw [m0, o1, kA_zero]
      have : ∀ i m b : K, kA (kA (kM 1 m) (kM i (kN 1))) (kM 0 b) = 0 → i = m := by decide +kernel
      exact this i m b ho
    · exfalso
      rw [vec_last] at ho
      have : ∀ m b : K, ¬ kA (kA (kM 0 m) (kM 1 (kN 1))) (kM 0 b) = 0 := by decide +kernel
      exact this m b ho
  · refine ⟨fB c, fB_lin c, fun p hp ho => ?_⟩
    rw [onK hp hl, cov_far] at ho
    rcases pt_fin hp with ⟨i, j, rfl⟩ | ⟨i, rfl⟩ | rfl
    · rw [vec_near] at ho ⊢
      obtain ⟨k, hk⟩ := near_idx j
      refine ⟨k, ?_⟩
      rw [hk]
      refine V.ext' ?_ rfl rfl
      show i = kM c 1
      rw [m1]
      have : ∀ i j c : K, kA (kA (kM i 1) (kM j 0)) (kM 1 (kN c)) = 0 → i = c := by decide +kernel
      exact this i j c ho
    · exfalso
      rw [vec_far] at ho
      have : ∀ i c : K, ¬ kA (kA (kM 1 1) (kM i 0)) (kM 0 (kN c)) = 0 := by decide +kernel
      exact this i c ho
    · rw [vec_last]
      obtain ⟨k, hk⟩ := far_idx
      refine ⟨k, ?_⟩
      rw [hk]
      refine V.ext' ?_ rfl rfl
      show 0 = kM c 0
      rw [m0]
  · refine ⟨fC, fC_lin, fun p hp ho => ?_⟩
    rw [onK hp hl, cov_last] at ho
    rcases pt_fin hp with ⟨i, j, rfl⟩ | ⟨i, rfl⟩ | rfl
    · exfalso
      rw [vec_near] at ho
      have : ∀ i j : K, ¬ kA (kA (kM i 0) (kM j 0)) (kM 1 1) = 0 := by decide +kernel
      exact this i j ho
    · rw [vec_far]
      obtain ⟨k, hk⟩ := near_idx i
      exact ⟨k, by rw [hk]; rfl⟩
    · rw [vec_last]
      obtain ⟨k, hk⟩ := far_idx
      exact ⟨k, by rw [hk]; rfl⟩
theorem coll_vec {p q r l : Int} (hp : In91 p) (hq : In91 q) (hr : In91 r) (hl : In91 l) (h1 : onB (kindL 0) p l = true) (h2 : onB (kindL 0) q l = true) (h3 : onB (kindL 0) r l = true) (pq : p ≠ q) (pr : r ≠ p) (qr : r ≠ q) :
    ∃ a b : K, a ≠ 0 ∧ b ≠ 0 ∧ vecP r = (V.smul a (vecP p)).add (V.smul b (vecP q)) := by
  obtain ⟨f, hf, hk⟩ := line_param hl
  obtain ⟨i, ei⟩ := hk p hp h1
  obtain ⟨j, ej⟩ := hk q hq h2
  obtain ⟨k, ek⟩ := hk r hr h3
  have hij : i ≠ j := fun e => pq (vec_inj hp hq (by rw [ei, ej, e]))
  have hki : k ≠ i := fun e => pr (vec_inj hr hp (by rw [ek, ei, e]))
  have hkj : k ≠ j := fun e => qr (vec_inj hr hq (by rw [ek, ej, e]))
  obtain ⟨c1, c2', c3, c4⟩ := c2_key i j k hij
  refine ⟨cX i j k, cY i j k, c3 hkj, c4 hki, ?_⟩
  rw [ek, ei, ej, ← hf.out]
  refine congrArg f ?_
  exact Prod.ext c1 c2'
theorem pt_of (v : V) (hv : v ≠ vZero) : ∃ p, In91 p ∧ ∃ a : K, a ≠ 0 ∧ vecP p = V.smul a v := by
  by_cases hz : v.z = 0
  · by_cases hx : v.x = 0
    · have hy : v.y ≠ 0 := fun hy => hv (V.ext' hx hy hz)
      refine ⟨90, ⟨by omega, by omega⟩, kI v.y, kI_ne _ hy, ?_⟩
      rw [vec_last]
      refine V.ext' ?_ ?_ ?_
      · show 0 = kM (kI v.y) v.x; rw [hx, kM_zero]
      · exact (kI_mul _ hy).symm
      · show 0 = kM (kI v.y) v.z; rw [hz, kM_zero]
    · refine ⟨81 + ((kM (kI v.x) v.y).val : Int), ⟨by omega, by have := (kM (kI v.x) v.y).isLt; omega⟩, kI v.x, kI_ne _ hx, ?_⟩
      rw [vec_far]
      refine V.ext' ?_ rfl ?_
      · exact (kI_mul _ hx).symm
      · show 0 = kM (kI v.x) v.z; rw [hz, kM_zero]
  · refine ⟨9 * ((kM (kI v.z) v.x).val : Int) + ((kM (kI v.z) v.y).val : Int), ⟨by omega, by have := (kM (kI v.z) v.x).isLt; have := (kM (kI v.z) v.y).isLt; omega⟩, kI v.z, kI_ne _ hz, ?_⟩
    rw [vec_near]
    exact V.ext' rfl rfl (kI_mul _ hz).symm
end Go.Proofs.Ytcbkoecanldlpaa.X

set_option linter.unusedVariables false
set_option linter.unusedSimpArgs false
namespace Go.Proofs.Ytcbkoecanldlpaa.X
open Go.RowKit Go.Proofs.YtcbkoecanldlpaaW.PrintWords

def Still (t : List Int) (s : Nat → Bool) : Prop := ∀ x, x < 91 → stepS t s x = s x
theorem still_or (t : List Int) (s : Nat → Bool) (n : Nat) : (∃ m, m < n ∧ Still t (iterS t s m)) ∨ n ≤ sizeS (iterS t s n) := by
  induction n with
  | zero => exact .inr (Nat.zero_le _)
  | succ n ih =>
    rcases ih with ⟨m, hm, h⟩ | h
    · exact .inl ⟨m, by omega, h⟩
    · by_cases hs : Still t (iterS t s n)
      · exact .inl ⟨n, by omega, hs⟩
      · right
        have : ∃ x, x < 91 ∧ stepS t (iterS t s n) x = true ∧ iterS t s n x = false := by
          apply Classical.byContradiction
          intro hc
          apply hs
          intro x hx
          cases h0 : iterS t s n x with
          | true => exact stepS_old _ _ _ h0
          | false =>
            cases h1 : stepS t (iterS t s n) x with
            | false => rfl
            | true => exact absurd ⟨x, hx, h1, h0⟩ hc
        obtain ⟨x, hx, h1, h0⟩ := this
        have := sizeS_less (s := iterS t s n) (s' := iterS t s (n + 1)) (fun y _ hy => stepS_old t _ y hy) hx h1 h0
        omega
theorem iter_still (t : List Int) (s : Nat → Bool) : Still t (iterS t s 91) := by
  rcases still_or t s 92 with ⟨m, hm, h⟩ | h
  · intro x hx
    have h1 := fun x hx => iterS_still h (91 - m) x hx
    rw [show m + (91 - m) = 91 by omega] at h1
    rw [stepS_congr h1 x hx, h x hx, h1 x hx]
  · have := sizeS_le (iterS t s 92); omega
theorem iter_old (t : List Int) (s : Nat → Bool) (n : Nat) (x : Nat) (h : s x = true) : iterS t s n x = true := by
  induction n with
  | zero => exact h
  | succ n ih => exact stepS_old t _ x ih
theorem lines_mem {t : List Int} {s : Nat → Bool} {l p q : Int} (hl : In91 l) (hp : In91 p) (hq : In91 q) (hne : p ≠ q) (sp : s p.toNat = true) (sq : s q.toNat = true) (a : onB t p l = true) (b : onB t q l = true) : l ∈ linesS t s := by
  unfold linesS
  rw [mem_filI]
  refine ⟨hl.1, hl.2, ?_⟩
  have hm : ∀ r, In91 r → s r.toNat = true → onB t r l = true → r ∈ (ptsS s).filter fun p => onB t p l := fun r hr hs ho => List.mem_filter.2 ⟨mem_filI.2 ⟨hr.1, hr.2, hs⟩, ho⟩
  have := two_mem_length (hm p hp sp a) (hm q hq sq b) hne
  unfold cntL
  exact decide_eq_true (by omega)
theorem prS_mem {t L : List Int} {x : Nat} {l m : Int} (hl : l ∈ L) (hm : m ∈ L) (hne : l ≠ m) (e : meetI t l m = (x : Int)) : prS t L L.length x = true := by
  obtain ⟨i, hi, e1⟩ := List.mem_iff_getElem.1 hl
  obtain ⟨j, hj, e2⟩ := List.mem_iff_getElem.1 hm
  have r1 : rd L (i : Int) = l := by rw [rd_cast L i hi, e1]
  have r2 : rd L (j : Int) = m := by rw [rd_cast L j hj, e2]
  have hij : i ≠ j := fun e => hne (by rw [← r1, ← r2, e])
  unfold prS
  rw [Int.toNat_natCast]
  simp only [List.any_eq_true, List.mem_range, decide_eq_true_eq]
  rcases Nat.lt_or_gt_of_ne hij with h | h
  · exact ⟨j, hj, i, h, by rw [r1, r2, meetI_comm]; exact e⟩
  · exact ⟨i, hi, j, h, by rw [r1, r2]; exact e⟩
def Pt (s : Nat → Bool) (p : Int) : Prop := In91 p ∧ s p.toNat = true
def Ln (t : List Int) (s : Nat → Bool) (l : Int) : Prop := In91 l ∧ ∃ p q : Int, Pt s p ∧ Pt s q ∧ p ≠ q ∧ onB t p l = true ∧ onB t q l = true
structure Sub (t : List Int) (s : Nat → Bool) : Prop where
  sys : sysB t = true
  meet : ∀ l m : Int, Ln t s l → Ln t s m → l ≠ m → s (meetI t l m).toNat = true
theorem still_sub {t : List Int} {s : Nat → Bool} (hs : sysB t = true) (h : Still t s) : Sub t s := by
  refine ⟨hs, fun l m hl hm hne => ?_⟩
  obtain ⟨hl, p, q, hp, hq, pq, a, b⟩ := hl
  obtain ⟨hm, r, u, hr, hu, ru, c, d⟩ := hm
  have j := meetI_spec hs hl.1 hl.2 hm.1 hm.2 hne
  have h1 := prS_mem (t := t) (x := (meetI t l m).toNat) (lines_mem (s := s) hl hp.1 hq.1 pq hp.2 hq.2 a b) (lines_mem (s := s) hm hr.1 hu.1 ru hr.2 hu.2 c d) hne (by omega)
  rw [← h _ (by omega)]
  unfold stepS
  rw [h1, Bool.or_true]
theorem span_sub {t : List Int} (hs : sysB t = true) (s : Nat → Bool) : Sub t (iterS t s 91) := still_sub hs (iter_still t s)
namespace Sub
variable {t : List Int} {s : Nat → Bool}
theorem mt (S : Sub t s) {l m : Int} (hl : Ln t s l) (hm : Ln t s m) (hne : l ≠ m) : Pt s (meetI t l m) ∧ onB t (meetI t l m) l = true ∧ onB t (meetI t l m) m = true := by
  have j := meetI_spec S.sys hl.1.1 hl.1.2 hm.1.1 hm.1.2 hne
  exact ⟨⟨⟨j.1, j.2.1⟩, S.meet l m hl hm hne⟩, j.2.2.1, j.2.2.2⟩
theorem jn (S : Sub t s) {p q : Int} (hp : Pt s p) (hq : Pt s q) (hne : p ≠ q) : Ln t s (joinI t p q) ∧ onB t p (joinI t p q) = true ∧ onB t q (joinI t p q) = true := by
  have j := joinI_spec S.sys hp.1.1 hp.1.2 hq.1.1 hq.1.2 hne
  exact ⟨⟨⟨j.1, j.2.1⟩, p, q, hp, hq, hne, j.2.2.1, j.2.2.2⟩, j.2.2.1, j.2.2.2⟩
end Sub
theorem same_ln {t : List Int} (h : sysB t = true) {p q l k : Int} (hp : In91 p) (hq : In91 q) (hne : p ≠ q) (hl : In91 l) (hk : In91 k) (a : onB t p l = true) (b : onB t q l = true) (c : onB t p k = true) (d : onB t q k = true) : l = k := join_uniq h hp.1 hp.2 hq.1 hq.2 hne hl.1 hl.2 hk.1 hk.2 a b c d
theorem same_pt {t : List Int} (h : sysB t = true) {p q l k : Int} (hp : In91 p) (hq : In91 q) (hl : In91 l) (hk : In91 k) (hne : l ≠ k) (a : onB t p l = true) (b : onB t q l = true) (c : onB t p k = true) (d : onB t q k = true) : p = q := by
  rcases Decidable.em (p = q) with e | e
  · exact e
  · exact absurd (same_ln h hp hq e hl hk a b c d) hne
end Go.Proofs.Ytcbkoecanldlpaa.X

set_option linter.unusedVariables false
set_option linter.unusedSimpArgs false
namespace Go.Proofs.Ytcbkoecanldlpaa.X
open Go.RowKit Go.Proofs.YtcbkoecanldlpaaW.PrintWords

theorem len_le (f : Int → Int) : ∀ A B : List Int, A.Nodup → (∀ a ∈ A, f a ∈ B) → (∀ a ∈ A, ∀ b ∈ A, f a = f b → a = b) → A.length ≤ B.length := by
  intro A
  induction A with
  | nil => intro B _ _ _; exact Nat.zero_le _
  | cons a A ih =>
    intro B hA hf hi
    have hA' := List.nodup_cons.1 hA
    have ha := hf a List.mem_cons_self
    have h1 := ih (B.erase (f a)) hA'.2 (fun b hb => by
      refine (List.mem_erase_of_ne ?_).2 (hf b (List.mem_cons_of_mem _ hb))
      intro e
      have := hi b (List.mem_cons_of_mem _ hb) a List.mem_cons_self e
      exact hA'.1 (this ▸ hb)) (fun b hb c hc => hi b (List.mem_cons_of_mem _ hb) c (List.mem_cons_of_mem _ hc))
    have h2 := List.length_erase_of_mem ha
    have h3 := List.length_pos_of_mem ha
    rw [List.length_cons]; omega
theorem filter_two (p : Int → Bool) (L : List Int) : (L.filter p).length + (L.filter fun x => !p x).length = L.length := by
  induction L with
  | nil => rfl
  | cons a L ih =>
    cases h : p a with
    | true => rw [List.filter_cons_of_pos h, List.filter_cons_of_neg (by simp [h])]; simp only [List.length_cons]; omega
    | false => rw [List.filter_cons_of_neg (by simp [h]), List.filter_cons_of_pos (by simp [h])]; simp only [List.length_cons]; omega
theorem fibers (f : Int → Int) (n : Nat) : ∀ B A : List Int, B.Nodup → (∀ a ∈ A, f a ∈ B) → (∀ b ∈ B, (A.filter fun a => decide (f a = b)).length = n) → A.length = n * B.length := by
  intro B
  induction B with
  | nil =>
    intro A _ hf _
    cases A with
    | nil => rfl
    | cons a A => exact absurd (hf a List.mem_cons_self) (by simp)
  | cons b B ih =>
    intro A hB hf hn
    have hB' := List.nodup_cons.1 hB
    have h1 := hn b List.mem_cons_self
    have h2 := filter_two (fun a => decide (f a = b)) A
    have h3 := ih (A.filter fun a => !decide (f a = b)) hB'.2 (fun a ha => by
      have ha := List.mem_filter.1 ha
      rcases List.mem_cons.1 (hf a ha.1) with e | e
      · rw [decide_eq_true e] at ha; exact absurd ha.2 (by decide)
      · exact e) (fun c hc => by
      rw [List.filter_filter, ← hn c (List.mem_cons_of_mem _ hc)]
      refine congrArg List.length (List.filter_congr fun a _ => ?_)
      by_cases e : f a = c
      · have : f a ≠ b := fun e2 => hB'.1 (by rw [← e2, e]; exact hc)
        rw [decide_eq_true e, decide_eq_false this]; rfl
      · rw [decide_eq_false e]; rfl)
    rw [List.length_cons, Nat.mul_succ]; omega
theorem drop_one {L : List Int} (h : L.Nodup) {x : Int} (hx : x ∈ L) : (L.filter fun a => !decide (a = x)).length + 1 = L.length := by
  have h1 := filter_two (fun a => decide (a = x)) L
  have h2 : (L.filter fun a => decide (a = x)).length = 1 := by
    have h3 := len_le id (L.filter fun a => decide (a = x)) [x] (h.filter _) (fun a ha => by
      have := (List.mem_filter.1 ha).2
      exact List.mem_singleton.2 (of_decide_eq_true this)) (fun a _ b _ e => e)
    have h4 := List.length_pos_of_mem (List.mem_filter.2 ⟨hx, decide_eq_true (rfl : x = x)⟩ : x ∈ L.filter fun a => decide (a = x))
    rw [List.length_singleton] at h3
    omega
  omega
theorem filI_nodup (n : Nat) (p : Int → Bool) : (filI n p).Nodup := (filI_asc n p).imp fun h => by omega
def onL (t : List Int) (s : Nat → Bool) (l : Int) : List Int := (ptsS s).filter fun p => onB t p l
theorem mem_ptsS {s : Nat → Bool} {p : Int} : p ∈ ptsS s ↔ Pt s p := by
  unfold ptsS Pt In91; rw [mem_filI]
  constructor
  · rintro ⟨a, b, c⟩; exact ⟨⟨a, b⟩, c⟩
  · rintro ⟨⟨a, b⟩, c⟩; exact ⟨a, b, c⟩
theorem mem_onL {t : List Int} {s : Nat → Bool} {l p : Int} : p ∈ onL t s l ↔ Pt s p ∧ onB t p l = true := by
  unfold onL; rw [List.mem_filter, mem_ptsS]
theorem onL_nodup (t : List Int) (s : Nat → Bool) (l : Int) : (onL t s l).Nodup := (filI_nodup 91 _).filter _
namespace Sub
variable {t : List Int} {s : Nat → Bool}
theorem proj_le (S : Sub t s) {o l m : Int} (ho : Pt s o) (hl : Ln t s l) (hm : Ln t s m) (ol : onB t o l ≠ true) (om : onB t o m ≠ true) : (onL t s l).length ≤ (onL t s m).length := by
  have key : ∀ p, Pt s p → onB t p l = true → o ≠ p ∧ (Pt s (meetI t (joinI t o p) m) ∧ onB t (meetI t (joinI t o p) m) (joinI t o p) = true ∧ onB t (meetI t (joinI t o p) m) m = true) := by
    intro p hp a
    have hne : o ≠ p := fun e => ol (e ▸ a)
    obtain ⟨j, j1, j2⟩ := S.jn ho hp hne
    exact ⟨hne, S.mt j hm fun e => om (e ▸ j1)⟩
  refine len_le (fun p => meetI t (joinI t o p) m) _ _ (onL_nodup t s l) (fun p hp => ?_) (fun p hp q hq e => ?_)
  · obtain ⟨hp, a⟩ := mem_onL.1 hp
    obtain ⟨_, k1, _, k3⟩ := key p hp a
    exact mem_onL.2 ⟨k1, k3⟩
  · obtain ⟨hp, a⟩ := mem_onL.1 hp
    obtain ⟨hq, b⟩ := mem_onL.1 hq
    obtain ⟨op, k1, k2, k3⟩ := key p hp a
    obtain ⟨oq, i1, i2, i3⟩ := key q hq b
    have e : meetI t (joinI t o p) m = meetI t (joinI t o q) m := e
    rw [← e] at i2
    obtain ⟨j, j1, j2⟩ := S.jn ho hp op
    obtain ⟨n, n1, n2⟩ := S.jn ho hq oq
    have hz : o ≠ meetI t (joinI t o p) m := fun e => om (by rw [e]; exact k3)
    have hjn := same_ln S.sys ho.1 k1.1 hz j.1 n.1 j1 k2 n1 i2
    rw [← hjn] at n2
    exact same_pt S.sys hp.1 hq.1 hl.1 j.1 (fun e => ol (by rw [e]; exact j1)) a b j2 n2
theorem proj_eq (S : Sub t s) {o l m : Int} (ho : Pt s o) (hl : Ln t s l) (hm : Ln t s m) (ol : onB t o l ≠ true) (om : onB t o m ≠ true) : (onL t s l).length = (onL t s m).length :=
  Nat.le_antisymm (S.proj_le ho hl hm ol om) (S.proj_le ho hm hl om ol)
end Sub

theorem all_sub {t : List Int} (hs : sysB t = true) : Sub t fun _ => true := ⟨hs, fun _ _ _ _ _ => rfl⟩
theorem all_pt {p : Int} (h : In91 p) : Pt (fun _ => true) p := ⟨h, rfl⟩
theorem all_ln {t : List Int} (hs : sysB t = true) {l : Int} (hl : In91 l) : Ln t (fun _ => true) l := by
  have h2 := pointsL_two hs hl.1 hl.2
  have a := pointsL_rd (t := t) (l := l) (i := 0) (by omega) (by omega)
  have b := pointsL_rd (t := t) (l := l) (i := 1) (by omega) (by omega)
  have c : rd (pointsL t l) 0 < rd (pointsL t l) 1 := filI_lt (by omega) (by omega) (by show (1 : Int) < ((pointsL t l).length : Nat); omega)
  exact ⟨hl, _, _, all_pt a.1, all_pt b.1, by omega, a.2, b.2⟩
theorem off_two {t : List Int} (hs : sysB t = true) {l : Int} (hl : In91 l) : ∃ o, In91 o ∧ o < 81 ∧ onB t o l ≠ true := by
  by_cases h0 : onB t 0 l = true
  · by_cases h1 : onB t 1 l = true
    · refine ⟨9, ⟨by omega, by omega⟩, by omega, fun h9 => ?_⟩
      have a : onB t 0 81 = true := by have := (on_vert (t := t) (x := 0) (y := 0) (c := 0) (by omega) (by omega) (by omega) (by omega) (by omega) (by omega)).2 rfl; simpa using this
      have b : onB t 1 81 = true := by have := (on_vert (t := t) (x := 0) (y := 1) (c := 0) (by omega) (by omega) (by omega) (by omega) (by omega) (by omega)).2 rfl; simpa using this
      have e := same_ln hs (p := 0) (q := 1) ⟨by omega, by omega⟩ ⟨by omega, by omega⟩ (by omega) hl (k := 81) ⟨by omega, by omega⟩ h0 h1 a b
      rw [e] at h9
      have := (on_vert (t := t) (x := 1) (y := 0) (c := 0) (by omega) (by omega) (by omega) (by omega) (by omega) (by omega)).1 (by simpa using h9)
      omega
    · exact ⟨1, ⟨by omega, by omega⟩, by omega, h1⟩
  · exact ⟨0, ⟨by omega, by omega⟩, by omega, h0⟩
theorem far_len (t : List Int) : (onL t (fun _ => true) 90).length = 10 := by
  have : onL t (fun _ => true) 90 = filI 91 fun p => decide (81 ≤ p) := by
    unfold onL ptsS filI
    rw [List.filter_map, List.filter_filter]
    refine congrArg _ (List.filter_congr fun i _ => ?_)
    show (onB t (i : Int) 90 && true) = _
    unfold onB
    rw [if_pos rfl, Bool.and_true]
  rw [this]
  decide +kernel
theorem ten_points {t : List Int} (hs : sysB t = true) {l : Int} (hl : In91 l) : (onL t (fun _ => true) l).length = 10 := by
  obtain ⟨o, ho, o1, h⟩ := off_two hs hl
  rw [(all_sub hs).proj_eq (all_pt ho) (all_ln hs hl) (all_ln hs (l := 90) ⟨by omega, by omega⟩) h (fun h => by have := on_inf.1 h; omega)]
  exact far_len t
structure Quad (t : List Int) (s : Nat → Bool) (a b c d : Int) : Prop where
  pa : Pt s a
  pb : Pt s b
  pc : Pt s c
  pd : Pt s d
  ab : a ≠ b
  ac : a ≠ c
  ad : a ≠ d
  bc : b ≠ c
  bd : b ≠ d
  cd : c ≠ d
  cab : onB t c (joinI t a b) ≠ true
  dab : onB t d (joinI t a b) ≠ true
  dac : onB t d (joinI t a c) ≠ true
  dbc : onB t d (joinI t b c) ≠ true
namespace Sub
variable {t : List Int} {s : Nat → Bool} {a b c d : Int}
theorem same_len (S : Sub t s) (Q : Quad t s a b c d) {m : Int} (hm : Ln t s m) (hc : onB t c m = true) : (onL t s m).length = (onL t s (joinI t a b)).length := by
  obtain ⟨l, l1, l2⟩ := S.jn Q.pa Q.pb Q.ab
  by_cases h : onB t d m = true
  · -- the lines through a and c, and through b and d, meet off both
    obtain ⟨ac, ac1, ac2⟩ := S.jn Q.pa Q.pc Q.ac
    obtain ⟨bd, bd1, bd2⟩ := S.jn Q.pb Q.pd Q.bd
    have ne : joinI t a c ≠ joinI t b d := fun e => Q.dac (by rw [e]; exact bd2)
    obtain ⟨ho, o1, o2⟩ := S.mt ac bd ne
    have acl : joinI t a c ≠ joinI t a b := fun e => Q.cab (by rw [← e]; exact ac2)
    have bdl : joinI t b d ≠ joinI t a b := fun e => Q.dab (by rw [← e]; exact bd2)
    have acm : joinI t a c ≠ m := fun e => Q.dac (by rw [e]; exact h)
    have bdm : joinI t b d ≠ m := fun e => by
      have : onB t c (joinI t b d) = true := by rw [e]; exact hc
      have e2 := S.jn Q.pb Q.pc Q.bc
      have := same_ln S.sys Q.pb.1 Q.pc.1 Q.bc bd.1 e2.1.1 bd1 this e2.2.1 e2.2.2
      exact Q.dbc (by rw [← this]; exact bd2)
    refine S.proj_eq ho hm l (fun h1 => ?_) (fun h1 => ?_)
    · have e1 := same_pt S.sys ho.1 Q.pc.1 ac.1 hm.1 acm o1 ac2 h1 hc
      rw [e1] at o2
      have e2 := S.jn Q.pb Q.pc Q.bc
      have := same_ln S.sys Q.pb.1 Q.pc.1 Q.bc bd.1 e2.1.1 bd1 o2 e2.2.1 e2.2.2
      exact Q.dbc (by rw [← this]; exact bd2)
    · have e1 := same_pt S.sys ho.1 Q.pa.1 ac.1 l.1 acl o1 ac1 h1 l1
      have e2 := same_pt S.sys ho.1 Q.pb.1 bd.1 l.1 bdl o2 bd1 h1 l2
      exact Q.ab (e1.symm.trans e2)
  · exact S.proj_eq Q.pd hm l h Q.dab
theorem count (S : Sub t s) (Q : Quad t s a b c d) {n : Nat} (hn : (onL t s (joinI t a b)).length = n + 1) : sizeS s = n * (n + 1) + 1 := by
  obtain ⟨l, l1, l2⟩ := S.jn Q.pa Q.pb Q.ab
  have h1 := drop_one (L := ptsS s) (filI_nodup 91 _) (mem_ptsS.2 Q.pc)
  have key : ∀ q, Pt s q → c ≠ q → Pt s (meetI t (joinI t c q) (joinI t a b)) ∧ onB t (meetI t (joinI t c q) (joinI t a b)) (joinI t c q) = true ∧ onB t (meetI t (joinI t c q) (joinI t a b)) (joinI t a b) = true := by
    intro q hq hne
    obtain ⟨j, j1, j2⟩ := S.jn Q.pc hq hne
    exact S.mt j l fun e => Q.cab (by rw [← e]; exact j1)
  have h2 := fibers (fun q => meetI t (joinI t c q) (joinI t a b)) n (onL t s (joinI t a b)) ((ptsS s).filter fun x => !decide (x = c)) (onL_nodup _ _ _) (fun q hq => by
      obtain ⟨hq, hne⟩ := List.mem_filter.1 hq
      obtain ⟨k1, k2, k3⟩ := key q (mem_ptsS.1 hq) (fun e => by rw [decide_eq_true e.symm] at hne; exact absurd hne (by decide))
      exact mem_onL.2 ⟨k1, k3⟩) (fun z hz => by
      obtain ⟨hz, za⟩ := mem_onL.1 hz
      have cz : c ≠ z := fun e => Q.cab (by rw [e]; exact za)
      obtain ⟨j, j1, j2⟩ := S.jn Q.pc hz cz
      have h3 := S.same_len Q j j1
      have h4 := drop_one (onL_nodup t s (joinI t c z)) (mem_onL.2 ⟨Q.pc, j1⟩)
      have h5 : (List.filter (fun q => decide (meetI t (joinI t c q) (joinI t a b) = z)) (List.filter (fun x => !decide (x = c)) (ptsS s))) = (onL t s (joinI t c z)).filter fun a => !decide (a = c) := by
        unfold onL
        rw [List.filter_filter, List.filter_filter]
        refine List.filter_congr fun q hq => ?_
        have hq := mem_ptsS.1 hq
        by_cases e : q = c
        · rw [decide_eq_true e]; simp
        · obtain ⟨k1, k2, k3⟩ := key q hq (fun h => e h.symm)
          obtain ⟨i, i1, i2⟩ := S.jn Q.pc hq (fun h => e h.symm)
          rw [decide_eq_false e, Bool.not_false, Bool.and_true, Bool.true_and]
          by_cases f : onB t q (joinI t c z) = true
          · rw [f, decide_eq_true_iff]
            have e1 := same_ln S.sys Q.pc.1 hq.1 (fun h => e h.symm) i.1 j.1 i1 i2 j1 f
            rw [e1] at k2 k3 ⊢
            exact same_pt S.sys (meetI_spec S.sys j.1.1 j.1.2 l.1.1 l.1.2 (fun e => Q.cab (by rw [← e]; exact j1)) |> fun h => ⟨h.1, h.2.1⟩) hz.1 j.1 l.1 (fun e => Q.cab (by rw [← e]; exact j1)) k2 j2 k3 za
          · rw [Bool.eq_false_iff.2 f, decide_eq_false]
            intro e1
            rw [e1] at k2
            have e2 := same_ln S.sys Q.pc.1 hz.1 cz i.1 j.1 i1 k2 j1 j2
            exact f (by rw [← e2]; exact i2)
      rw [h5]; omega)
  rw [hn] at h2
  unfold sizeS
  omega
theorem three_on (S : Sub t s) (Q : Quad t s a b c d) : 3 ≤ (onL t s (joinI t a b)).length := by
  obtain ⟨l, l1, l2⟩ := S.jn Q.pa Q.pb Q.ab
  obtain ⟨cd, cd1, cd2⟩ := S.jn Q.pc Q.pd Q.cd
  have ne : joinI t a b ≠ joinI t c d := fun e => Q.cab (by rw [e]; exact cd1)
  obtain ⟨ho, o1, o2⟩ := S.mt l cd ne
  have oa : a ≠ meetI t (joinI t a b) (joinI t c d) := fun e => by
    rw [← e] at o2
    have j := S.jn Q.pa Q.pc Q.ac
    have := same_ln S.sys Q.pa.1 Q.pc.1 Q.ac cd.1 j.1.1 o2 cd1 j.2.1 j.2.2
    exact Q.dac (by rw [← this]; exact cd2)
  have ob : b ≠ meetI t (joinI t a b) (joinI t c d) := fun e => by
    rw [← e] at o2
    have j := S.jn Q.pb Q.pc Q.bc
    have := same_ln S.sys Q.pb.1 Q.pc.1 Q.bc cd.1 j.1.1 o2 cd1 j.2.1 j.2.2
    exact Q.dbc (by rw [← this]; exact cd2)
  have := len_le id [a, b, meetI t (joinI t a b) (joinI t c d)] (onL t s (joinI t a b)) (by simp [Q.ab, oa, ob]) (fun x hx => by
    rcases List.mem_cons.1 hx with rfl | hx
    · exact mem_onL.2 ⟨Q.pa, l1⟩
    rcases List.mem_cons.1 hx with rfl | hx
    · exact mem_onL.2 ⟨Q.pb, l2⟩
    · rw [List.mem_singleton.1 hx]; exact mem_onL.2 ⟨ho, o1⟩) (fun x _ y _ e => e)
  exact this
theorem few (S : Sub t s) (Q : Quad t s a b c d) {p : Int} (hp : In91 p) (ps : s p.toNat ≠ true) (pl : onB t p (joinI t a b) = true) : sizeS s ≤ (onL t s (joinI t a b)).length + 9 := by
  obtain ⟨l, l1, l2⟩ := S.jn Q.pa Q.pb Q.ab
  have A := all_sub S.sys
  obtain ⟨k, k1, k2⟩ := S.jn Q.pa Q.pc Q.ac
  have kl : joinI t a c ≠ joinI t a b := fun e => Q.cab (by rw [← e]; exact k2)
  have pa : a ≠ p := fun e => ps (e ▸ Q.pa.2)
  have pk : onB t p (joinI t a c) ≠ true := fun h => kl (same_ln S.sys Q.pa.1 hp pa k.1 l.1 k1 h l1 pl)
  have h1 := filter_two (fun q => onB t q (joinI t a b)) (ptsS s)
  have h2 := drop_one (onL_nodup t (fun _ => true) (joinI t a c)) (mem_onL.2 ⟨all_pt Q.pa.1, k1⟩)
  rw [ten_points S.sys k.1] at h2
  have key : ∀ q, Pt s q → onB t q (joinI t a b) ≠ true → p ≠ q ∧ (In91 (joinI t p q) ∧ onB t p (joinI t p q) = true ∧ onB t q (joinI t p q) = true) ∧ (In91 (meetI t (joinI t p q) (joinI t a c)) ∧ onB t (meetI t (joinI t p q) (joinI t a c)) (joinI t p q) = true ∧ onB t (meetI t (joinI t p q) (joinI t a c)) (joinI t a c) = true) := by
    intro q hq hne
    have pq : p ≠ q := fun e => hne (e ▸ pl)
    obtain ⟨j, j1, j2⟩ := A.jn (all_pt hp) (all_pt hq.1) pq
    obtain ⟨m, m1, m2⟩ := A.mt j (all_ln S.sys k.1) (fun e => pk (by rw [← e]; exact j1))
    exact ⟨pq, ⟨j.1, j1, j2⟩, m.1, m1, m2⟩
  have h3 := len_le (fun q => meetI t (joinI t p q) (joinI t a c)) ((ptsS s).filter fun q => !onB t q (joinI t a b)) ((onL t (fun _ => true) (joinI t a c)).filter fun x => !decide (x = a)) ((filI_nodup 91 _).filter _) (fun q hq => by
      obtain ⟨hq, hne⟩ := List.mem_filter.1 hq
      have hne : onB t q (joinI t a b) ≠ true := fun h => by rw [h] at hne; exact absurd hne (by decide)
      obtain ⟨pq, ⟨j, j1, j2⟩, m, m1, m2⟩ := key q (mem_ptsS.1 hq) hne
      refine List.mem_filter.2 ⟨mem_onL.2 ⟨all_pt m, m2⟩, ?_⟩
      rw [decide_eq_false]; rfl
      intro e
      have e : meetI t (joinI t p q) (joinI t a c) = a := e
      rw [e] at m1
      have := same_ln S.sys hp Q.pa.1 (fun h => pa h.symm) j l.1 j1 m1 pl l1
      exact hne (by rw [← this]; exact j2)) (fun q hq r hr e => by
      obtain ⟨hq, hne⟩ := List.mem_filter.1 hq
      have hne : onB t q (joinI t a b) ≠ true := fun h => by rw [h] at hne; exact absurd hne (by decide)
      obtain ⟨hr, hnr⟩ := List.mem_filter.1 hr
      have hnr : onB t r (joinI t a b) ≠ true := fun h => by rw [h] at hnr; exact absurd hnr (by decide)
      have hq := mem_ptsS.1 hq
      have hr := mem_ptsS.1 hr
      obtain ⟨pq, ⟨j, j1, j2⟩, m, m1, m2⟩ := key q hq hne
      obtain ⟨pr, ⟨i, i1, i2⟩, n, n1, n2⟩ := key r hr hnr
      have e : meetI t (joinI t p q) (joinI t a c) = meetI t (joinI t p r) (joinI t a c) := e
      rw [← e] at n1
      have hz : p ≠ meetI t (joinI t p q) (joinI t a c) := fun e => pk (by rw [e]; exact m2)
      have hji := same_ln S.sys hp m hz j i j1 m1 i1 n1
      rw [← hji] at i2
      rcases Decidable.em (q = r) with h | h
      · exact h
      · exfalso
        have jl : Ln t s (joinI t p q) := ⟨j, q, r, hq, hr, h, j2, i2⟩
        have jne : joinI t p q ≠ joinI t a b := fun e => hne (by rw [← e]; exact j2)
        obtain ⟨v, v1, v2⟩ := S.mt jl l jne
        have := same_pt S.sys v.1 hp j l.1 jne v1 j1 v2 pl
        rw [this] at v
        exact ps v.2)
  unfold sizeS
  unfold onL at h3 h2 ⊢
  omega
theorem orders (S : Sub t s) (Q : Quad t s a b c d) : ∃ n : Nat, (onL t s (joinI t a b)).length = n + 1 ∧ sizeS s = n * n + n + 1 ∧ (n = 2 ∨ n = 3 ∨ n = 9) := by
  obtain ⟨l, l1, l2⟩ := S.jn Q.pa Q.pb Q.ab
  have h3 := S.three_on Q
  obtain ⟨n, hn⟩ : ∃ n, (onL t s (joinI t a b)).length = n + 1 := ⟨(onL t s (joinI t a b)).length - 1, by omega⟩
  have hc := S.count Q hn
  have h10 := ten_points S.sys l.1
  refine ⟨n, hn, by rw [hc, Nat.mul_succ], ?_⟩
  by_cases hall : ∀ p, In91 p → onB t p (joinI t a b) = true → s p.toNat = true
  · have := len_le id (onL t (fun _ => true) (joinI t a b)) (onL t s (joinI t a b)) (onL_nodup _ _ _) (fun p hp => by
      obtain ⟨hp, h⟩ := mem_onL.1 hp
      exact mem_onL.2 ⟨⟨hp.1, hall p hp.1 h⟩, h⟩) (fun _ _ _ _ e => e)
    have h2 := len_le id (onL t s (joinI t a b)) (onL t (fun _ => true) (joinI t a b)) (onL_nodup _ _ _) (fun p hp => by
      obtain ⟨hp, h⟩ := mem_onL.1 hp
      exact mem_onL.2 ⟨all_pt hp.1, h⟩) (fun _ _ _ _ e => e)
    omega
  · have : ∃ p, In91 p ∧ onB t p (joinI t a b) = true ∧ s p.toNat ≠ true := by
      apply Classical.byContradiction
      intro hno
      exact hall fun p hp h => Classical.byContradiction fun h2 => hno ⟨p, hp, h, h2⟩
    obtain ⟨p, hp, h, h2⟩ := this
    have hf := S.few Q hp h2 h
    rw [hn, hc] at hf
    have hb : n ≤ 3 := by
      rcases Nat.lt_or_ge 3 n with hlt | hge
      · have : 4 * (n + 1) ≤ n * (n + 1) := Nat.mul_le_mul_right _ hlt
        have : n * (n + 1) = n * n + n := Nat.mul_succ n n
        have : 4 * n ≤ n * n := Nat.mul_le_mul_right _ hlt
        omega
      · exact hge
    omega
end Sub

end Go.Proofs.Ytcbkoecanldlpaa.X

set_option linter.unusedVariables false
set_option linter.unusedSimpArgs false
namespace Go.Proofs.Ytcbkoecanldlpaa.X
open Go.RowKit Go.Proofs.YtcbkoecanldlpaaW.PrintWords Go.Proofs.YtcbkoecanldlpaaW.PrintLast Go.Proofs.Ytcbkoecanldlpaa.P

def quadB (t l : List Int) : Bool := sysB t && (decide (l.length = 4) && apartP t l)
theorem quadB_parts {t l : List Int} (h : quadB t l = true) : sysB t = true ∧ l.length = 4 ∧ apartP t l = true := by
  unfold quadB at h
  simp only [Bool.and_eq_true, decide_eq_true_eq] at h
  exact h
theorem diff_all {l : List Int} (h : diffB l = true) : ∀ x ∈ l, In91 x := by
  intro x hx
  obtain ⟨i, hi, rfl⟩ := List.mem_iff_getElem.1 hx
  rw [← rd_cast l i hi]
  exact diffB_pt h (by omega) (by omega)
theorem quad_pts {t l : List Int} (h : quadB t l = true) : ∀ x ∈ l, In91 x := diff_all (apart_parts (quadB_parts h).2.2).1
end Go.Proofs.Ytcbkoecanldlpaa.X

set_option linter.unusedVariables false
set_option linter.unusedSimpArgs false
namespace Go.Proofs.Ytcbkoecanldlpaa.X
open Go.RowKit Go.Proofs.YtcbkoecanldlpaaW.PrintWords

def spB (t l : List Int) : Nat → Bool := iterS t (inL l) 91
theorem spB_old {t l : List Int} {p : Int} (hp : In91 p) (h : p ∈ l) : Pt (spB t l) p := by
  refine ⟨hp, iter_old t _ 91 _ ?_⟩
  unfold inL
  rw [Int.toNat_of_nonneg hp.1]
  exact decide_eq_true h
theorem off_swap {t : List Int} (h : sysB t = true) {p q r : Int} (hp : In91 p) (hq : In91 q) (hr : In91 r) (pq : p ≠ q) (qr : q ≠ r) (pr : p ≠ r) (ho : onB t p (joinI t r q) = false) : onB t r (joinI t p q) ≠ true := by
  intro a
  have j := joinI_spec h hp.1 hp.2 hq.1 hq.2 pq
  have k := joinI_spec h hr.1 hr.2 hq.1 hq.2 (fun e => qr e.symm)
  have := same_ln h hr hq (fun e => qr e.symm) ⟨j.1, j.2.1⟩ ⟨k.1, k.2.1⟩ a j.2.2.2 k.2.2.1 k.2.2.2
  rw [← this, j.2.2.1] at ho
  exact absurd ho (by decide)
theorem quad_in {t x : List Int} (h : quadB t x = true) : Quad t (spB t x) (rd x 0) (rd x 1) (rd x 2) (rd x 3) := by
  obtain ⟨hs, h4, ha⟩ := quadB_parts h
  obtain ⟨hd, ht⟩ := apart_parts ha
  have P := fun (i : Int) (i0 : 0 ≤ i) (i1 : i < 4) => spB_old (t := t) (diffB_pt hd (i := i) i0 (by omega)) (rd_mem (t := x) (i := i) (by omega) i0)
  have N := fun (i j : Int) (i0 : 0 ≤ i) (ij : i < j) (j1 : j < 4) => diffB_ne hd (i := i) (j := j) i0 ij (by omega)
  have O : ∀ i j k : Int, 0 ≤ k → k < j → j < i → i < 4 → onB t (rd x i) (joinI t (rd x k) (rd x j)) ≠ true := fun i j k k0 kj ji i1 => by
    have := ht i j k k0 kj ji (by omega)
    exact off_swap hs (P k k0 (by omega)).1 (P j (by omega) (by omega)).1 (P i (by omega) i1).1 (N k j k0 kj (by omega)) (N j i (by omega) ji i1) (N k i k0 (by omega) i1) this
  exact ⟨P 0 (by omega) (by omega), P 1 (by omega) (by omega), P 2 (by omega) (by omega), P 3 (by omega) (by omega), N 0 1 (by omega) (by omega) (by omega), N 0 2 (by omega) (by omega) (by omega), N 0 3 (by omega) (by omega) (by omega), N 1 2 (by omega) (by omega) (by omega), N 1 3 (by omega) (by omega) (by omega), N 2 3 (by omega) (by omega) (by omega), O 2 1 0 (by omega) (by omega) (by omega) (by omega), O 3 1 0 (by omega) (by omega) (by omega) (by omega), O 3 2 0 (by omega) (by omega) (by omega) (by omega), O 3 2 1 (by omega) (by omega) (by omega) (by omega)⟩
theorem Quad.ne1 {t : List Int} {s : Nat → Bool} {a b c d : Int} (S : Sub t s) (Q : Quad t s a b c d) : joinI t a b ≠ joinI t c d := fun e => Q.cab (by rw [e]; exact (S.jn Q.pc Q.pd Q.cd).2.1)
theorem Quad.ne2 {t : List Int} {s : Nat → Bool} {a b c d : Int} (S : Sub t s) (Q : Quad t s a b c d) : joinI t a c ≠ joinI t b d := fun e => Q.dac (by rw [e]; exact (S.jn Q.pb Q.pd Q.bd).2.2)
theorem Quad.ne3 {t : List Int} {s : Nat → Bool} {a b c d : Int} (S : Sub t s) (Q : Quad t s a b c d) : joinI t a d ≠ joinI t b c := fun e => Q.dbc (by rw [← e]; exact (S.jn Q.pa Q.pd Q.ad).2.2)
end Go.Proofs.Ytcbkoecanldlpaa.X

set_option linter.unusedVariables false
set_option linter.unusedSimpArgs false
namespace Go.Proofs.Ytcbkoecanldlpaa.X
open Go.RowKit Go.Proofs.YtcbkoecanldlpaaW.PrintWords

def isR (a : K) : Prop := a.val < 3
instance (a : K) : Decidable (isR a) := inferInstanceAs (Decidable (a.val < 3))
def kRe (a : K) : K := ⟨a.val % 3, by omega⟩
def kIm (a : K) : K := ⟨a.val / 3, by omega⟩
theorem kRe_add : ∀ a b : K, kRe (kA a b) = kA (kRe a) (kRe b) := by decide +kernel
theorem kIm_add : ∀ a b : K, kIm (kA a b) = kA (kIm a) (kIm b) := by decide +kernel
theorem kRe_mul : ∀ a b : K, isR b → kRe (kM a b) = kM (kRe a) b := by decide +kernel
theorem kIm_mul : ∀ a b : K, isR b → kIm (kM a b) = kM (kIm a) b := by decide +kernel
theorem kRe_self : ∀ a : K, isR a → kRe a = a := by decide +kernel
theorem kIm_self : ∀ a : K, isR a → kIm a = 0 := by decide +kernel
theorem kR_of : ∀ a : K, kIm a = 0 → isR a := by decide +kernel
theorem kR_add : ∀ a b : K, isR a → isR b → isR (kA a b) := by decide +kernel
theorem kR_mul : ∀ a b : K, isR a → isR b → isR (kM a b) := by decide +kernel
theorem k1_M : ∀ a : K, kM 1 a = a := by decide +kernel
theorem kI_left (a b : K) (h : a ≠ 0) : kM (kI a) (kM a b) = b := by rw [← kM_assoc, kI_mul a h, k1_M]
theorem kM_ne : ∀ a b : K, a ≠ 0 → b ≠ 0 → kM a b ≠ 0 := by decide +kernel
structure Tri (a b c d la lb lc : Int) : Prop where
  pa : In91 a
  pb : In91 b
  pc : In91 c
  pd : In91 d
  ha : In91 la
  hb : In91 lb
  hc : In91 lc
  ab : a ≠ b
  ac : a ≠ c
  bc : b ≠ c
  -- la is the line through b and c, and so on
  b_la : onB (kindL 0) b la = true
  c_la : onB (kindL 0) c la = true
  a_lb : onB (kindL 0) a lb = true
  c_lb : onB (kindL 0) c lb = true
  a_lc : onB (kindL 0) a lc = true
  b_lc : onB (kindL 0) b lc = true
  a_la : onB (kindL 0) a la ≠ true
  b_lb : onB (kindL 0) b lb ≠ true
  c_lc : onB (kindL 0) c lc ≠ true
  d_la : onB (kindL 0) d la ≠ true
  d_lb : onB (kindL 0) d lb ≠ true
  d_lc : onB (kindL 0) d lc ≠ true
def cf (d l p : Int) : K := kM (kI (dot (vecP d) (covL l))) (dot (vecP p) (covL l))
theorem sys0 : sysB (kindL 0) = true := kind_sys 0 (by omega) (by omega)
theorem cf_zero {d l p : Int} (hp : In91 p) (hl : In91 l) (h : onB (kindL 0) p l = true) : cf d l p = 0 := by unfold cf; rw [(onK hp hl).1 h, kM_zero]
theorem cf_ne {d l p : Int} (hd : In91 d) (hp : In91 p) (hl : In91 l) (hdl : onB (kindL 0) d l ≠ true) (h : onB (kindL 0) p l ≠ true) : cf d l p ≠ 0 := by
  unfold cf
  refine kM_ne _ _ (kI_ne _ fun e => hdl ((onK hd hl).2 e)) fun e => h ((onK hp hl).2 e)
theorem cf_self {d l : Int} (hd : In91 d) (hl : In91 l) (hdl : onB (kindL 0) d l ≠ true) : cf d l d = 1 := kI_mul _ fun e => hdl ((onK hd hl).2 e)
theorem cf_of {d l p : Int} (hd : In91 d) (hl : In91 l) (hdl : onB (kindL 0) d l ≠ true) (e : dot (vecP p) (covL l) = dot (vecP p) (covL l)) : dot (vecP p) (covL l) = kM (dot (vecP d) (covL l)) (cf d l p) := by
  have hne : dot (vecP d) (covL l) ≠ 0 := fun e => hdl ((onK hd hl).2 e)
  unfold cf
  rw [kM_left, kI_left _ _ hne]
namespace Tri
variable {a b c d la lb lc : Int}
theorem inj (T : Tri a b c d la lb lc) {v : V} (h1 : dot v (covL la) = 0) (h2 : dot v (covL lb) = 0) (h3 : dot v (covL lc) = 0) : v = vZero := by
  apply Classical.byContradiction
  intro hne
  obtain ⟨p, hp, k, hk, e⟩ := pt_of v hne
  have o1 : onB (kindL 0) p la = true := (onK hp T.ha).2 (by rw [e, dot_smul, h1, kM_zero])
  have o2 : onB (kindL 0) p lb = true := (onK hp T.hb).2 (by rw [e, dot_smul, h2, kM_zero])
  have o3 : onB (kindL 0) p lc = true := (onK hp T.hc).2 (by rw [e, dot_smul, h3, kM_zero])
  have ne : lb ≠ lc := fun e => T.c_lc (by rw [← e]; exact T.c_lb)
  have : p = a := same_pt sys0 hp T.pa T.hb T.hc ne o2 T.a_lb o3 T.a_lc
  exact T.a_la (by rw [← this]; exact o1)
theorem on_line (T : Tri a b c d la lb lc) {p q r l : Int} (hp : In91 p) (hq : In91 q) (hr : In91 r) (hl : In91 l) (x y : K)
    (h1 : cf d la p = kA (kM x (cf d la q)) (kM y (cf d la r))) (h2 : cf d lb p = kA (kM x (cf d lb q)) (kM y (cf d lb r))) (h3 : cf d lc p = kA (kM x (cf d lc q)) (kM y (cf d lc r)))
    (oq : onB (kindL 0) q l = true) (or' : onB (kindL 0) r l = true) : onB (kindL 0) p l = true := by
  have step : ∀ m, In91 m → onB (kindL 0) d m ≠ true → cf d m p = kA (kM x (cf d m q)) (kM y (cf d m r)) → dot ((vecP p).add (V.smul (kN 1) ((V.smul x (vecP q)).add (V.smul y (vecP r))))) (covL m) = 0 := by
    intro m hm hd h
    rw [dot_add, dot_smul, dot_add, dot_smul, dot_smul, cf_of T.pd hm hd (p := p) rfl, cf_of T.pd hm hd (p := q) rfl, cf_of T.pd hm hd (p := r) rfl, h, kM_neg, k1_M, kA_sub, kM_dl, kM_left x, kM_left y]
  have z := T.inj (step la T.ha T.d_la h1) (step lb T.hb T.d_lb h2) (step lc T.hc T.d_lc h3)
  have := congrArg (fun v => dot v (covL l)) z
  rw [dot_add, dot_smul, dot_add, dot_smul, dot_smul, dot_zero, (onK hq hl).1 oq, (onK hr hl).1 or', kM_zero, kM_zero, kzero_A, kM_zero, kA_zero] at this
  exact (onK hp hl).2 this
end Tri
theorem cf_lin {d l p q r : Int} {x y : K} (h : vecP p = (V.smul x (vecP q)).add (V.smul y (vecP r))) : cf d l p = kA (kM x (cf d l q)) (kM y (cf d l r)) := by
  unfold cf
  rw [h, dot_add, dot_smul, dot_smul, kM_dl, kM_left _ x, kM_left _ y]
def Whole3 (d la lb lc p : Int) : Prop := ∃ k : K, k ≠ 0 ∧ isR (kM k (cf d la p)) ∧ isR (kM k (cf d lb p)) ∧ isR (kM k (cf d lc p))
theorem whole_key (s x y : K) (hs : kIm s ≠ 0) (a b c e : K) (ha : isR a) (hb : isR b) (hc : isR c) (he : isR e) (h : kA a (kM s b) = kA (kM x c) (kM y e)) :
    b = kA (kM (kM (kI (kIm s)) (kIm x)) c) (kM (kM (kI (kIm s)) (kIm y)) e) ∧ kA a (kM (kRe s) b) = kA (kM (kRe x) c) (kM (kRe y) e) := by
  have h1 := congrArg kIm h
  have h2 := congrArg kRe h
  rw [kIm_add, kIm_add, kIm_mul _ _ hb, kIm_mul _ _ hc, kIm_mul _ _ he, kIm_self a ha, kzero_A] at h1
  rw [kRe_add, kRe_add, kRe_mul _ _ hb, kRe_mul _ _ hc, kRe_mul _ _ he, kRe_self a ha] at h2
  refine ⟨?_, h2⟩
  have h3 := congrArg (kM (kI (kIm s))) h1
  rw [kI_left _ _ hs, kM_dl, ← kM_assoc, ← kM_assoc] at h3
  exact h3
theorem kA_move : ∀ a b c : K, kA a b = c → a = kA c (kM (kN 1) b) := by decide +kernel
theorem coll_or {p q r l : Int} (hp : In91 p) (hq : In91 q) (hr : In91 r) (hl : In91 l) (h1 : onB (kindL 0) p l = true) (h2 : onB (kindL 0) q l = true) (h3 : onB (kindL 0) r l = true) (pq : p ≠ q) :
    (r = p ∨ r = q) ∨ ∃ a b : K, a ≠ 0 ∧ b ≠ 0 ∧ vecP r = (V.smul a (vecP p)).add (V.smul b (vecP q)) := by
  by_cases e1 : r = p
  · exact .inl (.inl e1)
  · by_cases e2 : r = q
    · exact .inl (.inr e2)
    · exact .inr (coll_vec hp hq hr hl h1 h2 h3 pq e1 e2)
theorem whole_meet {a b c d la lb lc : Int} (T : Tri a b c d la lb lc) {l m p q r u z : Int} (hl : In91 l) (hm : In91 m) (hp : In91 p) (hq : In91 q) (hr : In91 r) (hu : In91 u) (hz : In91 z) (lm : l ≠ m) (pq : p ≠ q) (ru : r ≠ u)
    (pl : onB (kindL 0) p l = true) (ql : onB (kindL 0) q l = true) (rm : onB (kindL 0) r m = true) (um : onB (kindL 0) u m = true) (zl : onB (kindL 0) z l = true) (zm : onB (kindL 0) z m = true)
    (wp : Whole3 d la lb lc p) (wq : Whole3 d la lb lc q) (wr : Whole3 d la lb lc r) (wu : Whole3 d la lb lc u) : Whole3 d la lb lc z := by
  rcases coll_or hp hq hz hl pl ql zl pq with (h | h) | ⟨x1, y1, hx1, hy1, e1⟩
  · rw [h]; exact wp
  · rw [h]; exact wq
  rcases coll_or hr hu hz hm rm um zm ru with (h | h) | ⟨x2, y2, hx2, hy2, e2⟩
  · rw [h]; exact wr
  · rw [h]; exact wu
  obtain ⟨kp, hkp, p1, p2, p3⟩ := wp
  obtain ⟨kq, hkq, q1, q2, q3⟩ := wq
  obtain ⟨kr, hkr, r1, r2, r3⟩ := wr
  obtain ⟨ku, hku, u1, u2, u3⟩ := wu
  -- z's numbers, times w, are those of p plus s times those of q
  have hxi := kI_ne _ hx1
  obtain ⟨w, hw⟩ : ∃ w, w = kM kp (kI x1) := ⟨_, rfl⟩
  have hw0 : w ≠ 0 := by rw [hw]; exact kM_ne _ _ hkp hxi
  obtain ⟨s, hs⟩ : ∃ s, s = kM (kM w y1) (kI kq) := ⟨_, rfl⟩
  obtain ⟨x, hx⟩ : ∃ x, x = kM (kM w x2) (kI kr) := ⟨_, rfl⟩
  obtain ⟨y, hy⟩ : ∃ y, y = kM (kM w y2) (kI ku) := ⟨_, rfl⟩
  have back : ∀ k A : K, k ≠ 0 → kM (kI k) (kM k A) = A := fun k A h => kI_left k A h
  have key : ∀ m', kM w (cf d m' z) = kA (kM kp (cf d m' p)) (kM s (kM kq (cf d m' q))) ∧ kM w (cf d m' z) = kA (kM x (kM kr (cf d m' r))) (kM y (kM ku (cf d m' u))) := by
    intro m'
    constructor
    · rw [cf_lin (d := d) (l := m') e1, kM_dl, hs, ← kM_assoc w x1, ← kM_assoc w y1, kM_assoc (kM w y1) (kI kq), back _ _ hkq]
      rw [hw, kM_assoc kp (kI x1) x1, kI_mul _ hx1, kM_comm kp 1, k1_M]
    · rw [cf_lin (d := d) (l := m') e2, kM_dl, hx, hy, ← kM_assoc w x2, ← kM_assoc w y2, kM_assoc (kM w x2) (kI kr), kM_assoc (kM w y2) (kI ku), back _ _ hkr, back _ _ hku]
  by_cases hsi : kIm s = 0
  · have hsr := kR_of s hsi
    refine ⟨w, hw0, ?_, ?_, ?_⟩
    · rw [(key la).1]; exact kR_add _ _ p1 (kR_mul _ _ hsr q1)
    · rw [(key lb).1]; exact kR_add _ _ p2 (kR_mul _ _ hsr q2)
    · rw [(key lc).1]; exact kR_add _ _ p3 (kR_mul _ _ hsr q3)
  · exfalso
    have k1 := whole_key s x y hsi _ _ _ _ p1 q1 r1 u1 ((key la).1.symm.trans (key la).2)
    have k2 := whole_key s x y hsi _ _ _ _ p2 q2 r2 u2 ((key lb).1.symm.trans (key lb).2)
    have k3 := whole_key s x y hsi _ _ _ _ p3 q3 r3 u3 ((key lc).1.symm.trans (key lc).2)
    generalize kM (kI (kIm s)) (kIm x) = X at k1 k2 k3
    generalize kM (kI (kIm s)) (kIm y) = Y at k1 k2 k3
    -- q is on m
    have fq : ∀ A B C : K, kM kq A = kA (kM X (kM kr B)) (kM Y (kM ku C)) → A = kA (kM (kM (kI kq) (kM X kr)) B) (kM (kM (kI kq) (kM Y ku)) C) := by
      intro A B C h
      have := congrArg (kM (kI kq)) h
      rw [back _ _ hkq, kM_dl] at this
      rw [this, kM_assoc (kI kq) (kM X kr), kM_assoc X kr, kM_assoc (kI kq) (kM Y ku), kM_assoc Y ku]
    have qm := T.on_line hq hr hu hm _ _ (fq _ _ _ k1.1) (fq _ _ _ k2.1) (fq _ _ _ k3.1) rm um
    -- p is on m
    obtain ⟨X', hX'⟩ : ∃ X', X' = kA (kRe x) (kM (kN 1) (kM (kRe s) X)) := ⟨_, rfl⟩
    obtain ⟨Y', hY'⟩ : ∃ Y', Y' = kA (kRe y) (kM (kN 1) (kM (kRe s) Y)) := ⟨_, rfl⟩
    have gp : ∀ P Q R U : K, Q = kA (kM X R) (kM Y U) → kA P (kM (kRe s) Q) = kA (kM (kRe x) R) (kM (kRe y) U) → P = kA (kM X' R) (kM Y' U) := by
      intro P Q R U h1 h2
      rw [kA_move _ _ _ h2, h1, hX', hY']
      simp only [kM_dl, kM_dr, kM_assoc]
      ac_rfl
    have fp : ∀ A B C : K, kM kp A = kA (kM X' (kM kr B)) (kM Y' (kM ku C)) → A = kA (kM (kM (kI kp) (kM X' kr)) B) (kM (kM (kI kp) (kM Y' ku)) C) := by
      intro A B C h
      have := congrArg (kM (kI kp)) h
      rw [back _ _ hkp, kM_dl] at this
      rw [this, kM_assoc (kI kp) (kM X' kr), kM_assoc X' kr, kM_assoc (kI kp) (kM Y' ku), kM_assoc Y' ku]
    have pm := T.on_line hp hr hu hm _ _ (fp _ _ _ (gp _ _ _ _ k1.1 k1.2)) (fp _ _ _ (gp _ _ _ _ k2.1 k2.2)) (fp _ _ _ (gp _ _ _ _ k3.1 k3.2)) rm um
    exact lm (same_ln sys0 hp hq pq hl hm pl ql pm qm)
theorem quad_tri {s : Nat → Bool} {a b c d : Int} (S : Sub (kindL 0) s) (Q : Quad (kindL 0) s a b c d) : Tri a b c d (joinI (kindL 0) b c) (joinI (kindL 0) a c) (joinI (kindL 0) a b) := by
  obtain ⟨l, l1, l2⟩ := S.jn Q.pa Q.pb Q.ab
  obtain ⟨m, m1, m2⟩ := S.jn Q.pa Q.pc Q.ac
  obtain ⟨n, n1, n2⟩ := S.jn Q.pb Q.pc Q.bc
  refine ⟨Q.pa.1, Q.pb.1, Q.pc.1, Q.pd.1, n.1, m.1, l.1, Q.ab, Q.ac, Q.bc, n1, n2, m1, m2, l1, l2, ?_, ?_, Q.cab, Q.dbc, Q.dac, Q.dab⟩
  · intro h
    exact Q.cab (by rw [same_ln S.sys Q.pa.1 Q.pb.1 Q.ab l.1 n.1 l1 l2 h n1]; exact n2)
  · intro h
    exact Q.cab (by rw [same_ln S.sys Q.pa.1 Q.pb.1 Q.ab l.1 m.1 l1 l2 m1 h]; exact m2)
theorem whole_pts {a b c d la lb lc : Int} (T : Tri a b c d la lb lc) : Whole3 d la lb lc a ∧ Whole3 d la lb lc b ∧ Whole3 d la lb lc c ∧ Whole3 d la lb lc d := by
  have r0 : isR 0 := by decide
  have r1 : isR 1 := by decide
  refine ⟨⟨kI (cf d la a), kI_ne _ (cf_ne T.pd T.pa T.ha T.d_la T.a_la), ?_, ?_, ?_⟩, ⟨kI (cf d lb b), kI_ne _ (cf_ne T.pd T.pb T.hb T.d_lb T.b_lb), ?_, ?_, ?_⟩, ⟨kI (cf d lc c), kI_ne _ (cf_ne T.pd T.pc T.hc T.d_lc T.c_lc), ?_, ?_, ?_⟩, ⟨1, by decide, ?_, ?_, ?_⟩⟩
  · rw [kI_mul _ (cf_ne T.pd T.pa T.ha T.d_la T.a_la)]; exact r1
  · rw [cf_zero T.pa T.hb T.a_lb, kM_zero]; exact r0
  · rw [cf_zero T.pa T.hc T.a_lc, kM_zero]; exact r0
  · rw [cf_zero T.pb T.ha T.b_la, kM_zero]; exact r0
  · rw [kI_mul _ (cf_ne T.pd T.pb T.hb T.d_lb T.b_lb)]; exact r1
  · rw [cf_zero T.pb T.hc T.b_lc, kM_zero]; exact r0
  · rw [cf_zero T.pc T.ha T.c_la, kM_zero]; exact r0
  · rw [cf_zero T.pc T.hb T.c_lb, kM_zero]; exact r0
  · rw [kI_mul _ (cf_ne T.pd T.pc T.hc T.d_lc T.c_lc)]; exact r1
  · rw [cf_self T.pd T.ha T.d_la]; decide
  · rw [cf_self T.pd T.hb T.d_lb]; decide
  · rw [cf_self T.pd T.hc T.d_lc]; decide
theorem step_keeps {t : List Int} (hs : sysB t = true) {W : Int → Prop} (hW : ∀ l m p q r u z : Int, In91 l → In91 m → In91 p → In91 q → In91 r → In91 u → In91 z → l ≠ m → p ≠ q → r ≠ u → onB t p l = true → onB t q l = true → onB t r m = true → onB t u m = true → onB t z l = true → onB t z m = true → W p → W q → W r → W u → W z)
    {s : Nat → Bool} (h : ∀ p, Pt s p → W p) : ∀ p, Pt (stepS t s) p → W p := by
  intro z hz
  obtain ⟨hz, e⟩ := hz
  unfold stepS at e
  rw [Bool.or_eq_true] at e
  rcases e with e | e
  · exact h z ⟨hz, e⟩
  · unfold prS at e
    simp only [List.any_eq_true, List.mem_range, decide_eq_true_eq, Int.toNat_natCast] at e
    obtain ⟨i, hi, j, hj, e⟩ := e
    have two : ∀ l, l ∈ linesS t s → In91 l ∧ ∃ p q, p ≠ q ∧ Pt s p ∧ Pt s q ∧ onB t p l = true ∧ onB t q l = true := by
      intro l hl
      obtain ⟨l0, l1, hl⟩ := mem_filI.1 hl
      have hlen : 1 < (onL t s l).length := by have := of_decide_eq_true hl; unfold cntL at this; unfold onL; omega
      have a := mem_onL.1 (rd_mem (t := onL t s l) (i := 0) (by omega) (by omega))
      have b := mem_onL.1 (rd_mem (t := onL t s l) (i := 1) (by omega) (by omega))
      refine ⟨⟨l0, l1⟩, _, _, ?_, a.1, b.1, a.2, b.2⟩
      have nd := onL_nodup t s l
      rw [rd_getElem (by omega) (by omega), rd_getElem (by omega) (by omega)]
      intro e
      have := (List.getElem_inj nd).1 e
      omega
    have mi : rd (linesS t s) (i : Int) ∈ linesS t s := rd_mem (by omega) (by omega)
    have mj : rd (linesS t s) (j : Int) ∈ linesS t s := rd_mem (by omega) (by omega)
    obtain ⟨hl, p, q, pq, hp, hq, a, b⟩ := two _ mi
    obtain ⟨hm, r, u, ru, hr, hu, c, d⟩ := two _ mj
    have hi2 : (i : Int) < ((linesS t s).length : Int) := by omega
    have hlt : rd (linesS t s) (j : Int) < rd (linesS t s) (i : Int) := filI_lt (n := 91) (p := fun l => decide (1 < (cntL t (ptsS s) l : Int))) (by omega) (by omega) hi2
    have ne : rd (linesS t s) (i : Int) ≠ rd (linesS t s) (j : Int) := by omega
    have sp := meetI_spec hs hl.1 hl.2 hm.1 hm.2 ne
    rw [e, Int.toNat_of_nonneg hz.1] at sp
    exact hW _ _ p q r u z hl hm hp.1 hq.1 hr.1 hu.1 hz ne pq ru a b c d sp.2.2.1 sp.2.2.2 (h p hp) (h q hq) (h r hr) (h u hu)
theorem iter_keeps {t : List Int} (hs : sysB t = true) {W : Int → Prop} (hW : ∀ l m p q r u z : Int, In91 l → In91 m → In91 p → In91 q → In91 r → In91 u → In91 z → l ≠ m → p ≠ q → r ≠ u → onB t p l = true → onB t q l = true → onB t r m = true → onB t u m = true → onB t z l = true → onB t z m = true → W p → W q → W r → W u → W z)
    {s : Nat → Bool} (h : ∀ p, Pt s p → W p) (n : Nat) : ∀ p, Pt (iterS t s n) p → W p := by
  induction n with
  | zero => exact h
  | succ n ih => exact step_keeps hs hW ih
theorem span_whole {x : List Int} (hq : quadB (kindL 0) x = true) {la lb lc : Int} (T : Tri (rd x 0) (rd x 1) (rd x 2) (rd x 3) la lb lc) : ∀ p, Pt (spB (kindL 0) x) p → Whole3 (rd x 3) la lb lc p := by
  obtain ⟨w0, w1, w2, w3⟩ := whole_pts T
  refine iter_keeps sys0 (fun l m p q r u z hl hm hp hq hr hu hz lm pq ru a b c d e f wp wq wr wu => whole_meet T hl hm hp hq hr hu hz lm pq ru a b c d e f wp wq wr wu) ?_ 91
  intro p hp
  obtain ⟨hp, h⟩ := hp
  unfold inL at h
  have h := of_decide_eq_true h
  rw [Int.toNat_of_nonneg hp.1] at h
  have h4 := (quadB_parts hq).2.1
  obtain ⟨i, hi, e⟩ := List.mem_iff_getElem.1 h
  have e : rd x (i : Int) = p := by rw [rd_cast x i hi, e]
  have : i = 0 ∨ i = 1 ∨ i = 2 ∨ i = 3 := by omega
  rcases this with rfl | rfl | rfl | rfl
  · rw [← e]; exact w0
  · rw [← e]; exact w1
  · rw [← e]; exact w2
  · rw [← e]; exact w3
theorem kR_key : ∀ k : K, k ≠ 0 → isR k → ¬ isR (kM k 3) := by decide +kernel
theorem k3_R (k u v : K) (hk : k ≠ 0) (hu : u ≠ 0) (e : v = kM 3 u) (h1 : isR (kM k u)) (h2 : isR (kM k v)) : False := by
  rw [e, kM_left, kM_comm 3] at h2
  exact kR_key _ (kM_ne _ _ hk hu) h1 h2
theorem not_whole {a b c d la lb lc : Int} (T : Tri a b c d la lb lc) : ∃ p, In91 p ∧ ¬ Whole3 d la lb lc p := by
  have na := cf_ne T.pd T.pa T.ha T.d_la T.a_la
  have nb := cf_ne T.pd T.pb T.hb T.d_lb T.b_lb
  -- the vector with the numbers 1, 3, 0
  obtain ⟨v, hv⟩ : ∃ v : V, v = (V.smul (kI (cf d la a)) (vecP a)).add (V.smul (kM 3 (kI (cf d lb b))) (vecP b)) := ⟨_, rfl⟩
  have va : kM (kI (dot (vecP d) (covL la))) (dot v (covL la)) = 1 := by
    rw [hv, dot_add, dot_smul, dot_smul, (onK T.pb T.ha).1 T.b_la, kM_zero, kA_zero, kM_left]
    exact kI_mul _ na
  have vb : kM (kI (dot (vecP d) (covL lb))) (dot v (covL lb)) = 3 := by
    rw [hv, dot_add, dot_smul, dot_smul, (onK T.pa T.hb).1 T.a_lb, kM_zero, kzero_A, kM_left, kM_assoc, show kM (kI (cf d lb b)) (kM (kI (dot (vecP d) (covL lb))) (dot (vecP b) (covL lb))) = 1 from kI_mul _ nb]
    decide
  have hne : v ≠ vZero := by
    intro e
    rw [e, dot_zero, kM_zero] at va
    exact absurd va (by decide)
  obtain ⟨p, hp, k, hk, e⟩ := pt_of v hne
  refine ⟨p, hp, ?_⟩
  rintro ⟨w, hw, w1, w2, _⟩
  have ca : cf d la p = k := by
    unfold cf
    rw [e, dot_smul, kM_left, va, kM_comm, k1_M]
  have cb : cf d lb p = kM 3 k := by
    unfold cf
    rw [e, dot_smul, kM_left, vb, kM_comm]
  exact k3_R w k (cf d lb p) hw hk cb (by rw [← ca]; exact w1) w2
theorem diag_cf {d v e m l1 l2 l3 : Int} (hd : In91 d) (hv : In91 v) (he : In91 e) (hm : In91 m) (h1 : In91 l1) (h2 : In91 l2) (h3 : In91 l3) (v1 : onB (kindL 0) v l1 = true) (v2 : onB (kindL 0) v l2 = true) (v3 : onB (kindL 0) v l3 ≠ true)
    (d1 : onB (kindL 0) d l1 ≠ true) (d2 : onB (kindL 0) d l2 ≠ true) (d3 : onB (kindL 0) d l3 ≠ true) (e3 : onB (kindL 0) e l3 = true) (em : onB (kindL 0) e m = true) (vm : onB (kindL 0) v m = true) (dm : onB (kindL 0) d m = true) :
    ∃ y : K, y ≠ 0 ∧ cf d l1 e = y ∧ cf d l2 e = y ∧ cf d l3 e = 0 := by
  have vd : v ≠ d := fun h => d1 (h ▸ v1)
  rcases coll_or hv hd he hm vm dm em vd with (h | h) | ⟨x, y, hx, hy, h⟩
  · exact absurd (h ▸ e3) v3
  · exact absurd (h ▸ e3) d3
  · refine ⟨y, hy, ?_, ?_, cf_zero he h3 e3⟩
    · rw [cf_lin (d := d) (l := l1) h, cf_zero hv h1 v1, cf_self hd h1 d1, kM_zero, kzero_A, kM_comm, k1_M]
    · rw [cf_lin (d := d) (l := l2) h, cf_zero hv h2 v2, cf_self hd h2 d2, kM_zero, kzero_A, kM_comm, k1_M]
theorem kA_same : ∀ a : K, kA a a = 0 → a = 0 := by decide +kernel
theorem diag_off {a b c d la lb lc e1 e2 e3 m1 m2 m3 l : Int} (T : Tri a b c d la lb lc) (h1 : In91 e1) (h2 : In91 e2) (h3 : In91 e3) (n1 : In91 m1) (n2 : In91 m2) (n3 : In91 m3) (hl : In91 l)
    (a1 : onB (kindL 0) e1 lc = true) (a2 : onB (kindL 0) e1 m1 = true) (a3 : onB (kindL 0) c m1 = true) (a4 : onB (kindL 0) d m1 = true)
    (b1 : onB (kindL 0) e2 lb = true) (b2 : onB (kindL 0) e2 m2 = true) (b3 : onB (kindL 0) b m2 = true) (b4 : onB (kindL 0) d m2 = true)
    (c1 : onB (kindL 0) e3 la = true) (c2 : onB (kindL 0) e3 m3 = true) (c3 : onB (kindL 0) a m3 = true) (c4 : onB (kindL 0) d m3 = true)
    (o1 : onB (kindL 0) e1 l = true) (o2 : onB (kindL 0) e2 l = true) (o3 : onB (kindL 0) e3 l = true) : False := by
  obtain ⟨y, hy, y1, y2, y3⟩ := diag_cf T.pd T.pc h1 n1 T.ha T.hb T.hc T.c_la T.c_lb T.c_lc T.d_la T.d_lb T.d_lc a1 a2 a3 a4
  obtain ⟨z, hz, z1, z2, z3⟩ := diag_cf T.pd T.pb h2 n2 T.ha T.hc T.hb T.b_la T.b_lc T.b_lb T.d_la T.d_lc T.d_lb b1 b2 b3 b4
  obtain ⟨w, hw, w1, w2, w3⟩ := diag_cf T.pd T.pa h3 n3 T.hb T.hc T.ha T.a_lb T.a_lc T.a_la T.d_lb T.d_lc T.d_la c1 c2 c3 c4
  have e12 : e1 ≠ e2 := fun e => hy (by rw [← y2, e]; exact z3)
  rcases coll_or h1 h2 h3 hl o1 o2 o3 e12 with (h | h) | ⟨p, q, hp, hq, h⟩
  · exact hy (by rw [← y1, ← h]; exact w3)
  · exact hz (by rw [← z1, ← h]; exact w3)
  · have g1 := cf_lin (d := d) (l := la) h
    have g2 := cf_lin (d := d) (l := lb) h
    have g3 := cf_lin (d := d) (l := lc) h
    rw [w3, y1, z1] at g1
    rw [w1, y2, z3, kM_zero, kA_zero] at g2
    rw [w2, y3, z2, kM_zero, kzero_A] at g3
    rw [← g2, ← g3] at g1
    exact hw (kA_same _ g1.symm)
theorem field_order {x : List Int} (hq : quadB (kindL 0) x = true) : (onL (kindL 0) (spB (kindL 0) x) (joinI (kindL 0) (rd x 0) (rd x 1))).length = 4 := by
  have S := span_sub sys0 (inL x)
  have Q := quad_in hq
  have T := quad_tri S Q
  obtain ⟨n, h1, h2, h3⟩ := S.orders Q
  obtain ⟨ab, ab1, ab2⟩ := S.jn Q.pa Q.pb Q.ab
  obtain ⟨cd, cd1, cd2⟩ := S.jn Q.pc Q.pd Q.cd
  obtain ⟨ac, ac1, ac2⟩ := S.jn Q.pa Q.pc Q.ac
  obtain ⟨bd, bd1, bd2⟩ := S.jn Q.pb Q.pd Q.bd
  obtain ⟨ad, ad1, ad2⟩ := S.jn Q.pa Q.pd Q.ad
  obtain ⟨bc, bc1, bc2⟩ := S.jn Q.pb Q.pc Q.bc
  obtain ⟨p1, p1a, p1b⟩ := S.mt ab cd (Q.ne1 S)
  obtain ⟨p2, p2a, p2b⟩ := S.mt ac bd (Q.ne2 S)
  obtain ⟨p3, p3a, p3b⟩ := S.mt ad bc (Q.ne3 S)
  generalize meetI (kindL 0) (joinI (kindL 0) (rd x 0) (rd x 1)) (joinI (kindL 0) (rd x 2) (rd x 3)) = e1 at p1 p1a p1b
  generalize meetI (kindL 0) (joinI (kindL 0) (rd x 0) (rd x 2)) (joinI (kindL 0) (rd x 1) (rd x 3)) = e2 at p2 p2a p2b
  generalize meetI (kindL 0) (joinI (kindL 0) (rd x 0) (rd x 3)) (joinI (kindL 0) (rd x 1) (rd x 2)) = e3 at p3 p3a p3b
  have acd : joinI (kindL 0) (rd x 0) (rd x 2) ≠ joinI (kindL 0) (rd x 0) (rd x 3) := fun e => Q.dac (by rw [e]; exact ad2)
  have bcd : joinI (kindL 0) (rd x 1) (rd x 2) ≠ joinI (kindL 0) (rd x 1) (rd x 3) := fun e => Q.dbc (by rw [e]; exact bd2)
  have acab : joinI (kindL 0) (rd x 0) (rd x 2) ≠ joinI (kindL 0) (rd x 0) (rd x 1) := fun e => Q.cab (by rw [← e]; exact ac2)
  have abd : onB (kindL 0) (rd x 0) (joinI (kindL 0) (rd x 1) (rd x 3)) ≠ true := fun e => Q.dab (by rw [same_ln S.sys Q.pa.1 Q.pb.1 Q.ab ab.1 bd.1 ab1 ab2 e bd1]; exact bd2)
  have bac : onB (kindL 0) (rd x 1) (joinI (kindL 0) (rd x 0) (rd x 2)) ≠ true := T.b_lb
  have a2 : e2 ≠ rd x 0 := fun e => abd (by rw [← e]; exact p2b)
  have b2 : e2 ≠ rd x 1 := fun e => bac (by rw [← e]; exact p2a)
  have a3 : e3 ≠ rd x 0 := fun e => T.a_la (by rw [← e]; exact p3b)
  have b3 : e3 ≠ rd x 1 := fun e => by
    rw [e] at p3a
    exact Q.dab (by rw [same_ln S.sys Q.pa.1 Q.pb.1 Q.ab ab.1 ad.1 ab1 ab2 ad1 p3a]; exact ad2)
  have e23 : e2 ≠ e3 := fun e => by
    rw [← e] at p3a
    exact a2 (same_pt S.sys p2.1 Q.pa.1 ac.1 ad.1 acd p2a ac1 p3a ad1)
  obtain ⟨k, k2, k3⟩ := S.jn p2 p3 e23
  generalize joinI (kindL 0) e2 e3 = kk at k k2 k3
  have kab : joinI (kindL 0) (rd x 0) (rd x 1) ≠ kk := fun e => by
    rw [← e] at k2
    exact a2 (same_pt S.sys p2.1 Q.pa.1 ac.1 ab.1 acab p2a ac1 k2 ab1)
  obtain ⟨p4, p4a, p4b⟩ := S.mt ab k kab
  generalize meetI (kindL 0) (joinI (kindL 0) (rd x 0) (rd x 1)) kk = e4 at p4 p4a p4b
  have a4 : e4 ≠ rd x 0 := fun e => by
    rw [e] at p4b
    have i1 := same_ln S.sys Q.pa.1 p2.1 (fun h => a2 h.symm) k.1 ac.1 p4b k2 ac1 p2a
    have i2 := same_ln S.sys Q.pa.1 p3.1 (fun h => a3 h.symm) k.1 ad.1 p4b k3 ad1 p3a
    exact acd (i1.symm.trans i2)
  have b4 : e4 ≠ rd x 1 := fun e => by
    rw [e] at p4b
    have i1 := same_ln S.sys Q.pb.1 p2.1 (fun h => b2 h.symm) k.1 bd.1 p4b k2 bd1 p2b
    have i2 := same_ln S.sys Q.pb.1 p3.1 (fun h => b3 h.symm) k.1 bc.1 p4b k3 bc1 p3b
    exact bcd (i2.symm.trans i1)
  have a1 : e1 ≠ rd x 0 := fun e => by
    rw [e] at p1b
    exact Q.dac (by rw [same_ln S.sys Q.pa.1 Q.pc.1 Q.ac ac.1 cd.1 ac1 ac2 p1b cd1]; exact cd2)
  have b1 : e1 ≠ rd x 1 := fun e => by
    rw [e] at p1b
    exact Q.dbc (by rw [same_ln S.sys Q.pb.1 Q.pc.1 Q.bc bc.1 cd.1 bc1 bc2 p1b cd1]; exact cd2)
  have e14 : e1 ≠ e4 := fun e => by
    rw [← e] at p4b
    exact diag_off T p1.1 p2.1 p3.1 cd.1 bd.1 ad.1 k.1 p1a p1b cd1 cd2 p2a p2b bd1 bd2 p3b p3a ad1 ad2 p4b k2 k3
  have four := len_le id [rd x 0, rd x 1, e1, e4] (onL (kindL 0) (iterS (kindL 0) (inL x) 91) (joinI (kindL 0) (rd x 0) (rd x 1))) (by simp [Q.ab, Ne.symm a1, Ne.symm a4, Ne.symm b1, Ne.symm b4, e14]) (fun z hz => by
    rcases List.mem_cons.1 hz with rfl | hz
    · exact mem_onL.2 ⟨Q.pa, ab1⟩
    rcases List.mem_cons.1 hz with rfl | hz
    · exact mem_onL.2 ⟨Q.pb, ab2⟩
    rcases List.mem_cons.1 hz with rfl | hz
    · exact mem_onL.2 ⟨p1, p1a⟩
    · rw [List.mem_singleton.1 hz]; exact mem_onL.2 ⟨p4, p4a⟩) (fun _ _ _ _ e => e)
  have four : 4 ≤ (onL (kindL 0) (iterS (kindL 0) (inL x) 91) (joinI (kindL 0) (rd x 0) (rd x 1))).length := four
  show (onL (kindL 0) (iterS (kindL 0) (inL x) 91) (joinI (kindL 0) (rd x 0) (rd x 1))).length = 4
  rcases h3 with h | h | h
  · omega
  · omega
  · exfalso
    obtain ⟨p, hp, hw⟩ := not_whole T
    refine hw (span_whole hq T p ⟨hp, ?_⟩)
    cases e : spB (kindL 0) x p.toNat with
    | true => rfl
    | false =>
      exfalso
      have hlt := sizeS_less (s := spB (kindL 0) x) (s' := fun _ => true) (fun _ _ _ => rfl) (j := p.toNat) (by have := hp.1; have := hp.2; omega) rfl e
      have hle := sizeS_le (fun _ => true)
      have h2 : sizeS (spB (kindL 0) x) = n * n + n + 1 := h2
      rw [h] at h2
      omega
end Go.Proofs.Ytcbkoecanldlpaa.X

namespace Go.Proofs.Ytcbkoecanldlpaa.P
open Go.RowKit Go.Proofs.YtcbkoecanldlpaaW.PrintWords Go.Proofs.YtcbkoecanldlpaaW.PrintLast
set_option linter.unusedVariables false
set_option linter.unusedSimpArgs false

def spec_l3Points.l0 : Nat → List Int → Int → List Int → Int → Option (List Int)
 | 0, _, _, _, _ => none
 | k + 1, x0, x1, x5, x6 => if x6 < 91 then ((spec_l3On.f x0 x6 x1).bind fun t188 => (if t188 = true then (if x5.length < 17592186044416 then (spec_l3Points.l0 k x0 x1 (x5 ++ [x6]) (wrap64 (x6 + 1))) else (none)) else (spec_l3Points.l0 k x0 x1 x5 (wrap64 (x6 + 1))))) else (some x5)
def spec_l3Points.f (k : Nat) (l0 : List Int) (a1 : Int) : Option (List Int) := spec_l3Points.l0 k l0 a1 (([] : List Int)) 0
set_option maxHeartbeats 8000000 in
set_option maxRecDepth 100000 in
theorem spec_l3Points.calls (k : Nat) (A0 : Option Addr) (c0 : Nat) (l0 : List Int) (a1 : Int) (r : List Int) (w : World) (hr0 : Kd.C (Kd.int .i64) w A0 l0.length l0) (hc0 : l0.length ≤ c0) (h : spec_l3Points.f k l0 a1 = some r) :
  Calls Try.prog 162 #[.slice A0 l0.length c0, .int .i64 a1] w fun e w' => ∃ v0_ : Value, e = .returned (v0_) ∧ Kd.R (Kd.int .i64) 3 w' w.heap.size (fun _ => True) v0_ r ∧ Below w.heap.size w w' := by
 have HR0 := Aside0.mk hr0
 have HC0 := Aside0.mk hc0
 clear hr0 hc0
 have HB := Aside0.mk (Below.refl w.heap.size w)
 have H : (spec_l3Points.l0 k l0 a1 (([] : List Int)) 0) = some r := h
 clear h
 obtain ⟨y185, hy185⟩ : ∃ y_ : List Int, y_ = (([] : List Int)) := ⟨_, rfl⟩
 replace H : (spec_l3Points.l0 k l0 a1 y185 0) = some r := by first | (rw [hy185]; with_reducible exact H) | (have H2_ := (Option.bind_some _ _).symm.trans H; rw [hy185]; with_reducible exact H2_) | (have H2_ := (Option.bind_some _ _).symm.trans H; with_reducible exact H2_) | with_reducible exact H | (rw [hy185]; exact H) | exact H
 have Ny185 := Aside0.mk hy185
 clear hy185
 have H' := Aside0.mk H
 clear H
 go_enter Try.func162, Try.ntmps162
 go_wp2_with (first | ((with_reducible refine gate_dst (N := 7) rfl ?_); refine Kd.R_lit (Kd.int .i64) _ 3 ?hg (N := 7) ?hd (xs := ([] : List Int)) (inner := []) (ok := fun _ => True) (okp := fun _ => True) ?hr ?hp (fun _ hk => hk) trivial (Below.refl _ _) (Nat.le_refl _) (by simp) ?_; (case hd => rfl); (case hg => rfl); (case hr => first | (go_simp; done) | (go_simp; rfl)); (case hp => exact (Reps.none _ _)); intro v186 w3 ho4 hb hg_ hnew_; clear hg_ hnew_; (first | rw [← Ny185.out] at ho4 | (simp only [Int.reduceToNat] at ho4; rw [← Ny185.out] at ho4)); have n0_ := Aside0.mk (Kd.R_lower ho4 (below_size (bb_ HB))); have n1_ := Aside0.mk (below_step (bb_ HB) hb); clear HB; have HO187 := n0_; have HB := n1_; clear n0_ n1_; clear hb ho4))
 go_loopg [5, 6] k (fun kq v5 v6 w' => ∃ (x5_1 : List Int) (x6_1 : Int), v6 = .int .i64 x6_1 ∧ Aside0 (spec_l3Points.l0 kq l0 a1 x5_1 x6_1 = some r) ∧ Aside0 (kq ≤ k) ∧ Aside0 (Kd.R (Kd.int .i64) 3 w' w.heap.size (fun _ => True) v5 x5_1) ∧ Aside0 (Below w.heap.size w w'))
 case atStart => exact ⟨(y185), (0), (by first | rfl | (simp; done) | (simp [*]; done)), H', ⟨Nat.le_refl _⟩, ⟨rr_ HO187⟩, ⟨by repeat (first | (with_reducible first | exact HB.out | apply below_alloc | apply pw_below_drewN | apply below_drew1) | exact HB.out)⟩⟩
 case round =>
  clear H'
  try clear c1
  try clear p2
  obtain ⟨x5_1, x6_1, rfl, HA, HK1, HO_5, HB⟩ := hrel
  cases gk with
  | zero => exact absurd HA.out (by simp [spec_l3Points.l0])
  | succ k1 =>
   have H := HA.out
   clear HA
   simp only [spec_l3Points.l0] at H
   by_cases c5 : x6_1 < 91
   ·rw [if_pos c5] at H
    have c5b0 : decide (x6_1 < 91) = true := decide_eq_true c5
    clear c5
    replace H := Option.bind_eq_some_iff.mp H
    obtain ⟨t188, A60, H⟩ := H
    replace H : (if t188 = true then (if x5_1.length < 17592186044416 then (spec_l3Points.l0 k1 l0 a1 (x5_1 ++ [x6_1]) (wrap64 (x6_1 + 1))) else (none)) else (spec_l3Points.l0 k1 l0 a1 x5_1 (wrap64 (x6_1 + 1)))) = some r := H
    have A6 := Aside0.mk A60
    clear A60
    by_cases c7 : t188 = true
    ·subst c7
     have H1 : (if x5_1.length < 17592186044416 then (spec_l3Points.l0 k1 l0 a1 (x5_1 ++ [x6_1]) (wrap64 (x6_1 + 1))) else (none)) = some r := by rw [if_pos rfl] at H; exact H
     clear H
     have H := H1
     clear H1
     by_cases c8 : x5_1.length < 17592186044416
     ·rw [if_pos c8] at H
      have LMc8 := Aside0.mk c8
      clear c8
      obtain ⟨y189, hy189⟩ : ∃ y_ : List Int, y_ = (x5_1 ++ [x6_1]) := ⟨_, rfl⟩
      replace H : (spec_l3Points.l0 k1 l0 a1 y189 (wrap64 (x6_1 + 1))) = some r := by first | (rw [hy189]; with_reducible exact H) | (have H2_ := (Option.bind_some _ _).symm.trans H; rw [hy189]; with_reducible exact H2_) | (have H2_ := (Option.bind_some _ _).symm.trans H; with_reducible exact H2_) | with_reducible exact H | (rw [hy189]; exact H) | exact H
      have Ny189 := Aside0.mk hy189
      clear hy189
      have H' := Aside0.mk H
      clear H
      go_wp2_with (first | (refine goesL_ (some 15) rfl rfl Try.func106 (by kernel_rfl) rfl #[.slice A0 l0.length c0, .int .i64 x6_1, .int .i64 a1] rfl ll_ ?_; (with_reducible refine (spec_l3On.calls _ _ l0 x6_1 a1 true _ ?side1 ?side2 A6.out).mono ?_); (case side1 => exact sb_ HR0 HB); (case side2 => exact HC0.out); rintro e w' ⟨rfl, ⟨nd, rfl⟩⟩; refine ⟨_, rfl, ?_⟩) | (at_builtin; refine Kd.R_append (Kd.int .i64) (w0 := w) w.heap.size rfl (.tmp 16) (.tmp 18) 23 3 (.int .i64 0) 8 rfl Try.underlying23 info3 rfl (by decide) (by omega) u5 x5_1 x6_1 [.int .i64 x6_1] (fun _ => True) (fun _ => False) rfl rfl ?aP (fun _ hk => hk.elim) ?aF ?aO ?aB ?aS ?aL ?_; (case aP => exact rfl); (case aB => exact (bb_ HB)); (case aF => exact (fun _ _ => trivial)); (case aO => exact (rr_ HO_5)); (case aS => exact (below_size (bb_ HB))); (case aL => have := LMc8.out; omega); intro v190 w9 ho hb hg hat; rw [← Ny189.out] at ho; have n0_ := Aside0.mk (hb); have n1_ := Aside0.mk (ho); clear HB; clear HO_5; have HB := n0_; have HO191 := n1_; clear n0_ n1_; clear ho hb hg hat))
      go_roundg k1
      case measure => have := HK1.out; omega
      case rel => exact ⟨(y189), (wrap64 (x6_1 + 1)), (by first | rfl | (simp; done) | (simp [*]; done)), H', ⟨by have := HK1.out; omega⟩, ⟨rr_ HO191⟩, ⟨by repeat (first | (with_reducible first | exact HB.out | apply below_alloc | apply pw_below_drewN | apply below_drew1) | exact HB.out)⟩⟩
     ·rw [if_neg c8] at H
      exact absurd H (by simp)
    ·replace c7 := Bool.eq_false_iff.mpr c7
     subst c7
     have H1 : (spec_l3Points.l0 k1 l0 a1 x5_1 (wrap64 (x6_1 + 1))) = some r := by rw [if_neg (show ¬ (false = true) by decide)] at H; exact H
     clear H
     have H := H1
     clear H1
     have H' := Aside0.mk H
     clear H
     go_wp2_with (first | (refine goesL_ (some 15) rfl rfl Try.func106 (by kernel_rfl) rfl #[.slice A0 l0.length c0, .int .i64 x6_1, .int .i64 a1] rfl ll_ ?_; (with_reducible refine (spec_l3On.calls _ _ l0 x6_1 a1 false _ ?side1 ?side2 A6.out).mono ?_); (case side1 => exact sb_ HR0 HB); (case side2 => exact HC0.out); rintro e w' ⟨rfl, ⟨nd, rfl⟩⟩; refine ⟨_, rfl, ?_⟩))
     go_roundg k1
     case measure => have := HK1.out; omega
     case rel => exact ⟨(x5_1), (wrap64 (x6_1 + 1)), (by first | rfl | (simp; done) | (simp [*]; done)), H', ⟨by have := HK1.out; omega⟩, ⟨rr_ HO_5⟩, ⟨by repeat (first | (with_reducible first | exact HB.out | apply below_alloc | apply pw_below_drewN | apply below_drew1) | exact HB.out)⟩⟩
   ·rw [if_neg c5] at H
    have c5b0 : decide (x6_1 < 91) = false := decide_eq_false c5
    clear c5
    obtain rfl := Option.some.inj H
    go_wp2
    go_ret
    exact ⟨_, ee_, by (with_reducible repeat (first | apply Kd.R_alloc | apply Kd.R_drewN | apply Kd.R_drew)); exact HO_5.out, bb_ HB⟩
end Go.Proofs.Ytcbkoecanldlpaa.P

set_option linter.unusedVariables false
set_option linter.unusedSimpArgs false
namespace Go.Proofs.Ytcbkoecanldlpaa.X
open Go.RowKit Go.Proofs.YtcbkoecanldlpaaW.PrintWords Go.Proofs.YtcbkoecanldlpaaW.PrintLast Go.Proofs.Ytcbkoecanldlpaa.P

theorem l3In_eq (p : Int) : spec_l3In.f p = some (ptB p) := by
  unfold spec_l3In.f ptB
  rw [l6In_eq]
  show some _ = _
  rw [show decide (p ≤ 90) = decide (p < 91) from decide_eq_decide.2 (by omega)]
theorem l3On_eq {t : List Int} (hn : ninesB t 81 = true) {p l : Int} (hp : In91 p) (hl : In91 l) : spec_l3On.f t p l = some (onB t p l) := by
  obtain ⟨p0, p1⟩ := hp
  obtain ⟨l0, l1⟩ := hl
  have hlen := (ninesB_iff.1 hn).1
  unfold spec_l3On.f onB
  by_cases h90 : l = 90
  · rw [if_pos h90, if_pos h90]
  rw [if_neg h90, if_neg h90]
  by_cases h81 : l ≥ 81
  · rw [if_pos h81, if_pos h81]
    by_cases hp90 : p = 90
    · rw [if_pos hp90, decide_eq_true hp90]; rfl
    · rw [if_neg hp90, decide_eq_false hp90, Bool.false_or]
      by_cases hpn : p < 81
      · rw [if_pos hpn, decide_eq_true hpn, Bool.true_and]
        simp (disch := omega) only [w64, tdiv_nn]
        rfl
      · rw [if_neg hpn, decide_eq_false hpn, Bool.false_and]
  · rw [if_neg h81, if_neg h81]
    by_cases hpf : p ≥ 81
    · rw [if_pos hpf, if_pos hpf]
      simp (disch := omega) only [w64, tdiv_nn]
      refine congrArg some ?_
      rw [show decide (p = 81 + l / 9) = decide (p - 81 = l / 9) from decide_eq_decide.2 (by omega)]
      rfl
    · rw [if_neg hpf, if_neg hpf]
      have hr := nines_rd hn (i := 9 * (p / 9) + l / 9) (by omega) (by omega)
      have ha := spec_l1Add_eq (rd t (9 * (p / 9) + l / 9)) (l % 9) hr ⟨by omega, by omega⟩
      simp (disch := omega) only [w64, tdiv_nn, tmod_nn]
      rw [show p / 9 * 9 = 9 * (p / 9) by omega, if_pos (by omega), if_pos (by omega), ha]
      rfl
theorem l3Join_loop {t : List Int} (hn : ninesB t 81 = true) {p q : Int} (hp : In91 p) (hq : In91 q) (hj : ∃ l : Int, 0 ≤ l ∧ l < 91 ∧ onB t p l = true ∧ onB t q l = true) (d : Nat) : ∀ (i : Int), 0 ≤ i → i + d = 91 → (∀ l : Int, 0 ≤ l → l < i → (onB t p l && onB t q l) = false) → Ev (fun k => spec_l3Join.l0 k t p q i) (joinI t p q) := by
  induction d with
  | zero =>
    intro i h0 h1 h
    obtain ⟨l, l0, l1, a, b⟩ := hj
    have := h l l0 (by omega)
    rw [a, b] at this; exact absurd this (by decide)
  | succ d ih =>
    intro i h0 h1 h
    have e1 := l3On_eq hn hp (l := i) ⟨h0, by omega⟩
    have e2 := l3On_eq hn hq (l := i) ⟨h0, by omega⟩
    refine Ev.step (fun k => by rw [spec_l3Join.l0]) ?_
    simp (disch := omega) only [w64, e1, e2, Option.bind_some]
    refine Ev.pos (by omega) ?_
    have next : (onB t p i && onB t q i) = false → Ev (fun k => spec_l3Join.l0 k t p q (i + 1)) (joinI t p q) := fun hb => ih (i + 1) (by omega) (by omega) fun l l0 l1 => by
      by_cases e : l = i
      · rw [e]; exact hb
      · exact h l l0 (by omega)
    by_cases a : onB t p i = true
    · refine Ev.pos a ?_
      by_cases b : onB t q i = true
      · refine Ev.pos b (Ev.done ?_)
        unfold joinI
        rw [firstI_some i h0 (by omega) (by rw [a, b]; rfl) h]
      · exact Ev.neg b (next (by rw [Bool.eq_false_iff.2 b, Bool.and_false]))
    · exact Ev.neg a (next (by rw [Bool.eq_false_iff.2 a, Bool.false_and]))
theorem l3Join_ev {t : List Int} (h : sysB t = true) {p q : Int} (hp : In91 p) (hq : In91 q) (hne : p ≠ q) : Ev (fun k => spec_l3Join.f k t p q) (joinI t p q) :=
  l3Join_loop (sysB_parts h).1 hp hq (join_ex h hp.1 hp.2 hq.1 hq.2 hne) 91 0 (by omega) (by omega) (fun l h0 h1 => by omega)
end Go.Proofs.Ytcbkoecanldlpaa.X

set_option linter.unusedVariables false
set_option linter.unusedSimpArgs false
namespace Go.Proofs.Ytcbkoecanldlpaa.X
open Go.RowKit Go.Proofs.YtcbkoecanldlpaaW.PrintWords Go.Proofs.YtcbkoecanldlpaaW.PrintLast Go.Proofs.Ytcbkoecanldlpaa.P

theorem l3Three_ev {t : List Int} (hs : sysB t = true) {p q r : Int} (hp : In91 p) (hq : In91 q) (hr : In91 r) (hne : p ≠ q) : Ev (fun k => spec_l3Three.f k t p q r) (onB t r (joinI t p q)) := by
  have hj := joinI_spec hs hp.1 hp.2 hq.1 hq.2 hne
  unfold spec_l3Three.f
  exact Ev.bind (l3Join_ev hs hp hq hne) (Ev.fix (l3On_eq (sysB_parts hs).1 hr ⟨hj.1, hj.2.1⟩) (Ev.done rfl))
theorem l3Apart_l2 {t l : List Int} (hs : sysB t = true) (hl : l.length ≤ 1048576) {i j : Int} (j0 : 0 ≤ j) (ji : j < i) (i1 : i < l.length) (hd : ∀ x : Int, 0 ≤ x → x ≤ i → In91 (rd l x)) (hne : rd l j ≠ rd l i) {r : Bool}
    (hr : pairB t l i j = true → Ev (fun n => spec_l3Apart.l1 n t l i (j + 1)) r) (hf : pairB t l i j = false → r = false) (d : Nat) :
    ∀ k : Int, 0 ≤ k → k + d = j → (∀ z : Int, 0 ≤ z → z < k → tripB t l i j z = true) → Ev (fun n => spec_l3Apart.l2 n t l i j k) r := by
  induction d with
  | zero =>
    intro k k0 k1 h
    refine Ev.step (fun n => by rw [spec_l3Apart.l2]) ?_
    rw [w64 (x := j + 1) (by omega) (by omega)]
    refine Ev.neg (by omega) (hr ?_)
    exact allI_int_iff.2 fun z z0 z1 => h z z0 (by omega)
  | succ d ih =>
    intro k k0 k1 h
    have e1 := l3Three_ev hs (hd i (by omega) (by omega)) (hd j j0 (by omega)) (hd k k0 (by omega)) (fun e => hne e.symm)
    refine Ev.step (fun n => by rw [spec_l3Apart.l2]) ?_
    rw [w64 (x := k + 1) (by omega) (by omega)]
    refine Ev.pos (by omega) (Ev.pos (by omega) (Ev.pos (by omega) (Ev.pos (by omega) (Ev.pos (by omega) (Ev.pos (by omega) (Ev.pos (by omega) (Ev.bind e1 ?_)))))))
    by_cases e : onB t (rd l k) (joinI t (rd l i) (rd l j)) = true
    · refine Ev.pos e (Ev.done ?_)
      rw [hf (allI_false k.toNat (by omega) (by rw [Int.toNat_of_nonneg k0]; unfold tripB; rw [e]; rfl))]
    · refine Ev.neg e (ih (k + 1) (by omega) (by omega) fun z z0 z1 => ?_)
      by_cases ez : z = k
      · rw [ez]; unfold tripB; rw [Bool.eq_false_iff.2 e]; rfl
      · exact h z z0 (by omega)
theorem l3Apart_l1 {t l : List Int} (hs : sysB t = true) (hl : l.length ≤ 1048576) {i : Int} (i0 : 0 ≤ i) (i1 : i < l.length) (hd : ∀ x : Int, 0 ≤ x → x ≤ i → In91 (rd l x)) {r : Bool}
    (hr : (∀ j : Int, 0 ≤ j → j < i → rd l j ≠ rd l i ∧ pairB t l i j = true) → Ev (fun n => spec_l3Apart.l0 n t l (i + 1)) r) (hf : ∀ j : Int, 0 ≤ j → j < i → (rd l j = rd l i ∨ pairB t l i j = false) → r = false) (d : Nat) :
    ∀ j : Int, 0 ≤ j → j + d = i → (∀ y : Int, 0 ≤ y → y < j → rd l y ≠ rd l i ∧ pairB t l i y = true) → Ev (fun n => spec_l3Apart.l1 n t l i j) r := by
  induction d with
  | zero =>
    intro j j0 j1 h
    refine Ev.step (fun n => by rw [spec_l3Apart.l1]) ?_
    rw [w64 (x := i + 1) (by omega) (by omega)]
    exact Ev.neg (by omega) (hr fun y y0 y1 => h y y0 (by omega))
  | succ d ih =>
    intro j j0 j1 h
    refine Ev.step (fun n => by rw [spec_l3Apart.l1]) ?_
    refine Ev.pos (by omega) (Ev.pos (by omega) (Ev.pos (by omega) (Ev.pos (by omega) (Ev.pos (by omega) ?_))))
    by_cases e : rd l j = rd l i
    · exact Ev.pos e (Ev.done (by rw [hf j j0 (by omega) (.inl e)]))
    · refine Ev.neg e (l3Apart_l2 hs hl j0 (by omega) i1 hd e (fun hp => ih (j + 1) (by omega) (by omega) fun y y0 y1 => ?_) (fun hp => hf j j0 (by omega) (.inr hp)) j.toNat 0 (by omega) (by omega) (fun z z0 z1 => by omega))
      by_cases ey : y = j
      · rw [ey]; exact ⟨e, hp⟩
      · exact h y y0 (by omega)
theorem l3Apart_l0 {t l : List Int} (hs : sysB t = true) (hl : l.length ≤ 1048576) (d : Nat) :
    ∀ i : Int, 0 ≤ i → i + d = l.length → (∀ x : Int, 0 ≤ x → x < i → newB l x = true ∧ ∀ y : Int, 0 ≤ y → y < x → pairB t l x y = true) → Ev (fun n => spec_l3Apart.l0 n t l i) (apartP t l) := by
  induction d with
  | zero =>
    intro i i0 i1 h
    refine Ev.step (fun n => by rw [spec_l3Apart.l0]) ?_
    refine Ev.neg (by omega) (Ev.done ?_)
    rw [apart_all (diffB_all fun x x0 x1 => (h x x0 (by omega)).1) fun x y y0 yx x1 => (h x (by omega) (by omega)).2 y y0 yx]
  | succ d ih =>
    intro i i0 i1 h
    refine Ev.step (fun n => by rw [spec_l3Apart.l0]) ?_
    refine Ev.pos (by omega) (Ev.pos i0 (Ev.fix (l3In_eq (rd l i)) ?_))
    by_cases e : ptB (rd l i) = true
    case neg =>
      refine Ev.neg e (Ev.done ?_)
      have : diffB l = false := diffB_hit i0 (by omega) (by unfold newB; rw [Bool.eq_false_iff.2 e]; rfl)
      unfold apartP; rw [this]; rfl
    have hd : ∀ x : Int, 0 ≤ x → x ≤ i → In91 (rd l x) := fun x x0 x1 => by
      by_cases ex : x = i
      · rw [ex]; exact ptB_iff.1 e
      · exact ((newB_iff x0 (by omega)).1 (h x x0 (by omega)).1).1
    refine Ev.pos e (l3Apart_l1 hs hl i0 (by omega) hd (fun hp => ih (i + 1) (by omega) (by omega) fun x x0 x1 => ?_) (fun j j0 ji hor => ?_) i.toNat 0 (by omega) (by omega) (fun y y0 y1 => by omega))
    · by_cases ex : x = i
      · rw [ex]; exact ⟨(newB_iff i0 (by omega)).2 ⟨ptB_iff.1 e, fun j j0 j1 => (hp j j0 j1).1⟩, fun y y0 y1 => (hp y y0 y1).2⟩
      · exact h x x0 (by omega)
    · rcases hor with he | hp
      · have : diffB l = false := diffB_hit i0 (by omega) (Bool.eq_false_iff.2 fun hn => ((newB_iff i0 (by omega)).1 hn).2 j j0 ji he)
        unfold apartP; rw [this]; rfl
      · exact apart_hit (by omega) j0 ji hp
theorem l3Apart_ev {t l : List Int} (hs : sysB t = true) (hl : l.length ≤ 1048576) : Ev (fun n => spec_l3Apart.f n t l) (apartP t l) := l3Apart_l0 hs hl l.length 0 (by omega) (by omega) (fun x x0 x1 => by omega)
theorem planeApart_ev {t l : List Int} (ht : t.length ≤ 1048576) (h4 : l.length = 4) : Ev (fun n => spec_PlaneApart.f n t l) (quadB t l) := by
  unfold spec_PlaneApart.f quadB
  rw [decide_eq_true h4, Bool.true_and]
  refine Ev.bind (SystemIn_ev t ht) ?_
  by_cases hs : sysB t = true
  case neg =>
    rw [Bool.eq_false_iff.2 hs]
    exact Ev.neg (by decide) (Ev.done rfl)
  rw [hs, h4]
  refine Ev.pos rfl (Ev.fix (show spec_l6In.f ((4 : Nat) : Int) 3 20 = some true from rfl) (Ev.pos rfl (Ev.bind (l3Apart_ev hs (by omega)) (Ev.done rfl))))
theorem isQuad_eq {t l : List Int} (hs : sysB t = true) : impl_plane_isQuad.f t l = some (quadB t l) := by
  unfold impl_plane_isQuad.f quadB
  rw [hs, Bool.true_and]
  by_cases h4 : l.length = 4
  · rw [if_pos (by omega), show impl_plane_apart.f t l = some (apartP t l) from if_pos ⟨hs, by omega⟩, decide_eq_true h4, Bool.true_and]; rfl
  · rw [if_neg (by omega), decide_eq_false h4, Bool.false_and]
end Go.Proofs.Ytcbkoecanldlpaa.X

set_option linter.unusedVariables false
set_option linter.unusedSimpArgs false
namespace Go.Proofs.Ytcbkoecanldlpaa.X
open Go.RowKit Go.Proofs.YtcbkoecanldlpaaW.PrintWords Go.Proofs.YtcbkoecanldlpaaW.PrintLast Go.Proofs.Ytcbkoecanldlpaa.P

theorem l3Meet_loop {t : List Int} (hn : ninesB t 81 = true) {l m : Int} (hl : In91 l) (hm : In91 m) (hj : ∃ p : Int, 0 ≤ p ∧ p < 91 ∧ onB t p l = true ∧ onB t p m = true) (d : Nat) : ∀ (i : Int), 0 ≤ i → i + d = 91 → (∀ p : Int, 0 ≤ p → p < i → (onB t p l && onB t p m) = false) → Ev (fun k => spec_l3Meet.l0 k t l m i) (meetI t l m) := by
  induction d with
  | zero =>
    intro i h0 h1 h
    obtain ⟨p, p0, p1, a, b⟩ := hj
    have := h p p0 (by omega)
    rw [a, b] at this; exact absurd this (by decide)
  | succ d ih =>
    intro i h0 h1 h
    have e1 := l3On_eq hn (p := i) ⟨h0, by omega⟩ hl
    have e2 := l3On_eq hn (p := i) ⟨h0, by omega⟩ hm
    refine Ev.step (fun k => by rw [spec_l3Meet.l0]) ?_
    simp (disch := omega) only [w64, e1, e2, Option.bind_some]
    refine Ev.pos (by omega) ?_
    have next : (onB t i l && onB t i m) = false → Ev (fun k => spec_l3Meet.l0 k t l m (i + 1)) (meetI t l m) := fun hb => ih (i + 1) (by omega) (by omega) fun p p0 p1 => by
      by_cases e : p = i
      · rw [e]; exact hb
      · exact h p p0 (by omega)
    by_cases a : onB t i l = true
    · refine Ev.pos a ?_
      by_cases b : onB t i m = true
      · refine Ev.pos b (Ev.done ?_)
        unfold meetI
        rw [firstI_some i h0 (by omega) (by rw [a, b]; rfl) h]
      · exact Ev.neg b (next (by rw [Bool.eq_false_iff.2 b, Bool.and_false]))
    · exact Ev.neg a (next (by rw [Bool.eq_false_iff.2 a, Bool.false_and]))
theorem l3Meet_ev {t : List Int} (h : sysB t = true) {l m : Int} (hl : In91 l) (hm : In91 m) (hne : l ≠ m) : Ev (fun k => spec_l3Meet.f k t l m) (meetI t l m) :=
  l3Meet_loop (sysB_parts h).1 hl hm (meet_ex h hl.1 hl.2 hm.1 hm.2 hne) 91 0 (by omega) (by omega) (fun p h0 h1 => by omega)
end Go.Proofs.Ytcbkoecanldlpaa.X

set_option linter.unusedVariables false
set_option linter.unusedSimpArgs false
namespace Go.Proofs.Ytcbkoecanldlpaa.X
open Go.RowKit Go.Proofs.YtcbkoecanldlpaaW.PrintWords Go.Proofs.YtcbkoecanldlpaaW.PrintLast Go.Proofs.Ytcbkoecanldlpaa.P

def bL (n : Nat) (s : Nat → Bool) : List Bool := (List.range n).map s
theorem bL_length (n : Nat) (s : Nat → Bool) : (bL n s).length = n := by simp [bL]
theorem bL_replicate (n : Nat) : List.replicate n false = bL n (fun _ => false) := by
  unfold bL; rw [List.map_const']; simp
theorem bL_rd {n : Nat} {s : Nat → Bool} (v : Int) (h0 : 0 ≤ v) (h1 : v < n) : rdOf false (bL n s) v = s v.toNat := by
  unfold rdOf bL
  rw [List.getD_eq_getElem?_getD, List.getElem?_map, List.getElem?_range (by omega)]
  rfl
theorem bL_set {n : Nat} {s : Nat → Bool} (v : Int) (b : Bool) : (bL n s).set v.toNat b = bL n (fun x => if x = v.toNat then b else s x) := by
  apply List.ext_getElem?
  intro i
  rw [List.getElem?_set]
  by_cases hi : i < n
  · by_cases hj : v.toNat = i
    · subst hj; simp [bL, hi]
    · simp [bL, hi, hj, Ne.symm hj]
  · by_cases hj : v.toNat = i
    · subst hj; simp [bL, hi]
    · simp [bL, hi, hj]
theorem bL_congr {n : Nat} {s s' : Nat → Bool} (h : ∀ j, j < n → s j = s' j) : bL n s = bL n s' := by
  unfold bL
  exact List.map_congr_left fun j hj => h j (List.mem_range.1 hj)
end Go.Proofs.Ytcbkoecanldlpaa.X

set_option linter.unusedVariables false
set_option linter.unusedSimpArgs false
namespace Go.Proofs.Ytcbkoecanldlpaa.X
open Go.RowKit Go.Proofs.YtcbkoecanldlpaaW.PrintWords Go.Proofs.YtcbkoecanldlpaaW.PrintLast Go.Proofs.Ytcbkoecanldlpaa.P

def cntP (t : List Int) (s : Nat → Bool) (l : Int) (p : Nat) : Nat := cntL t (filI p fun p => s p.toNat) l
theorem cntP_succ (t : List Int) (s : Nat → Bool) (l : Int) (p : Nat) : cntP t s l (p + 1) = cntP t s l p + (if s p = true ∧ onB t (p : Int) l = true then 1 else 0) := by
  unfold cntP cntL
  rw [filI_succ, List.filter_append, List.length_append]
  have hz : ((p : Int)).toNat = p := by omega
  rw [hz]
  by_cases h1 : s p = true
  · by_cases h2 : onB t (p : Int) l = true
    · rw [if_pos h1, if_pos ⟨h1, h2⟩]; simp [h2]
    · rw [if_pos h1, if_neg (fun h => h2 h.2)]; simp [h2]
  · rw [if_neg h1, if_neg (fun h => h1 h.1)]; simp
theorem cntP_le (t : List Int) (s : Nat → Bool) (l : Int) (p : Nat) : cntP t s l p ≤ p := Nat.le_trans (cntL_le _ _ _) (filI_length_le _ _)
theorem l7Lines_l1 {t : List Int} (hn : ninesB t 81 = true) (s : Nat → Bool) (l : Nat) (hl : l < 91)
    (hr : Ev (fun k => spec_l7Lines.l0 k t (bL 91 s) (filI (l + 1) fun l => decide (1 < (cntL t (ptsS s) l : Int))) ((l + 1 : Nat) : Int)) (linesS t s)) (d : Nat) :
    ∀ p : Nat, p + d = 91 → Ev (fun k => spec_l7Lines.l1 k t (bL 91 s) (filI l fun l => decide (1 < (cntL t (ptsS s) l : Int))) (l : Int) (cntP t s l p : Int) (p : Int)) (linesS t s) := by
  have hlen := filI_length_le l fun l => decide (1 < (cntL t (ptsS s) l : Int))
  have zl : wrap64 ((l : Int) + 1) = ((l + 1 : Nat) : Int) := by rw [w64 (by omega) (by omega)]; rfl
  induction d with
  | zero =>
    intro p hp
    have e : p = 91 := by omega
    subst e
    refine Ev.step (fun k => by rw [spec_l7Lines.l1]) ?_
    rw [zl]
    refine Ev.neg (by omega) ?_
    have hc : cntP t s l 91 = cntL t (ptsS s) l := rfl
    rw [filI_succ] at hr
    by_cases h : 1 < (cntL t (ptsS s) (l : Int) : Int)
    · rw [decide_eq_true h, if_pos rfl] at hr
      exact Ev.pos (by rw [hc]; exact h) (Ev.pos (by omega) hr)
    · rw [decide_eq_false h, if_neg (by decide), List.append_nil] at hr
      exact Ev.neg (by rw [hc]; exact h) hr
  | succ d ih =>
    intro p hp
    have nx := ih (p + 1) (by omega)
    rw [cntP_succ] at nx
    have hle := cntP_le t s l p
    have zp : wrap64 ((p : Int) + 1) = ((p + 1 : Nat) : Int) := by rw [w64 (by omega) (by omega)]; rfl
    have zc : wrap64 ((cntP t s l p : Int) + 1) = ((cntP t s l p + 1 : Nat) : Int) := by rw [w64 (by omega) (by omega)]; rfl
    have hb : rdOf false (bL 91 s) (p : Int) = s p := by rw [bL_rd _ (by omega) (by omega)]; rfl
    refine Ev.step (fun k => by rw [spec_l7Lines.l1]) ?_
    rw [zp, zc, hb, bL_length]
    refine Ev.pos (by omega) (Ev.pos (by omega) (Ev.pos (by omega) ?_))
    by_cases h1 : s p = true
    · refine Ev.pos h1 (Ev.fix (l3On_eq hn (p := (p : Int)) (l := (l : Int)) ⟨by omega, by omega⟩ ⟨by omega, by omega⟩) ?_)
      by_cases h2 : onB t (p : Int) (l : Int) = true
      · rw [if_pos ⟨h1, h2⟩] at nx
        exact Ev.pos h2 nx
      · rw [if_neg (fun h => h2 h.2), Nat.add_zero] at nx
        exact Ev.neg h2 nx
    · rw [if_neg (fun h => h1 h.1), Nat.add_zero] at nx
      exact Ev.neg h1 nx
theorem l7Lines_l0 {t : List Int} (hn : ninesB t 81 = true) (s : Nat → Bool) (d : Nat) : ∀ l : Nat, l + d = 91 → Ev (fun k => spec_l7Lines.l0 k t (bL 91 s) (filI l fun l => decide (1 < (cntL t (ptsS s) l : Int))) (l : Int)) (linesS t s) := by
  induction d with
  | zero =>
    intro l hl
    have e : l = 91 := by omega
    subst e
    refine Ev.step (fun k => by rw [spec_l7Lines.l0]) ?_
    exact Ev.neg (by omega) (Ev.done rfl)
  | succ d ih =>
    intro l hl
    refine Ev.step (fun k => by rw [spec_l7Lines.l0]) ?_
    exact Ev.pos (by omega) (l7Lines_l1 hn s l (by omega) (ih (l + 1) (by omega)) 91 0 (by omega))
theorem l7Lines_ev {t : List Int} (hn : ninesB t 81 = true) (s : Nat → Bool) : Ev (fun k => spec_l7Lines.f k t (bL 91 s)) (linesS t s) := l7Lines_l0 hn s 91 0 (by omega)
theorem span_l4 {t : List Int} (s : Nat → Bool) (c : Int) (r : List Int) (hr : Ev (fun k => if ((ptsS s).length : Int) = c then some (ptsS s) else spec_l7Span.l1 k t (bL 91 s) ((ptsS s).length : Int)) r) (d : Nat) :
    ∀ p : Nat, p + d = 91 → Ev (fun k => spec_l7Span.l4 k t (bL 91 s) c (filI p fun p => s p.toNat) (p : Int)) r := by
  induction d with
  | zero =>
    intro p hp
    have e : p = 91 := by omega
    subst e
    refine Ev.step (fun k => by rw [spec_l7Span.l4]) ?_
    exact Ev.neg (by omega) hr
  | succ d ih =>
    intro p hp
    have nx := ih (p + 1) (by omega)
    have hlen := filI_length_le p fun p => s p.toNat
    rw [filI_succ, show ((p : Int)).toNat = p by omega] at nx
    have zp : wrap64 ((p : Int) + 1) = ((p + 1 : Nat) : Int) := by rw [w64 (by omega) (by omega)]; rfl
    have hb : rdOf false (bL 91 s) (p : Int) = s p := by rw [bL_rd _ (by omega) (by omega)]; rfl
    refine Ev.step (fun k => by rw [spec_l7Span.l4]) ?_
    rw [zp, hb, bL_length]
    refine Ev.pos (by omega) (Ev.pos (by omega) (Ev.pos (by omega) ?_))
    by_cases h1 : s p = true
    · rw [if_pos h1] at nx
      exact Ev.pos h1 (Ev.pos (by omega) nx)
    · rw [if_neg h1, List.append_nil] at nx
      exact Ev.neg h1 nx
theorem span_l3 {t : List Int} (hs : sysB t = true) (s : Nat → Bool) (c : Int) (r : List Int) (i : Int) (i0 : 0 ≤ i) (i1 : i < (linesS t s).length)
    (hr : Ev (fun k => spec_l7Span.l2 k t (bL 91 (curS t (linesS t s) s (i + 1) 0)) c (linesS t s) (i + 1)) r) (d : Nat) :
    ∀ k : Int, 0 ≤ k → k + d = i → Ev (fun n => spec_l7Span.l3 n t (bL 91 (curS t (linesS t s) s i k)) c (linesS t s) i k) r := by
  have h91 : (linesS t s).length ≤ 91 := filI_length_le _ _
  induction d with
  | zero =>
    intro k k0 hk
    have e : k = i := by omega
    subst e
    refine Ev.step (fun n => by rw [spec_l7Span.l3]) ?_
    rw [w64 (x := k + 1) (by omega) (by omega)]
    refine Ev.neg (by omega) ?_
    rw [bL_congr fun x _ => (curS_i t (linesS t s) s k0 x).symm]
    exact hr
  | succ d ih =>
    intro k k0 hk
    obtain ⟨p0, p1⟩ := meet_in hs k0 (by omega : k < i) i1
    have hi := linesS_rd (t := t) (s := s) i0 i1
    have hkk := linesS_rd (t := t) (s := s) k0 (by omega)
    have hlt : rd (linesS t s) k < rd (linesS t s) i := filI_lt k0 (by omega) i1
    have nx := ih (k + 1) (by omega) (by omega)
    refine Ev.step (fun n => by rw [spec_l7Span.l3]) ?_
    rw [w64 (x := k + 1) (by omega) (by omega), bL_length]
    refine Ev.pos (by omega) (Ev.pos i0 (Ev.pos i1 (Ev.pos k0 (Ev.pos (by omega) (Ev.bind (l3Meet_ev hs hi hkk (by omega)) (Ev.pos p0 (Ev.pos p1 ?_)))))))
    rw [bL_set, bL_congr fun x _ => (curS_hit t (linesS t s) s i k0 p0 rfl x).symm]
    exact nx
theorem span_l2 {t : List Int} (hs : sysB t = true) (s : Nat → Bool) (c : Int) (r : List Int)
    (hr : Ev (fun k => spec_l7Span.l4 k t (bL 91 (stepS t s)) c [] 0) r) (d : Nat) :
    ∀ i : Int, 0 ≤ i → i + d = (linesS t s).length → Ev (fun k => spec_l7Span.l2 k t (bL 91 (curS t (linesS t s) s i 0)) c (linesS t s) i) r := by
  induction d with
  | zero =>
    intro i i0 hi
    have e : i = ((linesS t s).length : Int) := by omega
    subst e
    refine Ev.step (fun k => by rw [spec_l7Span.l2]) ?_
    refine Ev.neg (by omega) ?_
    rw [bL_congr fun x _ => curS_end t s x]
    exact hr
  | succ d ih =>
    intro i i0 hi
    refine Ev.step (fun k => by rw [spec_l7Span.l2]) ?_
    refine Ev.pos (by omega) (span_l3 hs s c r i i0 (by omega) (ih (i + 1) (by omega) (by omega)) i.toNat 0 (by omega) (by omega))
theorem span_l1 {t : List Int} (hs : sysB t = true) (s0 : Nat → Bool) (m : Nat) : ∀ n c : Nat, n ≤ c → c ≤ sizeS (iterS t s0 n) → 91 - c < m → Ev (fun k => spec_l7Span.l1 k t (bL 91 (iterS t s0 n)) (c : Int)) (spanS t s0) := by
  induction m with
  | zero => intro n c _ _ h; omega
  | succ m ih =>
    intro n c hn hc hm
    have hsz := sizeS_le (iterS t s0 n)
    refine Ev.step (fun k => by rw [spec_l7Span.l1]) ?_
    refine Ev.bind (l7Lines_ev (sysB_parts hs).1 _) ?_
    have e0 : bL 91 (iterS t s0 n) = bL 91 (curS t (linesS t (iterS t s0 n)) (iterS t s0 n) 0 0) := bL_congr fun x _ => (curS_start t _ _ x).symm
    rw [show (fun k => spec_l7Span.l2 k t (bL 91 (iterS t s0 n)) (c : Int) (linesS t (iterS t s0 n)) 0) = fun k => spec_l7Span.l2 k t (bL 91 (curS t (linesS t (iterS t s0 n)) (iterS t s0 n) 0 0)) (c : Int) (linesS t (iterS t s0 n)) 0 by rw [e0]]
    refine span_l2 hs (iterS t s0 n) (c : Int) (spanS t s0) ?_ (linesS t (iterS t s0 n)).length 0 (by omega) (by omega)
    refine span_l4 (stepS t (iterS t s0 n)) (c : Int) (spanS t s0) ?_ 91 0 (by omega)
    have hmono : sizeS (iterS t s0 n) ≤ sizeS (stepS t (iterS t s0 n)) := sizeS_mono fun x _ h => stepS_old t _ x h
    have hsz2 := sizeS_le (stepS t (iterS t s0 n))
    have hlen : (ptsS (stepS t (iterS t s0 n))).length = sizeS (stepS t (iterS t s0 n)) := rfl
    by_cases h : sizeS (stepS t (iterS t s0 n)) = c
    · refine Ev.pos (by rw [hlen]; omega) (Ev.done ?_)
      have heq := sizeS_eq (s := iterS t s0 n) (s' := stepS t (iterS t s0 n)) (fun x _ h => stepS_old t _ x h) (by omega)
      rw [spanS_of (by omega) fun x hx => (heq x hx).symm, ptsS_congr heq]
    · refine Ev.neg (by rw [hlen]; omega) ?_
      rw [hlen]
      exact ih (n + 1) (sizeS (stepS t (iterS t s0 n))) (by omega) (Nat.le_refl _) (by omega)
theorem span_l0 {t : List Int} (hs : sysB t = true) {l : List Int} (hl : l.length ≤ 10) (hp : ∀ x ∈ l, In91 x) (d : Nat) : ∀ i : Int, 0 ≤ i → i + d = l.length → Ev (fun k => spec_l7Span.l0 k t l (bL 91 (inL (l.take i.toNat))) 0 i) (spanS t (inL l)) := by
  induction d with
  | zero =>
    intro i i0 hi
    refine Ev.step (fun k => by rw [spec_l7Span.l0]) ?_
    refine Ev.neg (by omega) ?_
    rw [List.take_of_length_le (by omega)]
    have h1 := span_l1 hs (inL l) 92 0 0 (Nat.le_refl 0) (Nat.zero_le (sizeS (iterS t (inL l) 0))) (by decide)
    have h2 : iterS t (inL l) 0 = inL l := rfl
    rw [h2] at h1
    exact h1
  | succ d ih =>
    intro i i0 hi
    obtain ⟨p0, p1⟩ := hp _ (rd_mem (i := i) (by omega) i0)
    refine Ev.step (fun k => by rw [spec_l7Span.l0]) ?_
    rw [w64 (x := i + 1) (by omega) (by omega), bL_length]
    refine Ev.pos (by omega) (Ev.pos i0 (Ev.pos p0 (Ev.pos p1 ?_)))
    rw [bL_set, bL_congr fun x _ => (inL_take i0 (by omega) p0 x).symm]
    exact ih (i + 1) (by omega) (by omega)
theorem l7Span_ev {t : List Int} (hs : sysB t = true) {l : List Int} (hl : l.length ≤ 10) (hp : ∀ x ∈ l, In91 x) : Ev (fun k => spec_l7Span.f k t l) (spanS t (inL l)) := by
  unfold spec_l7Span.f
  refine Ev.pos (by omega) ?_
  have := span_l0 hs hl hp l.length 0 (by omega) (by omega)
  rw [show bL 91 (inL (l.take (0 : Int).toNat)) = bL 91 fun _ => false from bL_congr fun x _ => by simp [inL]] at this
  rw [bL_replicate]
  exact this
end Go.Proofs.Ytcbkoecanldlpaa.X

namespace Go.Proofs.Ytcbkoecanldlpaa.P
open Go.RowKit Go.Proofs.YtcbkoecanldlpaaW.PrintWords Go.Proofs.YtcbkoecanldlpaaW.PrintLast
set_option linter.unusedVariables false
set_option linter.unusedSimpArgs false

mutual
def spec_SpanOrder.j0 : Nat → List Int → List Int → Bool → Option (Int × Bool)
 | 0, _, _, _ => none
 | k + 1, x0, x1, x18 => if x18 = true then (some (0, false)) else ((spec_l7Span.f k x0 x1).bind fun t1174 => (if 0 < (x1.length : Int) then (if 1 < (x1.length : Int) then ((spec_l3Join.f k x0 (rd x1 0) (rd x1 1)).bind fun t1179 => (spec_SpanOrder.l0 k x0 t1174 t1179 0 0)) else (none)) else (none)))
def spec_SpanOrder.l0 : Nat → List Int → List Int → Int → Int → Int → Option (Int × Bool)
 | 0, _, _, _, _, _ => none
 | k + 1, x0, x6, x7, x8, x9 => if x9 < (x6.length : Int) then (if 0 ≤ x9 then ((spec_l3On.f x0 (rd x6 x9) x7).bind fun t1181 => (if t1181 = true then (spec_SpanOrder.l0 k x0 x6 x7 (wrap64 (x8 + 1)) (wrap64 (x9 + 1))) else (spec_SpanOrder.l0 k x0 x6 x7 x8 (wrap64 (x9 + 1))))) else (none)) else (some (wrap64 (x8 - 1), true))
end
def spec_SpanOrder.f (k : Nat) (l0 : List Int) (l1 : List Int) : Option (Int × Bool) := if (l1.length : Int) = 4 then ((spec_PlaneApart.f k l0 l1).bind fun t1173 => (spec_SpanOrder.j0 k l0 l1 (!t1173))) else (spec_SpanOrder.j0 k l0 l1 true)
set_option maxHeartbeats 8000000 in
set_option maxRecDepth 100000 in
theorem spec_SpanOrder.calls (k : Nat) (A0 : Option Addr) (c0 : Nat) (l0 : List Int) (A1 : Option Addr) (c1 : Nat) (l1 : List Int) (r1 : Int) (r2 : Bool) (w : World) (hr0 : Kd.C (Kd.int .i64) w A0 l0.length l0) (hc0 : l0.length ≤ c0) (hr1 : Kd.C (Kd.int .i64) w A1 l1.length l1) (hc1 : l1.length ≤ c1) (h : spec_SpanOrder.f k l0 l1 = some (r1, r2)) :
  Calls Try.prog 52 #[.slice A0 l0.length c0, .slice A1 l1.length c1] w fun e w' => e = .returned (.tuple #[.int .i64 r1, .bool r2]) ∧ Below w.heap.size w w' := by
 have HR0 := Aside0.mk hr0
 have HC0 := Aside0.mk hc0
 clear hr0 hc0
 have HR1 := Aside0.mk hr1
 have HC1 := Aside0.mk hc1
 clear hr1 hc1
 have HB := Aside0.mk (Below.refl w.heap.size w)
 have H : (if (l1.length : Int) = 4 then ((spec_PlaneApart.f k l0 l1).bind fun t1173 => (spec_SpanOrder.j0 k l0 l1 (!t1173))) else (spec_SpanOrder.j0 k l0 l1 true)) = some (r1, r2) := h
 clear h
 have HC3 := Aside0.mk H
 clear H
 go_enter Try.func52, Try.ntmps52
 go_upto_region 1 with (fail)
 repeat (go_quiet (fail); go_upto_region 1 with (fail))
 go_cut [18] (fun v18 wc => ∃ (kq : Nat) (x18_2 : Bool), v18 = .bool x18_2 ∧ Aside0 (spec_SpanOrder.j0 kq l0 l1 x18_2 = some (r1, r2)) ∧ Aside0 (kq ≤ k) ∧ Aside0 (Below w.heap.size w wc))
 case first =>
  have H := HC3.out
  clear HC3
  by_cases c4 : (l1.length : Int) = 4
  ·rw [if_pos c4] at H
   have c4b0 : ((l1.length : Int) == 4) = true := beq_iff_eq.mpr c4
   have c4b1 : ((l1.length : Int) != 4) = false := bne_eq_false_iff_eq.mpr c4
   clear c4
   (first | rw [c4b0] | (simp only [i64_w, i32_w]; rw [c4b0]) | skip)
   replace H := Option.bind_eq_some_iff.mp H
   obtain ⟨t1173, A50, H⟩ := H
   replace H : (spec_SpanOrder.j0 k l0 l1 (!t1173)) = some (r1, r2) := H
   have A5 := Aside0.mk A50
   clear A50
   have H' := Aside0.mk H
   clear H
   go_wp2_with (first | (go_at_call 94; (with_reducible refine (spec_PlaneApart.calls k _ _ l0 _ _ l1 t1173 _ ?side1 ?side2 ?side3 ?side4 A5.out).mono ?_); (case side1 => exact sb_ HR0 HB); (case side2 => exact HC0.out); (case side3 => exact sb_ HR1 HB); (case side4 => exact HC1.out); rintro e w6 ⟨rfl, hb⟩; have n0_ := Aside0.mk (below_step (bb_ HB) hb); clear HB; have HB := n0_; clear n0_; (try clear hb); (try clear hb2); (try clear hk); (try clear hi)))
   repeat (go_quiet (first | (go_at_call 94; (with_reducible refine (spec_PlaneApart.calls k _ _ l0 _ _ l1 t1173 _ ?side1 ?side2 ?side3 ?side4 A5.out).mono ?_); (case side1 => exact sb_ HR0 HB); (case side2 => exact HC0.out); (case side3 => exact sb_ HR1 HB); (case side4 => exact HC1.out); rintro e w6 ⟨rfl, hb⟩; have n0_ := Aside0.mk (below_step (bb_ HB) hb); clear HB; have HB := n0_; clear n0_; (try clear hb); (try clear hb2); (try clear hk); (try clear hi))); try go_wp2_with (first | (go_at_call 94; (with_reducible refine (spec_PlaneApart.calls k _ _ l0 _ _ l1 t1173 _ ?side1 ?side2 ?side3 ?side4 A5.out).mono ?_); (case side1 => exact sb_ HR0 HB); (case side2 => exact HC0.out); (case side3 => exact sb_ HR1 HB); (case side4 => exact HC1.out); rintro e w6 ⟨rfl, hb⟩; have n0_ := Aside0.mk (below_step (bb_ HB) hb); clear HB; have HB := n0_; clear n0_; (try clear hb); (try clear hb2); (try clear hk); (try clear hi))))
   go_meet
   case rel => exact ⟨_, (!t1173), (by first | rfl | (simp; done) | (simp [*]; done)), H', ⟨by first | omega | exact Nat.le_refl _⟩, ⟨by repeat (first | (with_reducible first | exact HB.out | apply below_alloc | apply pw_below_drewN | apply below_drew1) | exact HB.out)⟩⟩
  ·rw [if_neg c4] at H
   have c4b0 : ((l1.length : Int) == 4) = false := beq_eq_false_iff_ne.mpr c4
   have c4b1 : ((l1.length : Int) != 4) = true := bne_iff_ne.mpr c4
   (first | rw [c4b0] | (simp only [i64_w, i32_w]; rw [c4b0]) | skip)
   have H' := Aside0.mk H
   clear H
   go_wp2
   repeat (go_quiet (fail); try go_wp2)
   go_meet
   case rel => exact ⟨_, (true), (by first | rfl | (simp; done) | (simp [*]; done)), H', ⟨by first | omega | exact Nat.le_refl _⟩, ⟨by repeat (first | (with_reducible first | exact HB.out | apply below_alloc | apply pw_below_drewN | apply below_drew1) | exact HB.out)⟩⟩
 case rest =>
  clear HC3
  try clear c1
  try clear p2
  try clear c4
  try clear c4b0
  try clear c4b1
  try clear c5
  obtain ⟨kq, x18_2, rfl, HA, HJ2, HB⟩ := hcut
  cases kq with
  | zero => exact absurd HA.out (by simp [spec_SpanOrder.j0])
  | succ kj2 =>
   have H := HA.out
   clear HA
   simp only [spec_SpanOrder.j0] at H
   by_cases c7 : x18_2 = true
   ·subst c7
    have H1 : (some (0, false)) = some (r1, r2) := by rw [if_pos rfl] at H; exact H
    clear H
    have H := H1
    clear H1
    simp only [Option.some.injEq, Prod.mk.injEq] at H
    obtain ⟨rfl, rfl⟩ := H
    go_wp2
    repeat (go_quiet (fail); try go_wp2)
    go_ret2
    exact ⟨ee_, bb_ HB⟩
   ·replace c7 := Bool.eq_false_iff.mpr c7
    subst c7
    have H1 : ((spec_l7Span.f kj2 l0 l1).bind fun t1174 => (if 0 < (l1.length : Int) then (if 1 < (l1.length : Int) then ((spec_l3Join.f kj2 l0 (rd l1 0) (rd l1 1)).bind fun t1179 => (spec_SpanOrder.l0 kj2 l0 t1174 t1179 0 0)) else (none)) else (none))) = some (r1, r2) := by rw [if_neg (show ¬ (false = true) by decide)] at H; exact H
    clear H
    have H := H1
    clear H1
    replace H := Option.bind_eq_some_iff.mp H
    obtain ⟨t1174, A80, H⟩ := H
    replace H : (if 0 < (l1.length : Int) then (if 1 < (l1.length : Int) then ((spec_l3Join.f kj2 l0 (rd l1 0) (rd l1 1)).bind fun t1179 => (spec_SpanOrder.l0 kj2 l0 t1174 t1179 0 0)) else (none)) else (none)) = some (r1, r2) := H
    have A8 := Aside0.mk A80
    clear A80
    by_cases c9 : 0 < (l1.length : Int)
    ·rw [if_pos c9] at H
     have c9b0 : decide (0 < (l1.length : Int)) = true := decide_eq_true c9
     have c9b1 : decide (0 < l1.length) = true := decide_eq_true (by omega)
     clear c9
     by_cases c10 : 1 < (l1.length : Int)
     ·rw [if_pos c10] at H
      have c10b0 : decide (1 < (l1.length : Int)) = true := decide_eq_true c10
      have c10b1 : decide (1 < l1.length) = true := decide_eq_true (by omega)
      clear c10
      replace H := Option.bind_eq_some_iff.mp H
      obtain ⟨t1179, A110, H⟩ := H
      replace H : (spec_SpanOrder.l0 kj2 l0 t1174 t1179 0 0) = some (r1, r2) := H
      have A11 := Aside0.mk A110
      clear A110
      have H' := Aside0.mk H
      clear H
      go_wp2_with (first | (go_at_call 84; (with_reducible refine (spec_l7Span.calls kj2 _ _ l0 _ _ l1 t1174 _ ?side1 ?side2 ?side3 ?side4 A8.out).mono ?_); (case side1 => exact sb_ HR0 HB); (case side2 => exact HC0.out); (case side3 => exact sb_ HR1 HB); (case side4 => exact HC1.out); rintro e w12 ⟨v1175, rfl, ho0, hb⟩; have n0_ := Aside0.mk (Kd.R_lower ho0 (below_size (bb_ HB))); have n1_ := Aside0.mk (below_step (bb_ HB) hb); clear HB; have HO1176 := n0_; have HB := n1_; clear n0_ n1_; (try clear hb); (try clear hb2); (try clear hk); (try clear hi); (try clear ho0); have p1177 : 0 ≤ (0 : Int) := (by omega); have q1177 : 0 < (l1.length : Int) := dd_; obtain ⟨ad1177, e1177, hx1177_0⟩ := Kd.at_int HR1.out 0 p1177 q1177; cases e1177; have qi1177 : (0 < l1.length) = True := eq_true (by omega); (try rw [show ((0 : Int)).toNat = 0 from rfl] at hx1177_0); (try rw [Addr.add_zero'] at hx1177_0); replace hx1177_0 := hc_ HB hx1177_0; replace p1177 := eq_true p1177; replace q1177 := eq_true q1177; have p1178 : 0 ≤ (1 : Int) := (by omega); have q1178 : 1 < (l1.length : Int) := dd_; obtain ⟨ad1178, e1178, hx1178_0⟩ := Kd.at_int HR1.out 1 p1178 q1178; obtain rfl : ad1177 = ad1178 := (by injection e1178); (try simp only [show (1 : Int).toNat = 1 from rfl, Nat.reduceMul, Nat.reduceEqDiff, Go.Addr.add, ↓reduceIte] at hx1178_0); have qi1178 : (1 < l1.length) = True := eq_true (by omega); (try rw [show ((1 : Int)).toNat = 1 from rfl] at hx1178_0); replace hx1178_0 := hc_ HB hx1178_0; replace p1178 := eq_true p1178; replace q1178 := eq_true q1178) | (go_at_call 66; (with_reducible refine (spec_l3Join.calls kj2 _ _ l0 (rd l1 0) (rd l1 1) t1179 _ ?side1 ?side2 A11.out).mono ?_); (case side1 => exact sb_ HR0 HB); (case side2 => exact HC0.out); rintro e w' ⟨rfl, ⟨nd, rfl⟩⟩; (try first | exact ⟨rfl, _, World.drewN_drewN _ _ _⟩ | exact ⟨rfl, _, Eq.trans (World.drewN_drewN _ _ _) (congrArg (World.drewN _) (Nat.add_assoc _ _ _))⟩)))
      repeat (go_quiet (first | (go_at_call 84; (with_reducible refine (spec_l7Span.calls kj2 _ _ l0 _ _ l1 t1174 _ ?side1 ?side2 ?side3 ?side4 A8.out).mono ?_); (case side1 => exact sb_ HR0 HB); (case side2 => exact HC0.out); (case side3 => exact sb_ HR1 HB); (case side4 => exact HC1.out); rintro e w12 ⟨v1175, rfl, ho0, hb⟩; have n0_ := Aside0.mk (Kd.R_lower ho0 (below_size (bb_ HB))); have n1_ := Aside0.mk (below_step (bb_ HB) hb); clear HB; have HO1176 := n0_; have HB := n1_; clear n0_ n1_; (try clear hb); (try clear hb2); (try clear hk); (try clear hi); (try clear ho0); have p1177 : 0 ≤ (0 : Int) := (by omega); have q1177 : 0 < (l1.length : Int) := dd_; obtain ⟨ad1177, e1177, hx1177_0⟩ := Kd.at_int HR1.out 0 p1177 q1177; cases e1177; have qi1177 : (0 < l1.length) = True := eq_true (by omega); (try rw [show ((0 : Int)).toNat = 0 from rfl] at hx1177_0); (try rw [Addr.add_zero'] at hx1177_0); replace hx1177_0 := hc_ HB hx1177_0; replace p1177 := eq_true p1177; replace q1177 := eq_true q1177; have p1178 : 0 ≤ (1 : Int) := (by omega); have q1178 : 1 < (l1.length : Int) := dd_; obtain ⟨ad1178, e1178, hx1178_0⟩ := Kd.at_int HR1.out 1 p1178 q1178; obtain rfl : ad1177 = ad1178 := (by injection e1178); (try simp only [show (1 : Int).toNat = 1 from rfl, Nat.reduceMul, Nat.reduceEqDiff, Go.Addr.add, ↓reduceIte] at hx1178_0); have qi1178 : (1 < l1.length) = True := eq_true (by omega); (try rw [show ((1 : Int)).toNat = 1 from rfl] at hx1178_0); replace hx1178_0 := hc_ HB hx1178_0; replace p1178 := eq_true p1178; replace q1178 := eq_true q1178) | (go_at_call 66; (with_reducible refine (spec_l3Join.calls kj2 _ _ l0 (rd l1 0) (rd l1 1) t1179 _ ?side1 ?side2 A11.out).mono ?_); (case side1 => exact sb_ HR0 HB); (case side2 => exact HC0.out); rintro e w' ⟨rfl, ⟨nd, rfl⟩⟩; (try first | exact ⟨rfl, _, World.drewN_drewN _ _ _⟩ | exact ⟨rfl, _, Eq.trans (World.drewN_drewN _ _ _) (congrArg (World.drewN _) (Nat.add_assoc _ _ _))⟩))); try go_wp2_with (first | (go_at_call 84; (with_reducible refine (spec_l7Span.calls kj2 _ _ l0 _ _ l1 t1174 _ ?side1 ?side2 ?side3 ?side4 A8.out).mono ?_); (case side1 => exact sb_ HR0 HB); (case side2 => exact HC0.out); (case side3 => exact sb_ HR1 HB); (case side4 => exact HC1.out); rintro e w12 ⟨v1175, rfl, ho0, hb⟩; have n0_ := Aside0.mk (Kd.R_lower ho0 (below_size (bb_ HB))); have n1_ := Aside0.mk (below_step (bb_ HB) hb); clear HB; have HO1176 := n0_; have HB := n1_; clear n0_ n1_; (try clear hb); (try clear hb2); (try clear hk); (try clear hi); (try clear ho0); have p1177 : 0 ≤ (0 : Int) := (by omega); have q1177 : 0 < (l1.length : Int) := dd_; obtain ⟨ad1177, e1177, hx1177_0⟩ := Kd.at_int HR1.out 0 p1177 q1177; cases e1177; have qi1177 : (0 < l1.length) = True := eq_true (by omega); (try rw [show ((0 : Int)).toNat = 0 from rfl] at hx1177_0); (try rw [Addr.add_zero'] at hx1177_0); replace hx1177_0 := hc_ HB hx1177_0; replace p1177 := eq_true p1177; replace q1177 := eq_true q1177; have p1178 : 0 ≤ (1 : Int) := (by omega); have q1178 : 1 < (l1.length : Int) := dd_; obtain ⟨ad1178, e1178, hx1178_0⟩ := Kd.at_int HR1.out 1 p1178 q1178; obtain rfl : ad1177 = ad1178 := (by injection e1178); (try simp only [show (1 : Int).toNat = 1 from rfl, Nat.reduceMul, Nat.reduceEqDiff, Go.Addr.add, ↓reduceIte] at hx1178_0); have qi1178 : (1 < l1.length) = True := eq_true (by omega); (try rw [show ((1 : Int)).toNat = 1 from rfl] at hx1178_0); replace hx1178_0 := hc_ HB hx1178_0; replace p1178 := eq_true p1178; replace q1178 := eq_true q1178) | (go_at_call 66; (with_reducible refine (spec_l3Join.calls kj2 _ _ l0 (rd l1 0) (rd l1 1) t1179 _ ?side1 ?side2 A11.out).mono ?_); (case side1 => exact sb_ HR0 HB); (case side2 => exact HC0.out); rintro e w' ⟨rfl, ⟨nd, rfl⟩⟩; (try first | exact ⟨rfl, _, World.drewN_drewN _ _ _⟩ | exact ⟨rfl, _, Eq.trans (World.drewN_drewN _ _ _) (congrArg (World.drewN _) (Nat.add_assoc _ _ _))⟩))))
      go_loopg [8, 9] kj2 (fun kq v8 v9 w' => ∃ (x8_2 : Int) (x9_2 : Int), v8 = .int .i64 x8_2 ∧ v9 = .int .i64 x9_2 ∧ Aside0 (spec_SpanOrder.l0 kq l0 t1174 t1179 x8_2 x9_2 = some (r1, r2)) ∧ Aside0 (kq ≤ kj2) ∧ Aside0 (Kd.R (Kd.int .i64) 3 w' w.heap.size (fun _ => True) v1175 t1174) ∧ Aside0 (Below w.heap.size w w'))
      case atStart => exact ⟨(0), (0), (by first | rfl | (simp; done) | (simp [*]; done)), (by first | rfl | (simp; done) | (simp [*]; done)), H', ⟨Nat.le_refl _⟩, ⟨rr_ HO1176⟩, ⟨by repeat (first | (with_reducible first | exact HB.out | apply below_alloc | apply pw_below_drewN | apply below_drew1) | exact HB.out)⟩⟩
      case round =>
       clear H'
       try clear c1
       try clear p1
       try clear q1
       try clear hx1
       try clear qi1
       try clear p2
       try clear c4
       try clear c4b0
       try clear c4b1
       try clear c5
       try clear c7
       try clear c9
       try clear c9b0
       try clear c9b1
       try clear c10
       try clear c10b0
       try clear c10b1
       try clear p11
       try clear q11
       try clear hx11
       try clear qi11
       try clear hx1177_0
       try clear hx1178_0
       try clear p1177
       try clear p1178
       try clear p2
       try clear q1177
       try clear q1178
       obtain ⟨x8_2, x9_2, rfl, rfl, HA, HK2, HO_6, HB⟩ := hrel
       cases gk with
       | zero => exact absurd HA.out (by simp [spec_SpanOrder.l0])
       | succ k2 =>
        have H := HA.out
        clear HA
        simp only [spec_SpanOrder.l0] at H
        by_cases c13 : x9_2 < (t1174.length : Int)
        ·rw [if_pos c13] at H
         have c13b0 : decide (x9_2 < (t1174.length : Int)) = true := decide_eq_true c13
         clear c13
         by_cases c14 : 0 ≤ x9_2
         ·rw [if_pos c14] at H
          have c14b0 : decide (0 ≤ x9_2) = true := decide_eq_true c14
          clear c14
          replace H := Option.bind_eq_some_iff.mp H
          obtain ⟨t1181, A150, H⟩ := H
          replace H : (if t1181 = true then (spec_SpanOrder.l0 k2 l0 t1174 t1179 (wrap64 (x8_2 + 1)) (wrap64 (x9_2 + 1))) else (spec_SpanOrder.l0 k2 l0 t1174 t1179 x8_2 (wrap64 (x9_2 + 1)))) = some (r1, r2) := H
          have A15 := Aside0.mk A150
          clear A150
          by_cases c16 : t1181 = true
          ·subst c16
           have H1 : (spec_SpanOrder.l0 k2 l0 t1174 t1179 (wrap64 (x8_2 + 1)) (wrap64 (x9_2 + 1))) = some (r1, r2) := by rw [if_pos rfl] at H; exact H
           clear H
           have H := H1
           clear H1
           have H' := Aside0.mk H
           clear H
           obtain ⟨Ao17, co17, eo17⟩ := Kd.R_slice HO_6.out
           subst eo17
           have p1180 : 0 ≤ (x9_2 : Int) := dd_
           have q1180 : x9_2 < (t1174.length : Int) := dd_
           obtain ⟨ad1180, e1180, hx1180_0⟩ := Kd.at_int (Kd.R_reads' HO_6.out).2.2 x9_2 p1180 q1180
           cases e1180
           replace p1180 := eq_true p1180
           replace q1180 := eq_true q1180
           go_wp2_with (first | (go_at_call 106; (with_reducible refine (spec_l3On.calls _ _ l0 (rd t1174 x9_2) t1179 true _ ?side1 ?side2 A15.out).mono ?_); (case side1 => exact sb_ HR0 HB); (case side2 => exact HC0.out); rintro e w' ⟨rfl, ⟨nd, rfl⟩⟩; (try first | exact ⟨rfl, _, World.drewN_drewN _ _ _⟩ | exact ⟨rfl, _, Eq.trans (World.drewN_drewN _ _ _) (congrArg (World.drewN _) (Nat.add_assoc _ _ _))⟩)))
           repeat (go_quiet (first | (go_at_call 106; (with_reducible refine (spec_l3On.calls _ _ l0 (rd t1174 x9_2) t1179 true _ ?side1 ?side2 A15.out).mono ?_); (case side1 => exact sb_ HR0 HB); (case side2 => exact HC0.out); rintro e w' ⟨rfl, ⟨nd, rfl⟩⟩; (try first | exact ⟨rfl, _, World.drewN_drewN _ _ _⟩ | exact ⟨rfl, _, Eq.trans (World.drewN_drewN _ _ _) (congrArg (World.drewN _) (Nat.add_assoc _ _ _))⟩))); try go_wp2_with (first | (go_at_call 106; (with_reducible refine (spec_l3On.calls _ _ l0 (rd t1174 x9_2) t1179 true _ ?side1 ?side2 A15.out).mono ?_); (case side1 => exact sb_ HR0 HB); (case side2 => exact HC0.out); rintro e w' ⟨rfl, ⟨nd, rfl⟩⟩; (try first | exact ⟨rfl, _, World.drewN_drewN _ _ _⟩ | exact ⟨rfl, _, Eq.trans (World.drewN_drewN _ _ _) (congrArg (World.drewN _) (Nat.add_assoc _ _ _))⟩))))
           go_roundg k2
           case measure => have := HJ2.out; have := HK2.out; omega
           case rel => exact ⟨(wrap64 (x8_2 + 1)), (wrap64 (x9_2 + 1)), (by first | rfl | (simp; done) | (simp [*]; done)), (by first | rfl | (simp; done) | (simp [*]; done)), H', ⟨by have := HJ2.out; have := HK2.out; omega⟩, ⟨rr_ HO_6⟩, ⟨by repeat (first | (with_reducible first | exact HB.out | apply below_alloc | apply pw_below_drewN | apply below_drew1) | exact HB.out)⟩⟩
          ·replace c16 := Bool.eq_false_iff.mpr c16
           subst c16
           have H1 : (spec_SpanOrder.l0 k2 l0 t1174 t1179 x8_2 (wrap64 (x9_2 + 1))) = some (r1, r2) := by rw [if_neg (show ¬ (false = true) by decide)] at H; exact H
           clear H
           have H := H1
           clear H1
           have H' := Aside0.mk H
           clear H
           obtain ⟨Ao18, co18, eo18⟩ := Kd.R_slice HO_6.out
           subst eo18
           have p1180 : 0 ≤ (x9_2 : Int) := dd_
           have q1180 : x9_2 < (t1174.length : Int) := dd_
           obtain ⟨ad1180, e1180, hx1180_0⟩ := Kd.at_int (Kd.R_reads' HO_6.out).2.2 x9_2 p1180 q1180
           cases e1180
           replace p1180 := eq_true p1180
           replace q1180 := eq_true q1180
           go_wp2_with (first | (go_at_call 106; (with_reducible refine (spec_l3On.calls _ _ l0 (rd t1174 x9_2) t1179 false _ ?side1 ?side2 A15.out).mono ?_); (case side1 => exact sb_ HR0 HB); (case side2 => exact HC0.out); rintro e w' ⟨rfl, ⟨nd, rfl⟩⟩; (try first | exact ⟨rfl, _, World.drewN_drewN _ _ _⟩ | exact ⟨rfl, _, Eq.trans (World.drewN_drewN _ _ _) (congrArg (World.drewN _) (Nat.add_assoc _ _ _))⟩)))
           repeat (go_quiet (first | (go_at_call 106; (with_reducible refine (spec_l3On.calls _ _ l0 (rd t1174 x9_2) t1179 false _ ?side1 ?side2 A15.out).mono ?_); (case side1 => exact sb_ HR0 HB); (case side2 => exact HC0.out); rintro e w' ⟨rfl, ⟨nd, rfl⟩⟩; (try first | exact ⟨rfl, _, World.drewN_drewN _ _ _⟩ | exact ⟨rfl, _, Eq.trans (World.drewN_drewN _ _ _) (congrArg (World.drewN _) (Nat.add_assoc _ _ _))⟩))); try go_wp2_with (first | (go_at_call 106; (with_reducible refine (spec_l3On.calls _ _ l0 (rd t1174 x9_2) t1179 false _ ?side1 ?side2 A15.out).mono ?_); (case side1 => exact sb_ HR0 HB); (case side2 => exact HC0.out); rintro e w' ⟨rfl, ⟨nd, rfl⟩⟩; (try first | exact ⟨rfl, _, World.drewN_drewN _ _ _⟩ | exact ⟨rfl, _, Eq.trans (World.drewN_drewN _ _ _) (congrArg (World.drewN _) (Nat.add_assoc _ _ _))⟩))))
           go_roundg k2
           case measure => have := HJ2.out; have := HK2.out; omega
           case rel => exact ⟨(x8_2), (wrap64 (x9_2 + 1)), (by first | rfl | (simp; done) | (simp [*]; done)), (by first | rfl | (simp; done) | (simp [*]; done)), H', ⟨by have := HJ2.out; have := HK2.out; omega⟩, ⟨rr_ HO_6⟩, ⟨by repeat (first | (with_reducible first | exact HB.out | apply below_alloc | apply pw_below_drewN | apply below_drew1) | exact HB.out)⟩⟩
         ·rw [if_neg c14] at H
          exact absurd H (by simp)
        ·rw [if_neg c13] at H
         have c13b0 : decide (x9_2 < (t1174.length : Int)) = false := decide_eq_false c13
         clear c13
         simp only [Option.some.injEq, Prod.mk.injEq] at H
         obtain ⟨rfl, rfl⟩ := H
         obtain ⟨Ao19, co19, eo19⟩ := Kd.R_slice HO_6.out
         subst eo19
         go_wp2
         repeat (go_quiet (fail); try go_wp2)
         go_ret2
         exact ⟨ee_, bb_ HB⟩
     ·rw [if_neg c10] at H
      exact absurd H (by simp)
    ·rw [if_neg c9] at H
     exact absurd H (by simp)
end Go.Proofs.Ytcbkoecanldlpaa.P

namespace Go.Proofs.Ytcbkoecanldlpaa.P
open Go.RowKit Go.Proofs.YtcbkoecanldlpaaW.PrintWords Go.Proofs.YtcbkoecanldlpaaW.PrintLast
set_option linter.unusedVariables false
set_option linter.unusedSimpArgs false

mutual
def impl_SpanOrder.j0 : Nat → List Int → List Int → Bool → Option (Int × Bool)
 | 0, _, _, _ => none
 | k + 1, x0, x1, x18 => if x18 = true then (some (0, false)) else (if 0 < (x1.length : Int) then (if 1 < (x1.length : Int) then ((impl_plane_join.f k x0 (rd x1 0) (rd x1 1)).bind fun t1167 => ((impl_plane_span.f x0 x1).bind fun t1168 => (impl_SpanOrder.l0 k x0 t1167 (-1) t1168 (t1168.length : Int) 0))) else (none)) else (none))
def impl_SpanOrder.l0 : Nat → List Int → Int → Int → List Int → Int → Int → Option (Int × Bool)
 | 0, _, _, _, _, _, _ => none
 | k + 1, x0, x6, x7, x29, x30, x31 => if x31 < x30 then (if 0 ≤ x31 then (if x31 < (x29.length : Int) then ((impl_plane_on.f x0 (rd x29 x31) x6).bind fun t1172 => (if t1172 = true then (impl_SpanOrder.l0 k x0 x6 (wrap64 (x7 + 1)) x29 x30 (wrap64 (x31 + 1))) else (impl_SpanOrder.l0 k x0 x6 x7 x29 x30 (wrap64 (x31 + 1))))) else (none)) else (none)) else (some (x7, true))
end
def impl_SpanOrder.f (k : Nat) (l0 : List Int) (l1 : List Int) : Option (Int × Bool) := (impl_isSystem.f l0).bind fun t1163 => (if t1163 = true then ((impl_plane_isQuad.f l0 l1).bind fun t1164 => (impl_SpanOrder.j0 k l0 l1 (!t1164))) else (impl_SpanOrder.j0 k l0 l1 true))
set_option maxHeartbeats 8000000 in
set_option maxRecDepth 100000 in
theorem impl_SpanOrder.calls (k : Nat) (A0 : Option Addr) (c0 : Nat) (l0 : List Int) (A1 : Option Addr) (c1 : Nat) (l1 : List Int) (r1 : Int) (r2 : Bool) (w : World) (hr0 : Kd.C (Kd.int .i64) w A0 l0.length l0) (hc0 : l0.length ≤ c0) (hr1 : Kd.C (Kd.int .i64) w A1 l1.length l1) (hc1 : l1.length ≤ c1) (h : impl_SpanOrder.f k l0 l1 = some (r1, r2)) :
  Calls Try.prog 51 #[.slice A0 l0.length c0, .slice A1 l1.length c1] w fun e w' => e = .returned (.tuple #[.int .i64 r1, .bool r2]) ∧ Below w.heap.size w w' := by
 have HR0 := Aside0.mk hr0
 have HC0 := Aside0.mk hc0
 clear hr0 hc0
 have HR1 := Aside0.mk hr1
 have HC1 := Aside0.mk hc1
 clear hr1 hc1
 have HB := Aside0.mk (Below.refl w.heap.size w)
 have H : ((impl_isSystem.f l0).bind fun t1163 => (if t1163 = true then ((impl_plane_isQuad.f l0 l1).bind fun t1164 => (impl_SpanOrder.j0 k l0 l1 (!t1164))) else (impl_SpanOrder.j0 k l0 l1 true))) = some (r1, r2) := h
 clear h
 have HC3 := Aside0.mk H
 clear H
 go_enter Try.func51, Try.ntmps51
 go_upto_region 1 with (fail)
 repeat (go_quiet (fail); go_upto_region 1 with (fail))
 go_cut [18] (fun v18 wc => ∃ (kq : Nat) (x18_2 : Bool), v18 = .bool x18_2 ∧ Aside0 (impl_SpanOrder.j0 kq l0 l1 x18_2 = some (r1, r2)) ∧ Aside0 (kq ≤ k) ∧ Aside0 (Below w.heap.size w wc))
 case first =>
  have H := HC3.out
  clear HC3
  replace H := Option.bind_eq_some_iff.mp H
  obtain ⟨t1163, A40, H⟩ := H
  replace H : (if t1163 = true then ((impl_plane_isQuad.f l0 l1).bind fun t1164 => (impl_SpanOrder.j0 k l0 l1 (!t1164))) else (impl_SpanOrder.j0 k l0 l1 true)) = some (r1, r2) := H
  have A4 := Aside0.mk A40
  clear A40
  by_cases c5 : t1163 = true
  ·subst c5
   have H1 : ((impl_plane_isQuad.f l0 l1).bind fun t1164 => (impl_SpanOrder.j0 k l0 l1 (!t1164))) = some (r1, r2) := by rw [if_pos rfl] at H; exact H
   clear H
   have H := H1
   clear H1
   replace H := Option.bind_eq_some_iff.mp H
   obtain ⟨t1164, A60, H⟩ := H
   replace H : (impl_SpanOrder.j0 k l0 l1 (!t1164)) = some (r1, r2) := H
   have A6 := Aside0.mk A60
   clear A60
   have H' := Aside0.mk H
   clear H
   go_wp2_with (first | (go_at_call 61; (with_reducible refine (impl_isSystem.calls _ _ l0 true _ ?side1 ?side2 A4.out).mono ?_); (case side1 => exact sb_ HR0 HB); (case side2 => exact HC0.out); rintro e w7 ⟨rfl, hb⟩; have n0_ := Aside0.mk (below_step (bb_ HB) hb); clear HB; have HB := n0_; clear n0_; (try clear hb); (try clear hb2); (try clear hk); (try clear hi)) | (go_at_call 85; (with_reducible refine (impl_plane_isQuad.calls _ _ l0 _ _ l1 t1164 _ ?side1 ?side2 ?side3 ?side4 A6.out).mono ?_); (case side1 => exact sb_ HR0 HB); (case side2 => exact HC0.out); (case side3 => exact sb_ HR1 HB); (case side4 => exact HC1.out); rintro e w8 ⟨rfl, hb⟩; have n0_ := Aside0.mk (below_step (bb_ HB) hb); clear HB; have HB := n0_; clear n0_; (try clear hb); (try clear hb2); (try clear hk); (try clear hi)))
   repeat (go_quiet (first | (go_at_call 61; (with_reducible refine (impl_isSystem.calls _ _ l0 true _ ?side1 ?side2 A4.out).mono ?_); (case side1 => exact sb_ HR0 HB); (case side2 => exact HC0.out); rintro e w7 ⟨rfl, hb⟩; have n0_ := Aside0.mk (below_step (bb_ HB) hb); clear HB; have HB := n0_; clear n0_; (try clear hb); (try clear hb2); (try clear hk); (try clear hi)) | (go_at_call 85; (with_reducible refine (impl_plane_isQuad.calls _ _ l0 _ _ l1 t1164 _ ?side1 ?side2 ?side3 ?side4 A6.out).mono ?_); (case side1 => exact sb_ HR0 HB); (case side2 => exact HC0.out); (case side3 => exact sb_ HR1 HB); (case side4 => exact HC1.out); rintro e w8 ⟨rfl, hb⟩; have n0_ := Aside0.mk (below_step (bb_ HB) hb); clear HB; have HB := n0_; clear n0_; (try clear hb); (try clear hb2); (try clear hk); (try clear hi))); try go_wp2_with (first | (go_at_call 61; (with_reducible refine (impl_isSystem.calls _ _ l0 true _ ?side1 ?side2 A4.out).mono ?_); (case side1 => exact sb_ HR0 HB); (case side2 => exact HC0.out); rintro e w7 ⟨rfl, hb⟩; have n0_ := Aside0.mk (below_step (bb_ HB) hb); clear HB; have HB := n0_; clear n0_; (try clear hb); (try clear hb2); (try clear hk); (try clear hi)) | (go_at_call 85; (with_reducible refine (impl_plane_isQuad.calls _ _ l0 _ _ l1 t1164 _ ?side1 ?side2 ?side3 ?side4 A6.out).mono ?_); (case side1 => exact sb_ HR0 HB); (case side2 => exact HC0.out); (case side3 => exact sb_ HR1 HB); (case side4 => exact HC1.out); rintro e w8 ⟨rfl, hb⟩; have n0_ := Aside0.mk (below_step (bb_ HB) hb); clear HB; have HB := n0_; clear n0_; (try clear hb); (try clear hb2); (try clear hk); (try clear hi))))
   go_meet
   case rel => exact ⟨_, (!t1164), (by first | rfl | (simp; done) | (simp [*]; done)), H', ⟨by first | omega | exact Nat.le_refl _⟩, ⟨by repeat (first | (with_reducible first | exact HB.out | apply below_alloc | apply pw_below_drewN | apply below_drew1) | exact HB.out)⟩⟩
  ·replace c5 := Bool.eq_false_iff.mpr c5
   subst c5
   have H1 : (impl_SpanOrder.j0 k l0 l1 true) = some (r1, r2) := by rw [if_neg (show ¬ (false = true) by decide)] at H; exact H
   clear H
   have H := H1
   clear H1
   have H' := Aside0.mk H
   clear H
   go_wp2_with (first | (go_at_call 61; (with_reducible refine (impl_isSystem.calls _ _ l0 false _ ?side1 ?side2 A4.out).mono ?_); (case side1 => exact sb_ HR0 HB); (case side2 => exact HC0.out); rintro e w9 ⟨rfl, hb⟩; have n0_ := Aside0.mk (below_step (bb_ HB) hb); clear HB; have HB := n0_; clear n0_; (try clear hb); (try clear hb2); (try clear hk); (try clear hi)))
   repeat (go_quiet (first | (go_at_call 61; (with_reducible refine (impl_isSystem.calls _ _ l0 false _ ?side1 ?side2 A4.out).mono ?_); (case side1 => exact sb_ HR0 HB); (case side2 => exact HC0.out); rintro e w9 ⟨rfl, hb⟩; have n0_ := Aside0.mk (below_step (bb_ HB) hb); clear HB; have HB := n0_; clear n0_; (try clear hb); (try clear hb2); (try clear hk); (try clear hi))); try go_wp2_with (first | (go_at_call 61; (with_reducible refine (impl_isSystem.calls _ _ l0 false _ ?side1 ?side2 A4.out).mono ?_); (case side1 => exact sb_ HR0 HB); (case side2 => exact HC0.out); rintro e w9 ⟨rfl, hb⟩; have n0_ := Aside0.mk (below_step (bb_ HB) hb); clear HB; have HB := n0_; clear n0_; (try clear hb); (try clear hb2); (try clear hk); (try clear hi))))
   go_meet
   case rel => exact ⟨_, (true), (by first | rfl | (simp; done) | (simp [*]; done)), H', ⟨by first | omega | exact Nat.le_refl _⟩, ⟨by repeat (first | (with_reducible first | exact HB.out | apply below_alloc | apply pw_below_drewN | apply below_drew1) | exact HB.out)⟩⟩
 case rest =>
  clear HC3
  try clear c1
  try clear p2
  try clear c5
  obtain ⟨kq, x18_2, rfl, HA, HJ2, HB⟩ := hcut
  cases kq with
  | zero => exact absurd HA.out (by simp [impl_SpanOrder.j0])
  | succ kj2 =>
   have H := HA.out
   clear HA
   simp only [impl_SpanOrder.j0] at H
   by_cases c10 : x18_2 = true
   ·subst c10
    have H1 : (some (0, false)) = some (r1, r2) := by rw [if_pos rfl] at H; exact H
    clear H
    have H := H1
    clear H1
    simp only [Option.some.injEq, Prod.mk.injEq] at H
    obtain ⟨rfl, rfl⟩ := H
    go_wp2
    repeat (go_quiet (fail); try go_wp2)
    go_ret2
    exact ⟨ee_, bb_ HB⟩
   ·replace c10 := Bool.eq_false_iff.mpr c10
    subst c10
    have H1 : (if 0 < (l1.length : Int) then (if 1 < (l1.length : Int) then ((impl_plane_join.f kj2 l0 (rd l1 0) (rd l1 1)).bind fun t1167 => ((impl_plane_span.f l0 l1).bind fun t1168 => (impl_SpanOrder.l0 kj2 l0 t1167 (-1) t1168 (t1168.length : Int) 0))) else (none)) else (none)) = some (r1, r2) := by rw [if_neg (show ¬ (false = true) by decide)] at H; exact H
    clear H
    have H := H1
    clear H1
    by_cases c11 : 0 < (l1.length : Int)
    ·rw [if_pos c11] at H
     have c11b0 : decide (0 < (l1.length : Int)) = true := decide_eq_true c11
     have c11b1 : decide (0 < l1.length) = true := decide_eq_true (by omega)
     clear c11
     by_cases c12 : 1 < (l1.length : Int)
     ·rw [if_pos c12] at H
      have c12b0 : decide (1 < (l1.length : Int)) = true := decide_eq_true c12
      have c12b1 : decide (1 < l1.length) = true := decide_eq_true (by omega)
      clear c12
      replace H := Option.bind_eq_some_iff.mp H
      obtain ⟨t1167, A130, H⟩ := H
      replace H : ((impl_plane_span.f l0 l1).bind fun t1168 => (impl_SpanOrder.l0 kj2 l0 t1167 (-1) t1168 (t1168.length : Int) 0)) = some (r1, r2) := H
      have A13 := Aside0.mk A130
      clear A130
      replace H := Option.bind_eq_some_iff.mp H
      obtain ⟨t1168, A140, H⟩ := H
      replace H : (impl_SpanOrder.l0 kj2 l0 t1167 (-1) t1168 (t1168.length : Int) 0) = some (r1, r2) := H
      have A14 := Aside0.mk A140
      clear A140
      have H' := Aside0.mk H
      clear H
      have p1165 : 0 ≤ (0 : Int) := (by omega)
      have q1165 : 0 < (l1.length : Int) := dd_
      obtain ⟨ad1165, e1165, hx1165_0⟩ := Kd.at_int HR1.out 0 p1165 q1165
      cases e1165
      have qi1165 : (0 < l1.length) = True := eq_true (by omega)
      (try rw [show ((0 : Int)).toNat = 0 from rfl] at hx1165_0)
      (try rw [Addr.add_zero'] at hx1165_0)
      replace hx1165_0 := hc_ HB hx1165_0
      replace p1165 := eq_true p1165
      replace q1165 := eq_true q1165
      have p1166 : 0 ≤ (1 : Int) := (by omega)
      have q1166 : 1 < (l1.length : Int) := dd_
      obtain ⟨ad1166, e1166, hx1166_0⟩ := Kd.at_int HR1.out 1 p1166 q1166
      obtain rfl : ad1165 = ad1166 := (by injection e1166)
      (try simp only [show (1 : Int).toNat = 1 from rfl, Nat.reduceMul, Nat.reduceEqDiff, Go.Addr.add, ↓reduceIte] at hx1166_0)
      have qi1166 : (1 < l1.length) = True := eq_true (by omega)
      (try rw [show ((1 : Int)).toNat = 1 from rfl] at hx1166_0)
      replace hx1166_0 := hc_ HB hx1166_0
      replace p1166 := eq_true p1166
      replace q1166 := eq_true q1166
      go_wp2_with (first | (go_at_call 74; (with_reducible refine (impl_plane_join.calls kj2 _ _ l0 (rd l1 0) (rd l1 1) t1167 _ ?side1 ?side2 A13.out).mono ?_); (case side1 => exact sb_ HR0 HB); (case side2 => exact HC0.out); rintro e w' ⟨rfl, ⟨nd, rfl⟩⟩; (try first | exact ⟨rfl, _, World.drewN_drewN _ _ _⟩ | exact ⟨rfl, _, Eq.trans (World.drewN_drewN _ _ _) (congrArg (World.drewN _) (Nat.add_assoc _ _ _))⟩)) | (go_at_call 82; (with_reducible refine (impl_plane_span.calls _ _ l0 _ _ l1 t1168 _ ?side1 ?side2 ?side3 ?side4 A14.out).mono ?_); (case side1 => repeat (first | exact (Kd.C_below HR0.out (bb_ HB)) | (with_reducible refine Kd.C_alloc ?_ _) | (with_reducible refine Kd.C_drewN ?_ _) | (with_reducible refine Kd.C_drew ?_))); (case side2 => exact HC0.out); (case side3 => repeat (first | exact (Kd.C_below HR1.out (bb_ HB)) | (with_reducible refine Kd.C_alloc ?_ _) | (with_reducible refine Kd.C_drewN ?_ _) | (with_reducible refine Kd.C_drew ?_))); (case side4 => exact HC1.out); rintro e w15 ⟨v1169, rfl, ho0, hb⟩; have n0_ := Aside0.mk (Kd.R_lower ho0 (below_size (bb_ HB))); have n1_ := Aside0.mk (below_step (bb_ HB) hb); clear HB; have HO1170 := n0_; have HB := n1_; clear n0_ n1_; (try clear hb); (try clear hb2); (try clear hk); (try clear hi); (try clear ho0); obtain ⟨Ao16, co16, eo16⟩ := Kd.R_slice HO1170.out; subst eo16))
      repeat (go_quiet (first | (go_at_call 74; (with_reducible refine (impl_plane_join.calls kj2 _ _ l0 (rd l1 0) (rd l1 1) t1167 _ ?side1 ?side2 A13.out).mono ?_); (case side1 => exact sb_ HR0 HB); (case side2 => exact HC0.out); rintro e w' ⟨rfl, ⟨nd, rfl⟩⟩; (try first | exact ⟨rfl, _, World.drewN_drewN _ _ _⟩ | exact ⟨rfl, _, Eq.trans (World.drewN_drewN _ _ _) (congrArg (World.drewN _) (Nat.add_assoc _ _ _))⟩)) | (go_at_call 82; (with_reducible refine (impl_plane_span.calls _ _ l0 _ _ l1 t1168 _ ?side1 ?side2 ?side3 ?side4 A14.out).mono ?_); (case side1 => repeat (first | exact (Kd.C_below HR0.out (bb_ HB)) | (with_reducible refine Kd.C_alloc ?_ _) | (with_reducible refine Kd.C_drewN ?_ _) | (with_reducible refine Kd.C_drew ?_))); (case side2 => exact HC0.out); (case side3 => repeat (first | exact (Kd.C_below HR1.out (bb_ HB)) | (with_reducible refine Kd.C_alloc ?_ _) | (with_reducible refine Kd.C_drewN ?_ _) | (with_reducible refine Kd.C_drew ?_))); (case side4 => exact HC1.out); rintro e w15 ⟨v1169, rfl, ho0, hb⟩; have n0_ := Aside0.mk (Kd.R_lower ho0 (below_size (bb_ HB))); have n1_ := Aside0.mk (below_step (bb_ HB) hb); clear HB; have HO1170 := n0_; have HB := n1_; clear n0_ n1_; (try clear hb); (try clear hb2); (try clear hk); (try clear hi); (try clear ho0); obtain ⟨Ao16, co16, eo16⟩ := Kd.R_slice HO1170.out; subst eo16)); try go_wp2_with (first | (go_at_call 74; (with_reducible refine (impl_plane_join.calls kj2 _ _ l0 (rd l1 0) (rd l1 1) t1167 _ ?side1 ?side2 A13.out).mono ?_); (case side1 => exact sb_ HR0 HB); (case side2 => exact HC0.out); rintro e w' ⟨rfl, ⟨nd, rfl⟩⟩; (try first | exact ⟨rfl, _, World.drewN_drewN _ _ _⟩ | exact ⟨rfl, _, Eq.trans (World.drewN_drewN _ _ _) (congrArg (World.drewN _) (Nat.add_assoc _ _ _))⟩)) | (go_at_call 82; (with_reducible refine (impl_plane_span.calls _ _ l0 _ _ l1 t1168 _ ?side1 ?side2 ?side3 ?side4 A14.out).mono ?_); (case side1 => repeat (first | exact (Kd.C_below HR0.out (bb_ HB)) | (with_reducible refine Kd.C_alloc ?_ _) | (with_reducible refine Kd.C_drewN ?_ _) | (with_reducible refine Kd.C_drew ?_))); (case side2 => exact HC0.out); (case side3 => repeat (first | exact (Kd.C_below HR1.out (bb_ HB)) | (with_reducible refine Kd.C_alloc ?_ _) | (with_reducible refine Kd.C_drewN ?_ _) | (with_reducible refine Kd.C_drew ?_))); (case side4 => exact HC1.out); rintro e w15 ⟨v1169, rfl, ho0, hb⟩; have n0_ := Aside0.mk (Kd.R_lower ho0 (below_size (bb_ HB))); have n1_ := Aside0.mk (below_step (bb_ HB) hb); clear HB; have HO1170 := n0_; have HB := n1_; clear n0_ n1_; (try clear hb); (try clear hb2); (try clear hk); (try clear hi); (try clear ho0); obtain ⟨Ao16, co16, eo16⟩ := Kd.R_slice HO1170.out; subst eo16)))
      go_loopg [7, 31] kj2 (fun kq v7 v31 w' => ∃ (x7_2 : Int) (x31_2 : Int), v7 = .int .i64 x7_2 ∧ v31 = .int .i64 x31_2 ∧ Aside0 (impl_SpanOrder.l0 kq l0 t1167 x7_2 t1168 (t1168.length : Int) x31_2 = some (r1, r2)) ∧ Aside0 (kq ≤ kj2) ∧ Aside0 (Kd.R (Kd.int .i64) 3 w' w.heap.size (fun _ => True) (.slice Ao16 t1168.length co16) t1168) ∧ Aside0 (Below w.heap.size w w'))
      case atStart => exact ⟨((-1)), (0), (by first | rfl | (simp; done) | (simp [*]; done)), (by first | rfl | (simp; done) | (simp [*]; done)), H', ⟨Nat.le_refl _⟩, ⟨rr_ HO1170⟩, ⟨by repeat (first | (with_reducible first | exact HB.out | apply below_alloc | apply pw_below_drewN | apply below_drew1) | exact HB.out)⟩⟩
      case round =>
       clear H'
       try clear c1
       try clear p1
       try clear q1
       try clear hx1
       try clear qi1
       try clear p2
       try clear c5
       try clear c10
       try clear c11
       try clear c11b0
       try clear c11b1
       try clear p11
       try clear q11
       try clear hx11
       try clear qi11
       try clear c12
       try clear c12b0
       try clear c12b1
       try clear hx1165_0
       try clear hx1166_0
       try clear p1165
       try clear p1166
       try clear p2
       try clear q1165
       try clear q1166
       obtain ⟨x7_2, x31_2, rfl, rfl, HA, HK2, HO_29, HB⟩ := hrel
       cases gk with
       | zero => exact absurd HA.out (by simp [impl_SpanOrder.l0])
       | succ k2 =>
        have H := HA.out
        clear HA
        simp only [impl_SpanOrder.l0] at H
        by_cases c17 : x31_2 < (t1168.length : Int)
        ·rw [if_pos c17] at H
         have c17b0 : decide (x31_2 < (t1168.length : Int)) = true := decide_eq_true c17
         clear c17
         by_cases c18 : 0 ≤ x31_2
         ·rw [if_pos c18] at H
          have c18b0 : decide (0 ≤ x31_2) = true := decide_eq_true c18
          clear c18
          by_cases c19 : x31_2 < (t1168.length : Int)
          ·rw [if_pos c19] at H
           have c19b0 : decide (x31_2 < (t1168.length : Int)) = true := decide_eq_true c19
           clear c19
           replace H := Option.bind_eq_some_iff.mp H
           obtain ⟨t1172, A200, H⟩ := H
           replace H : (if t1172 = true then (impl_SpanOrder.l0 k2 l0 t1167 (wrap64 (x7_2 + 1)) t1168 (t1168.length : Int) (wrap64 (x31_2 + 1))) else (impl_SpanOrder.l0 k2 l0 t1167 x7_2 t1168 (t1168.length : Int) (wrap64 (x31_2 + 1)))) = some (r1, r2) := H
           have A20 := Aside0.mk A200
           clear A200
           by_cases c21 : t1172 = true
           ·subst c21
            have H1 : (impl_SpanOrder.l0 k2 l0 t1167 (wrap64 (x7_2 + 1)) t1168 (t1168.length : Int) (wrap64 (x31_2 + 1))) = some (r1, r2) := by rw [if_pos rfl] at H; exact H
            clear H
            have H := H1
            clear H1
            have H' := Aside0.mk H
            clear H
            have p1171 : 0 ≤ (x31_2 : Int) := dd_
            have q1171 : x31_2 < (t1168.length : Int) := dd_
            obtain ⟨ad1171, e1171, hx1171_0⟩ := Kd.at_int (Kd.R_reads' HO_29.out).2.2 x31_2 p1171 q1171
            cases e1171
            replace p1171 := eq_true p1171
            replace q1171 := eq_true q1171
            go_wp2_with (first | (go_at_call 75; (with_reducible refine (impl_plane_on.calls _ _ l0 (rd t1168 x31_2) t1167 true _ ?side1 ?side2 A20.out).mono ?_); (case side1 => exact sb_ HR0 HB); (case side2 => exact HC0.out); rintro e w' ⟨rfl, ⟨nd, rfl⟩⟩; (try first | exact ⟨rfl, _, World.drewN_drewN _ _ _⟩ | exact ⟨rfl, _, Eq.trans (World.drewN_drewN _ _ _) (congrArg (World.drewN _) (Nat.add_assoc _ _ _))⟩)))
            repeat (go_quiet (first | (go_at_call 75; (with_reducible refine (impl_plane_on.calls _ _ l0 (rd t1168 x31_2) t1167 true _ ?side1 ?side2 A20.out).mono ?_); (case side1 => exact sb_ HR0 HB); (case side2 => exact HC0.out); rintro e w' ⟨rfl, ⟨nd, rfl⟩⟩; (try first | exact ⟨rfl, _, World.drewN_drewN _ _ _⟩ | exact ⟨rfl, _, Eq.trans (World.drewN_drewN _ _ _) (congrArg (World.drewN _) (Nat.add_assoc _ _ _))⟩))); try go_wp2_with (first | (go_at_call 75; (with_reducible refine (impl_plane_on.calls _ _ l0 (rd t1168 x31_2) t1167 true _ ?side1 ?side2 A20.out).mono ?_); (case side1 => exact sb_ HR0 HB); (case side2 => exact HC0.out); rintro e w' ⟨rfl, ⟨nd, rfl⟩⟩; (try first | exact ⟨rfl, _, World.drewN_drewN _ _ _⟩ | exact ⟨rfl, _, Eq.trans (World.drewN_drewN _ _ _) (congrArg (World.drewN _) (Nat.add_assoc _ _ _))⟩))))
            go_roundg k2
            case measure => have := HJ2.out; have := HK2.out; omega
            case rel => exact ⟨(wrap64 (x7_2 + 1)), (wrap64 (x31_2 + 1)), (by first | rfl | (simp; done) | (simp [*]; done)), (by first | rfl | (simp; done) | (simp [*]; done)), H', ⟨by have := HJ2.out; have := HK2.out; omega⟩, ⟨rr_ HO_29⟩, ⟨by repeat (first | (with_reducible first | exact HB.out | apply below_alloc | apply pw_below_drewN | apply below_drew1) | exact HB.out)⟩⟩
           ·replace c21 := Bool.eq_false_iff.mpr c21
            subst c21
            have H1 : (impl_SpanOrder.l0 k2 l0 t1167 x7_2 t1168 (t1168.length : Int) (wrap64 (x31_2 + 1))) = some (r1, r2) := by rw [if_neg (show ¬ (false = true) by decide)] at H; exact H
            clear H
            have H := H1
            clear H1
            have H' := Aside0.mk H
            clear H
            have p1171 : 0 ≤ (x31_2 : Int) := dd_
            have q1171 : x31_2 < (t1168.length : Int) := dd_
            obtain ⟨ad1171, e1171, hx1171_0⟩ := Kd.at_int (Kd.R_reads' HO_29.out).2.2 x31_2 p1171 q1171
            cases e1171
            replace p1171 := eq_true p1171
            replace q1171 := eq_true q1171
            go_wp2_with (first | (go_at_call 75; (with_reducible refine (impl_plane_on.calls _ _ l0 (rd t1168 x31_2) t1167 false _ ?side1 ?side2 A20.out).mono ?_); (case side1 => exact sb_ HR0 HB); (case side2 => exact HC0.out); rintro e w' ⟨rfl, ⟨nd, rfl⟩⟩; (try first | exact ⟨rfl, _, World.drewN_drewN _ _ _⟩ | exact ⟨rfl, _, Eq.trans (World.drewN_drewN _ _ _) (congrArg (World.drewN _) (Nat.add_assoc _ _ _))⟩)))
            repeat (go_quiet (first | (go_at_call 75; (with_reducible refine (impl_plane_on.calls _ _ l0 (rd t1168 x31_2) t1167 false _ ?side1 ?side2 A20.out).mono ?_); (case side1 => exact sb_ HR0 HB); (case side2 => exact HC0.out); rintro e w' ⟨rfl, ⟨nd, rfl⟩⟩; (try first | exact ⟨rfl, _, World.drewN_drewN _ _ _⟩ | exact ⟨rfl, _, Eq.trans (World.drewN_drewN _ _ _) (congrArg (World.drewN _) (Nat.add_assoc _ _ _))⟩))); try go_wp2_with (first | (go_at_call 75; (with_reducible refine (impl_plane_on.calls _ _ l0 (rd t1168 x31_2) t1167 false _ ?side1 ?side2 A20.out).mono ?_); (case side1 => exact sb_ HR0 HB); (case side2 => exact HC0.out); rintro e w' ⟨rfl, ⟨nd, rfl⟩⟩; (try first | exact ⟨rfl, _, World.drewN_drewN _ _ _⟩ | exact ⟨rfl, _, Eq.trans (World.drewN_drewN _ _ _) (congrArg (World.drewN _) (Nat.add_assoc _ _ _))⟩))))
            go_roundg k2
            case measure => have := HJ2.out; have := HK2.out; omega
            case rel => exact ⟨(x7_2), (wrap64 (x31_2 + 1)), (by first | rfl | (simp; done) | (simp [*]; done)), (by first | rfl | (simp; done) | (simp [*]; done)), H', ⟨by have := HJ2.out; have := HK2.out; omega⟩, ⟨rr_ HO_29⟩, ⟨by repeat (first | (with_reducible first | exact HB.out | apply below_alloc | apply pw_below_drewN | apply below_drew1) | exact HB.out)⟩⟩
          ·rw [if_neg c19] at H
           exact absurd H (by simp)
         ·rw [if_neg c18] at H
          exact absurd H (by simp)
        ·rw [if_neg c17] at H
         have c17b0 : decide (x31_2 < (t1168.length : Int)) = false := decide_eq_false c17
         clear c17
         simp only [Option.some.injEq, Prod.mk.injEq] at H
         obtain ⟨rfl, rfl⟩ := H
         go_wp2
         repeat (go_quiet (fail); try go_wp2)
         go_ret2
         exact ⟨ee_, bb_ HB⟩
     ·rw [if_neg c12] at H
      exact absurd H (by simp)
    ·rw [if_neg c11] at H
     exact absurd H (by simp)
end Go.Proofs.Ytcbkoecanldlpaa.P

set_option linter.unusedVariables false
set_option linter.unusedSimpArgs false
namespace Go.Proofs.Ytcbkoecanldlpaa.X
open Go.RowKit Go.Proofs.YtcbkoecanldlpaaW.PrintWords Go.Proofs.YtcbkoecanldlpaaW.PrintLast Go.Proofs.Ytcbkoecanldlpaa.P

theorem span_eq {t l : List Int} (hs : sysB t = true) (hp : ∀ x ∈ l, In91 x) : impl_plane_span.f t l = some (spanS t (inL l)) := if_pos ⟨hs, List.all_eq_true.2 fun x hx => ptB_iff.2 (hp x hx)⟩
def wholeB (t l : List Int) : Bool := quadB t l && (((spanS t (inL l)).length : Int) == 91)
def quadN (t l : List Int) : Nat := cntL t (spanS t (inL l)) (joinI t (rd l 0) (rd l 1))
theorem implWhole_eq (t l : List Int) : impl_SpanWhole.f t l = some (wholeB t l) := by
  unfold impl_SpanWhole.f wholeB
  rw [show impl_isSystem.f t = some (sysB t) from rfl, Option.bind_some]
  by_cases hs : sysB t = true
  case neg =>
    have : quadB t l = false := by unfold quadB; rw [Bool.eq_false_iff.2 hs]; rfl
    rw [this, if_neg hs]; rfl
  rw [if_pos hs, isQuad_eq hs, Option.bind_some]
  by_cases hq : quadB t l = true
  case neg => rw [if_neg hq, Bool.eq_false_iff.2 hq]; rfl
  rw [if_pos hq, span_eq hs (quad_pts hq), hq]; rfl
theorem specWhole_ev {t l : List Int} (ht : t.length ≤ 1048576) : Ev (fun n => spec_SpanWhole.f n t l) (wholeB t l) := by
  unfold spec_SpanWhole.f wholeB
  by_cases h4 : l.length = 4
  case neg =>
    have : quadB t l = false := by unfold quadB; rw [decide_eq_false h4]; simp
    rw [this]
    exact Ev.neg (by omega) (Ev.done rfl)
  refine Ev.pos (by omega) (Ev.bind (planeApart_ev ht h4) ?_)
  by_cases hq : quadB t l = true
  case neg =>
    rw [Bool.eq_false_iff.2 hq]
    exact Ev.neg (by decide) (Ev.done rfl)
  have hs := (quadB_parts hq).1
  rw [hq]
  exact Ev.pos rfl (Ev.bind (l7Span_ev hs (by omega) (quad_pts hq)) (Ev.done rfl))
end Go.Proofs.Ytcbkoecanldlpaa.X

set_option linter.unusedVariables false
set_option linter.unusedSimpArgs false
namespace Go.Proofs.Ytcbkoecanldlpaa.X
open Go.RowKit Go.Proofs.YtcbkoecanldlpaaW.PrintWords Go.Proofs.YtcbkoecanldlpaaW.PrintLast Go.Proofs.Ytcbkoecanldlpaa.P

theorem quad_spanOk {t x : List Int} (h : quadB t x = true) : spanR t x = (spanS t (inL x), true) := by
  unfold spanR
  rw [if_pos]
  obtain ⟨hs, h4, _⟩ := quadB_parts h
  have hp := quad_pts h
  unfold spanOk
  rw [hs, decide_eq_true (by omega : x.length ≤ 10), List.all_eq_true.2 fun p hm => ptB_iff.2 (hp p hm)]
  rfl
theorem quad_numbers {t x : List Int} (h : quadB t x = true) : ∃ n : Nat, quadN t x = n + 1 ∧ (spanS t (inL x)).length = n * n + n + 1 ∧ (n = 2 ∨ n = 3 ∨ n = 9) := by
  obtain ⟨n, h1, h2, h3⟩ := (span_sub (quadB_parts h).1 (inL x)).orders (quad_in h)
  exact ⟨n, h1, h2, h3⟩
theorem quad_field {x : List Int} (h : quadB (kindL 0) x = true) : quadN (kindL 0) x = 4 := field_order h
end Go.Proofs.Ytcbkoecanldlpaa.X

set_option linter.unusedVariables false
set_option linter.unusedSimpArgs false
namespace Go.Proofs.Ytcbkoecanldlpaa.X
open Go.RowKit Go.Proofs.YtcbkoecanldlpaaW.PrintWords Go.Proofs.YtcbkoecanldlpaaW.PrintLast Go.Proofs.Ytcbkoecanldlpaa.P

def fieldB (t : List Int) : Bool := (sysB t && bothP t) && (sysB t && brackP t)
theorem field_eq (t : List Int) : laws_field.f t = some (fieldB t) := by
  unfold laws_field.f fieldB
  rw [show impl_SystemBoth.f t = some (sysB t && bothP t) from rfl, Option.bind_some]
  by_cases h : (sysB t && bothP t) = true
  · rw [if_pos h, h, show impl_SystemBrackets.f t = some (sysB t && brackP t) from rfl]; simp
  · rw [if_neg h, Bool.eq_false_iff.2 h]; rfl
theorem field_kinds : ∀ i : Fin 5, i ≠ 0 → (bothP (kindL (i.val : Int)) && brackP (kindL (i.val : Int))) = false := by decide +kernel
theorem field_kind {t : List Int} (h : DrawnT t) (hf : fieldB t = true) : t = kindL 0 := by
  unfold fieldB at hf
  simp only [Bool.and_eq_true] at hf
  obtain ⟨c, c0, c1, e⟩ := drawn_kind h hf.1.1
  by_cases e0 : c = 0
  · rw [e, e0]
  · exfalso
    have := field_kinds ⟨c.toNat, by omega⟩ (fun h => e0 (by have := Fin.ext_iff.1 h; have h2 : c.toNat = 0 := this; omega))
    have e1 : ((⟨c.toNat, by omega⟩ : Fin 5).val : Int) = c := by show ((c.toNat : Nat) : Int) = c; omega
    rw [e1, ← e, hf.1.2, hf.2.2] at this
    exact absurd this (by decide)
end Go.Proofs.Ytcbkoecanldlpaa.X

set_option linter.unusedVariables false
set_option linter.unusedSimpArgs false
namespace Go.Proofs.Ytcbkoecanldlpaa.Pure
open Go.RowKit Go.Proofs.Ytcbkoecanldlpaa.P Go.Proofs.YtcbkoecanldlpaaW.PrintWords Go.Proofs.YtcbkoecanldlpaaW.PrintLast Go.Proofs.Ytcbkoecanldlpaa.X

theorem FnWhole : laws_FnWhole.Pure := by
  intro l0 _ _ hu
  refine Ev.rounds ?_
  unfold laws_FnWhole.f
  by_cases hb : (l0.length : Int) > 1048576
  · exact Ev.pos hb (Ev.done rfl)
  refine Ev.neg hb ?_
  obtain ⟨t, x, ht, hx, e⟩ := four_ev l0 hu
  have htl := ht.len
  refine Ev.bind (Ev.bind e (Ev.done rfl) : Ev (fun k => spec_DrawSpanWhole.f k l0) (t, x)) ?_
  dsimp only
  refine Ev.fix (implWhole_eq t x) (Ev.bind (specWhole_ev (t := t) (l := x) (by omega)) ?_)
  refine Ev.neg (by simp) ?_
  refine Ev.step (fun k => by rw [laws_FnWhole.j0]) ?_
  by_cases h : wholeB t x = true
  case neg =>
    rw [Bool.eq_false_iff.2 h]
    exact Ev.pos (by decide) (Ev.done rfl)
  refine Ev.neg (by rw [h]; decide) ?_
  unfold wholeB at h
  simp only [Bool.and_eq_true, beq_iff_eq] at h
  refine Ev.fix (show impl_SpanOf.f t x = some (spanR t x) from rfl) ?_
  rw [quad_spanOk h.1]
  refine Ev.pos rfl (Ev.pos h.2 (Ev.fix (field_eq t) (Ev.done ?_)))
  cases hf : fieldB t with
  | false => rfl
  | true =>
    exfalso
    have e0 := field_kind ht hf
    subst e0
    obtain ⟨n, h1, h2, _⟩ := quad_numbers h.1
    have h4 := quad_field h.1
    have : n = 3 := by omega
    subst this
    omega
end Go.Proofs.Ytcbkoecanldlpaa.Pure

namespace Go.Proofs.Ytcbkoecanldlpaa.fnWhole
open Go.ChangeShapes Go.WideShapes Go.ChangeAt Go.RowKit
open Go.ChangeMaps (open_string shut_string)
set_option linter.unusedVariables false
theorem own : ownKnob Try.prog.godebug = none := by kernel_rfl
theorem laidOut : laidOutB Try.prog = true := by kernel_rfl
def IsRow (k : IntKind) (w : World) (a : Option Addr) (len cap : Nat) (zs : List Int) : Prop :=
  (a = none ∧ len = 0 ∧ cap = 0 ∧ zs = []) ∨
  ∃ x, a = some x ∧ len ≤ cap ∧ cap ≤ maxLen ∧ zs.length = cap ∧ (∀ i, i < zs.length → w.cell? (x.add i) = some (.int k (zs.getD i 0))) ∧ ∀ n ∈ zs, (Lit.int k n).wf = true
set_option maxRecDepth 100000 in
theorem lifted (os : Os) (started : os.Started) (H : Type) (enc : TypeId × Value → H) :
    ReturnsInHanded {} Try.checked os 9 .any (Rows.fnWholeSpec.pre6 enc Try.prog Try.f9 Rows.fnWholeRow.domain false) (Rows.fnWholeSpec.post enc Try.prog Try.f9 false true false false) := by
  refine returnsInHanded_of_change_sized (C := Try.checked) own started (by kernel_rfl) Try.func9
    (ChangeSpec.witness6 (enc := enc) (C := Try.checked) false ⟨#[], #[.slice none 0 0], []⟩ 8 (by kernel_rfl) (by kernel_rfl) (by kernel_rfl) (by kernel_rfl)) ?_
  intro W base args ds gs before hval0 hW hcnd hsz0 _
  have hsz : (DataW.weightsEach Try.prog (Try.f9.params.toList ++ Rows.fnWholeSpec.plain.varTypes Try.prog) (ds ++ gs)).all (· ≤ reachBytes) = true := hsz0
  have hval : ∀ (j : Nat) t v, Try.f9.params[j]? = some t → args[j]? = some v → Value.okWide Try.prog W .any base t v := hval0
  have hW' := hW
  obtain ⟨p, q, hA0, hV, rfl, hfz, hnd⟩ := hW
  have hA : DataW.TrodAll enc Try.prog W 0 (fun _ => true) true Try.f9.params.toList args.toList ds p := hA0
  rw [Try.params9] at hA hval hsz
  obtain ⟨v0, vs0, d0, ds0, p0, q0, hargs, rfl, rfl, h0, r0⟩ := trodAll_cons hA
  obtain ⟨rfl, rfl, rfl⟩ := trodAll_nil r0
  obtain rfl : args = #[v0] := by cases args; simp_all
  obtain ⟨rfl, rfl⟩ := trodVars_none hV
  obtain ⟨a0, len0, cap0, rfl⟩ := okWide_slice Try.underlying22 (hval 0 22 v0 rfl rfl)
  have k0 := h0
  have lt0 : ∀ x ∈ p0, x.block < W.heap.size := by obtain ⟨m, hm⟩ := k0; exact DataW.trod_lt m _ _ _ hm
  obtain ⟨z0, w0⟩ : ∃ zs, IsRow .u8 W a0 len0 cap0 zs := by
    obtain ⟨fuel, hf⟩ := h0
    rcases open_ints Try.underlying22 Try.underlying5 (by kernel_rfl) hf with ⟨hcs, _⟩ | ⟨x, l, c, zs, hcs, _, hl, hm, hz, _, hcell, hwz⟩
    · simp [Value.cells] at hcs
      obtain ⟨rfl, rfl, rfl⟩ := hcs
      exact ⟨[], .inl ⟨rfl, rfl, rfl, rfl⟩⟩
    · simp [Value.cells] at hcs
      obtain ⟨rfl, rfl, rfl⟩ := hcs
      exact ⟨zs, .inr ⟨_, rfl, hl, hm, by simpa using hz, hcell, hwz⟩⟩
  have y0 : len0 * 1 ≤ 140737488351232 := Go.Proofs.YtcbkoecanldlpaaW.PrintWords.sized_ints hsz (j := 0) (t := 22) rfl rfl Try.underlying22 Try.underlying5 (by kernel_rfl) (by kernel_rfl) h0
  clear hA0 hval0 hsz0 hsz
  refine (P.laws_FnWhole.walk Pure.FnWhole a0 len0 cap0 z0 W w0 y0).mono fun e W' ⟨he, bel⟩ => ?_
  subst he
  exact ⟨_, rfl, _, _, _, [], _, [], hW', trodAll_mk1 (shut_bool Try.underlying4 _), (trodAll_cons_mk (Below.trod laidOut (by kernel_rfl) (of_decide_eq_true (by kernel_rfl)) k0 bel lt0) trodAll_mk0), rfl, bel.frame _, fun h => by cases h⟩
theorem over : Rows.fnWholeRow.holds Try.pinned (OpenSpec.ofChange Rows.fnWholeSpec) :=
  OpenClaim.holds_of_wide 9 Try.f9 rfl rfl rfl rfl rfl rfl rfl ⟨rfl, rfl, rfl, rfl, rfl⟩ rfl rfl rfl rfl rfl (by kernel_rfl) Try.func9 (by kernel_rfl)
    (of_decide_eq_true (by kernel_rfl)) (by unfold Func.isWrapper; first | (rw [if_pos (by decide +kernel)]; kernel_rfl) | (rw [if_neg (by decide +kernel)]; exact ⟨rfl, rfl⟩))
    (fun os started H enc _ => lifted os started H enc)
theorem proved : Rows.FnWholeSaid := over
#print axioms proved
end Go.Proofs.Ytcbkoecanldlpaa.fnWhole
namespace Go.Proofs.Ytcbkoecanldlpaa
theorem fnWhole_holds : Rows.FnWholeSaid := fnWhole.proved
end Go.Proofs.Ytcbkoecanldlpaa
