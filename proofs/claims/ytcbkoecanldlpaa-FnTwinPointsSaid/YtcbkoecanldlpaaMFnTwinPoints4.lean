/- The law FnTwinPoints of the given program: for every input the call returns true, and each argument reads afterwards as it read before. No conditions. (Part 5 of 6; the last part holds the theorem.) -/
import Derived.Test.YtcbkoecanldlpaaMFnTwinPoints0
import Derived.Test.YtcbkoecanldlpaaMFnTwinPoints1
import Derived.Test.YtcbkoecanldlpaaMFnTwinPoints2
import Derived.Test.YtcbkoecanldlpaaMFnTwinPoints3
namespace Go.Proofs.Ytcbkoecanldlpaa.P
open Go.RowKit Go.Proofs.YtcbkoecanldlpaaW.PrintWords Go.Proofs.YtcbkoecanldlpaaW.PrintLast
set_option linter.unusedVariables false
set_option linter.unusedSimpArgs false

def laws_FnTwinPoints.j0 : Nat → List Int → List Int → List Int → Bool → List Int → Bool → Bool → Option (Bool)
 | 0, _, _, _, _, _, _, _ => none
 | k + 1, x3, x4, x5, x6, x7, x8, x47 => if x47 = true then (if (x6 == x8) = true then ((laws_sameInts.f k x5 x7).bind fun t471 => (some t471)) else (some false)) else (if 1 < (x4.length : Int) then (if 2 < (x4.length : Int) then ((impl_PlaneJoin.f k x3 (rd x4 1) (rd x4 2)).bind fun bt474 => (if 4 < (x4.length : Int) then (if 5 < (x4.length : Int) then ((impl_PlaneJoin.f k x3 (rd x4 4) (rd x4 5)).bind fun bt478 => (if 0 < (x4.length : Int) then (if 6 < (x4.length : Int) then (if 3 < (x4.length : Int) then ((impl_TwinPoints.f k x3 (([rd x4 0, rd x4 4, rd x4 5, rd x4 6, rd x4 1, rd x4 2, rd x4 3] : List Int))).bind fun bt490 => (if bt474.2 = true then (if bt478.2 = true then (if bt490.2 = true then ((laws_sameInts.f k bt490.1 x5).bind fun t494 => (if t494 = true then (if 0 < (x5.length : Int) then ((impl_PlaneOn.f x3 (rd x5 0) bt474.1).bind fun t496 => (if t496 = true then ((impl_PlaneOn.f x3 (rd x5 0) bt478.1).bind fun t498 => (some t498)) else (some false))) else (none)) else (some false))) else (some false)) else (some false)) else (some false))) else (none)) else (none)) else (none))) else (none)) else (none))) else (none)) else (none))
def laws_FnTwinPoints.f (k : Nat) (l0 : List Int) : Option (Bool) := if (l0.length : Int) > 1048576 then (some true) else ((spec_DrawTwinPoints.f k l0).bind fun bt456 => ((impl_TwinPoints.f k bt456.1 bt456.2).bind fun bt462 => ((spec_TwinPoints.f k bt456.1 bt456.2).bind fun bt466 => (if (bt462.2 != bt466.2) = true then (laws_FnTwinPoints.j0 k bt456.1 bt456.2 bt462.1 bt462.2 bt466.1 bt466.2 true) else ((laws_sameInts.f k bt462.1 bt466.1).bind fun t470 => (if t470 = true then (laws_FnTwinPoints.j0 k bt456.1 bt456.2 bt462.1 bt462.2 bt466.1 bt466.2 (!bt462.2)) else (laws_FnTwinPoints.j0 k bt456.1 bt456.2 bt462.1 bt462.2 bt466.1 bt466.2 true)))))))
def laws_FnTwinPoints.T8 : Bool × List (List Nat × List Nat) := (true, [([], []), ([], []), ([1], [1]), ([2], [2]), ([], []), ([4], [4]), ([5], [5]), ([0, 3, 6], [0, 3, 6]), ([7], [7]), ([8], [8]), ([8], [8]), ([9, 7, 0, 1, 2, 3, 4, 5, 6, 7, 8, 9], [9]), ([10, 11, 0, 1, 2, 3, 4, 5, 6, 7, 8, 9, 10, 11], [10])])
def laws_FnTwinPoints.B8 : List Nat := [0, 0, 2, 6, 0, 16, 48, 127, 255, 511, 511, 1023, 4095]
theorem laws_FnTwinPoints.tab8 : rtab .any (opsOf Try.f6 8) = laws_FnTwinPoints.T8 := by kernel_rfl
theorem laws_FnTwinPoints.bits8 : waitsOk laws_FnTwinPoints.T8.2 laws_FnTwinPoints.B8 = true := by kernel_rfl
def laws_FnTwinPoints.T9 : Bool × List (List Nat × List Nat) := (true, [([], []), ([], []), ([1], [1]), ([2], [2]), ([], []), ([4], [4]), ([5], [5]), ([0, 3, 6], [0, 3, 6]), ([7], [7]), ([8], [8]), ([8], [8]), ([9, 7, 0, 1, 2, 3, 4, 5, 6, 7, 8, 9], [9]), ([10, 11, 0, 1, 2, 3, 4, 5, 6, 7, 8, 9, 10, 11], [10])])
def laws_FnTwinPoints.B9 : List Nat := [0, 0, 2, 6, 0, 16, 48, 127, 255, 511, 511, 1023, 4095]
theorem laws_FnTwinPoints.tab9 : rtab .any (opsOf Try.f6 9) = laws_FnTwinPoints.T9 := by kernel_rfl
theorem laws_FnTwinPoints.bits9 : waitsOk laws_FnTwinPoints.T9.2 laws_FnTwinPoints.B9 = true := by kernel_rfl
def laws_FnTwinPoints.T10 : Bool × List (List Nat × List Nat) := (true, [([], []), ([], []), ([1], [1]), ([2], [2]), ([], []), ([4], [4]), ([5], [5]), ([], []), ([7], [7]), ([8], [8]), ([], []), ([10], [10]), ([11], [11]), ([], []), ([13], [13]), ([14], [14]), ([], []), ([16], [16]), ([17], [17]), ([], []), ([19], [19]), ([20], [20]), ([3, 6, 9, 12, 15, 18, 21], [3, 6, 9, 12, 15, 18, 21]), ([0, 22], [0, 22]), ([23], [23]), ([24], [24]), ([24], [24]), ([25, 23, 0, 1, 2, 3, 4, 5, 6, 7, 8, 9, 10, 11, 12, 13, 14, 15, 16, 17, 18, 19, 20, 21, 22, 23, 24, 25], [25]), ([26, 27, 0, 1, 2, 3, 4, 5, 6, 7, 8, 9, 10, 11, 12, 13, 14, 15, 16, 17, 18, 19, 20, 21, 22, 23, 24, 25, 26, 27], [26])])
def laws_FnTwinPoints.B10 : List Nat := [0, 0, 2, 6, 0, 16, 48, 0, 128, 384, 0, 1024, 3072, 0, 8192, 24576, 0, 65536, 196608, 0, 524288, 1572864, 4194302, 8388607, 16777215, 33554431, 33554431, 67108863, 268435455]
theorem laws_FnTwinPoints.tab10 : rtab .any (opsOf Try.f6 10) = laws_FnTwinPoints.T10 := by kernel_rfl
theorem laws_FnTwinPoints.bits10 : waitsOk laws_FnTwinPoints.T10.2 laws_FnTwinPoints.B10 = true := by kernel_rfl
set_option maxHeartbeats 8000000 in
set_option maxRecDepth 100000 in
theorem laws_FnTwinPoints.calls (k : Nat) (A0 : Option Addr) (c0 : Nat) (l0 : List Int) (r : Bool) (w : World) (hr0 : Kd.C (Kd.int .u8) w A0 l0.length l0) (hc0 : l0.length ≤ c0) (h : laws_FnTwinPoints.f k l0 = some r) :
  Calls Try.prog 6 #[.slice A0 l0.length c0] w fun e w' => e = .returned (.bool r) ∧ Below w.heap.size w w' := by
 have HR0 := Aside0.mk hr0
 have HC0 := Aside0.mk hc0
 clear hr0 hc0
 have HB := Aside0.mk (Below.refl w.heap.size w)
 have H : (if (l0.length : Int) > 1048576 then (some true) else ((spec_DrawTwinPoints.f k l0).bind fun bt456 => ((impl_TwinPoints.f k bt456.1 bt456.2).bind fun bt462 => ((spec_TwinPoints.f k bt456.1 bt456.2).bind fun bt466 => (if (bt462.2 != bt466.2) = true then (laws_FnTwinPoints.j0 k bt456.1 bt456.2 bt462.1 bt462.2 bt466.1 bt466.2 true) else ((laws_sameInts.f k bt462.1 bt466.1).bind fun t470 => (if t470 = true then (laws_FnTwinPoints.j0 k bt456.1 bt456.2 bt462.1 bt462.2 bt466.1 bt466.2 (!bt462.2)) else (laws_FnTwinPoints.j0 k bt456.1 bt456.2 bt462.1 bt462.2 bt466.1 bt466.2 true)))))))) = some r := h
 clear h
 by_cases c2 : (l0.length : Int) > 1048576
 ·rw [if_pos c2] at H
  have c2b0 : decide (1048576 < (l0.length : Int)) = true := decide_eq_true c2
  have c2b1 : decide (1048576 < l0.length) = true := decide_eq_true (by omega)
  clear c2
  obtain rfl := Option.some.inj H
  go_enter Try.func6, Try.ntmps6
  go_wp2
  go_ret
  exact ⟨ee_, bb_ HB⟩
 ·rw [if_neg c2] at H
  have c2b0 : decide (1048576 < (l0.length : Int)) = false := decide_eq_false c2
  have c2b1 : decide (1048576 < l0.length) = false := decide_eq_false (by omega)
  clear c2
  replace H := Option.bind_eq_some_iff.mp H
  obtain ⟨⟨t456, t457⟩, A30, H⟩ := H
  replace H : ((impl_TwinPoints.f k t456 t457).bind fun bt462 => ((spec_TwinPoints.f k t456 t457).bind fun bt466 => (if (bt462.2 != bt466.2) = true then (laws_FnTwinPoints.j0 k t456 t457 bt462.1 bt462.2 bt466.1 bt466.2 true) else ((laws_sameInts.f k bt462.1 bt466.1).bind fun t470 => (if t470 = true then (laws_FnTwinPoints.j0 k t456 t457 bt462.1 bt462.2 bt466.1 bt466.2 (!bt462.2)) else (laws_FnTwinPoints.j0 k t456 t457 bt462.1 bt462.2 bt466.1 bt466.2 true)))))) = some r := H
  have A3 := Aside0.mk A30
  clear A30
  replace H := Option.bind_eq_some_iff.mp H
  obtain ⟨⟨t462, t463⟩, A40, H⟩ := H
  replace H : ((spec_TwinPoints.f k t456 t457).bind fun bt466 => (if (t463 != bt466.2) = true then (laws_FnTwinPoints.j0 k t456 t457 t462 t463 bt466.1 bt466.2 true) else ((laws_sameInts.f k t462 bt466.1).bind fun t470 => (if t470 = true then (laws_FnTwinPoints.j0 k t456 t457 t462 t463 bt466.1 bt466.2 (!t463)) else (laws_FnTwinPoints.j0 k t456 t457 t462 t463 bt466.1 bt466.2 true))))) = some r := H
  have A4 := Aside0.mk A40
  clear A40
  replace H := Option.bind_eq_some_iff.mp H
  obtain ⟨⟨t466, t467⟩, A50, H⟩ := H
  replace H : (if (t463 != t467) = true then (laws_FnTwinPoints.j0 k t456 t457 t462 t463 t466 t467 true) else ((laws_sameInts.f k t462 t466).bind fun t470 => (if t470 = true then (laws_FnTwinPoints.j0 k t456 t457 t462 t463 t466 t467 (!t463)) else (laws_FnTwinPoints.j0 k t456 t457 t462 t463 t466 t467 true)))) = some r := H
  have A5 := Aside0.mk A50
  clear A50
  have HC6 := Aside0.mk H
  clear H
  go_enter Try.func6, Try.ntmps6
  go_upto_region 6 with (first | (refine goesL_ (some 20) rfl rfl Try.func23 (by kernel_rfl) rfl #[.slice A0 l0.length c0] rfl ll_ ?_; (with_reducible refine (spec_DrawTwinPoints.calls k _ _ l0 t456 t457 _ ?side1 ?side2 A3.out).mono ?_); (case side1 => exact ss_ HR0); (case side2 => exact HC0.out); rintro e w7 ⟨v458, v460, rfl, ho0, ho1, hb⟩; refine ⟨_, rfl, ?_⟩; have n0_ := Aside0.mk (Kd.R_lower ho0 (below_size (bb_ HB))); have n1_ := Aside0.mk (Kd.R_lower ho1 (below_size (bb_ HB))); have n2_ := Aside0.mk (below_step (bb_ HB) hb); clear HB; have HO459 := n0_; have HO461 := n1_; have HB := n2_; clear n0_ n1_ n2_; (try clear hb); (try clear hb2); (try clear hk); (try clear hi); (try clear ho0); (try clear ho1); obtain ⟨Ao8, co8, eo8⟩ := Kd.R_slice HO459.out; subst eo8; obtain ⟨Ao9, co9, eo9⟩ := Kd.R_slice HO461.out; subst eo9) | (refine goesL_ (some 26) rfl rfl Try.func18 (by kernel_rfl) rfl #[.slice Ao8 t456.length co8, .slice Ao9 t457.length co9] rfl ll_ ?_; (with_reducible refine (impl_TwinPoints.calls k _ _ t456 _ _ t457 t462 t463 _ ?side1 ?side2 ?side3 ?side4 A4.out).mono ?_); (case side1 => exact cc_ HO459); (case side2 => exact (Kd.R_reads' HO459.out).2.1); (case side3 => exact cc_ HO461); (case side4 => exact (Kd.R_reads' HO461.out).2.1); rintro e w10 ⟨v464, rfl, ho0, hb⟩; refine ⟨_, rfl, ?_⟩; have n0_ := Aside0.mk (Kd.R_elder' (rr_ HO459) (Kd.R_base ho0) hb); have n1_ := Aside0.mk (Kd.R_elder' (rr_ HO461) (Kd.R_base ho0) hb); have n2_ := Aside0.mk (Kd.R_lower (Kd.R_new' (Kd.R_new' ho0 (Kd.R_lt (rr_ HO459))) (Kd.R_lt (rr_ HO461))) (below_size (bb_ HB))); have n3_ := Aside0.mk (below_step (bb_ HB) hb); clear HO459; clear HO461; clear HB; have HO459 := n0_; have HO461 := n1_; have HO465 := n2_; have HB := n3_; clear n0_ n1_ n2_ n3_; (try clear hb); (try clear hb2); (try clear hk); (try clear hi); (try clear ho0)) | (refine goesL_ (some 32) rfl rfl Try.func24 (by kernel_rfl) rfl #[.slice Ao8 t456.length co8, .slice Ao9 t457.length co9] rfl ll_ ?_; (with_reducible refine (spec_TwinPoints.calls k _ _ t456 _ _ t457 t466 t467 _ ?side1 ?side2 ?side3 ?side4 A5.out).mono ?_); (case side1 => exact cc_ HO459); (case side2 => exact (Kd.R_reads' HO459.out).2.1); (case side3 => exact cc_ HO461); (case side4 => exact (Kd.R_reads' HO461.out).2.1); rintro e w11 ⟨v468, rfl, ho0, hb⟩; refine ⟨_, rfl, ?_⟩; have n0_ := Aside0.mk (Kd.R_elder' (rr_ HO459) (Kd.R_base ho0) hb); have n1_ := Aside0.mk (Kd.R_elder' (rr_ HO461) (Kd.R_base ho0) hb); have n2_ := Aside0.mk (Kd.R_elder' (rr_ HO465) (Kd.R_base ho0) hb); have n3_ := Aside0.mk (Kd.R_lower (Kd.R_new' (Kd.R_new' (Kd.R_new' ho0 (Kd.R_lt (rr_ HO459))) (Kd.R_lt (rr_ HO461))) (Kd.R_lt (rr_ HO465))) (below_size (bb_ HB))); have n4_ := Aside0.mk (below_step (bb_ HB) hb); clear HO459; clear HO461; clear HO465; clear HB; have HO459 := n0_; have HO461 := n1_; have HO465 := n2_; have HO469 := n3_; have HB := n4_; clear n0_ n1_ n2_ n3_ n4_; (try clear hb); (try clear hb2); (try clear hk); (try clear hi); (try clear ho0)))
  (try simp only [Act.put, List.setIfInBounds_toArray, List.set_cons_zero, List.set_cons_succ])
  go_cut [47] (fun v47 wc => ∃ (kq : Nat) (x47_5 : Bool), v47 = .bool x47_5 ∧ Aside0 (laws_FnTwinPoints.j0 kq t456 t457 t462 t463 t466 t467 x47_5 = some r) ∧ Aside0 (kq ≤ k) ∧ Aside0 (Kd.R (Kd.int .i64) 3 wc w.heap.size (fun k_ => some k_ ≠ ((.slice Ao9 t457.length co9) : Value).ownBlock ∧ some k_ ≠ (v464 : Value).ownBlock ∧ some k_ ≠ (v468 : Value).ownBlock) (.slice Ao8 t456.length co8) t456) ∧ Aside0 (Kd.R (Kd.int .i64) 3 wc w.heap.size (fun k_ => some k_ ≠ ((.slice Ao8 t456.length co8) : Value).ownBlock ∧ some k_ ≠ (v464 : Value).ownBlock ∧ some k_ ≠ (v468 : Value).ownBlock) (.slice Ao9 t457.length co9) t457) ∧ Aside0 (Kd.R (Kd.int .i64) 3 wc w.heap.size (fun k_ => some k_ ≠ ((.slice Ao8 t456.length co8) : Value).ownBlock ∧ some k_ ≠ ((.slice Ao9 t457.length co9) : Value).ownBlock ∧ some k_ ≠ (v468 : Value).ownBlock) v464 t462) ∧ Aside0 (Kd.R (Kd.int .i64) 3 wc w.heap.size (fun k_ => some k_ ≠ ((.slice Ao8 t456.length co8) : Value).ownBlock ∧ some k_ ≠ ((.slice Ao9 t457.length co9) : Value).ownBlock ∧ some k_ ≠ (v464 : Value).ownBlock) v468 t466) ∧ Aside0 (Below w.heap.size w wc))
  case first =>
   have H := HC6.out
   clear HC6
   by_cases c12 : (t463 != t467) = true
   ·rw [if_pos c12] at H
    have c12b0 : (t463 != t467) = true := c12
    (try (have c12b1 : decide (t463 = t467) = false := by simpa using c12))
    (try (have c12b2 : (t463 == t467) = false := by simpa using c12))
    (try (have c12b3 : ¬ (t463 = t467) := by simpa using c12))
    clear c12
    (first | rw [c12b0] | (simp only [i64_w, i32_w]; rw [c12b0]) | skip)
    have H' := Aside0.mk H
    clear H
    go_wp2
    go_meet
    case rel => exact ⟨_, (true), (by first | rfl | (simp; done) | (simp [*]; done)), H', ⟨by first | omega | exact Nat.le_refl _⟩, ⟨by (with_reducible repeat (first | apply Kd.R_alloc | apply Kd.R_drewN | apply Kd.R_drew)); exact Kd.R_mono HO459.out (fun _ hk => ⟨hk.1.1, ⟨hk.1.2, hk.2⟩⟩)⟩, ⟨by (with_reducible repeat (first | apply Kd.R_alloc | apply Kd.R_drewN | apply Kd.R_drew)); exact Kd.R_mono HO461.out (fun _ hk => ⟨hk.1.1, ⟨hk.1.2, hk.2⟩⟩)⟩, ⟨by (with_reducible repeat (first | apply Kd.R_alloc | apply Kd.R_drewN | apply Kd.R_drew)); exact Kd.R_mono HO465.out (fun _ hk => ⟨hk.1.1.2, ⟨hk.1.2, hk.2⟩⟩)⟩, ⟨by (with_reducible repeat (first | apply Kd.R_alloc | apply Kd.R_drewN | apply Kd.R_drew)); exact Kd.R_mono HO469.out (fun _ hk => ⟨hk.1.1.2, ⟨hk.1.2, hk.2⟩⟩)⟩, ⟨by repeat (first | (with_reducible first | exact HB.out | apply below_alloc | apply pw_below_drewN | apply below_drew1) | exact HB.out)⟩⟩
   ·rw [if_neg c12] at H
    have c12b0 : (t463 != t467) = false := by simpa using c12
    (try (have c12b1 : decide (t463 = t467) = true := by simpa using c12))
    (try (have c12b2 : (t463 == t467) = true := by simpa using c12))
    clear c12
    (first | rw [c12b0] | (simp only [i64_w, i32_w]; rw [c12b0]) | skip)
    replace H := Option.bind_eq_some_iff.mp H
    obtain ⟨t470, A130, H⟩ := H
    replace H : (if t470 = true then (laws_FnTwinPoints.j0 k t456 t457 t462 t463 t466 t467 (!t463)) else (laws_FnTwinPoints.j0 k t456 t457 t462 t463 t466 t467 true)) = some r := H
    have A13 := Aside0.mk A130
    clear A130
    by_cases c14 : t470 = true
    ·subst c14
     have H1 : (laws_FnTwinPoints.j0 k t456 t457 t462 t463 t466 t467 (!t463)) = some r := by rw [if_pos rfl] at H; exact H
     clear H
     have H := H1
     clear H1
     have H' := Aside0.mk H
     clear H
     obtain ⟨Ao15, co15, eo15⟩ := Kd.R_slice HO465.out
     subst eo15
     obtain ⟨Ao16, co16, eo16⟩ := Kd.R_slice HO469.out
     subst eo16
     go_wp2_with (first | (go_at_call 25; (with_reducible refine (laws_sameInts.calls k _ _ t462 _ _ t466 true _ ?side1 ?side2 ?side3 ?side4 A13.out).mono ?_); (case side1 => exact cc_ HO465); (case side2 => exact (Kd.R_reads' HO465.out).2.1); (case side3 => exact cc_ HO469); (case side4 => exact (Kd.R_reads' HO469.out).2.1); rintro e w' ⟨rfl, ⟨nd, rfl⟩⟩))
     go_meet
     case rel => exact ⟨_, (!t463), (by first | rfl | (simp; done) | (simp [*]; done)), H', ⟨by first | omega | exact Nat.le_refl _⟩, ⟨by (with_reducible repeat (first | apply Kd.R_alloc | apply Kd.R_drewN | apply Kd.R_drew)); exact Kd.R_mono HO459.out (fun _ hk => ⟨hk.1.1, ⟨hk.1.2, hk.2⟩⟩)⟩, ⟨by (with_reducible repeat (first | apply Kd.R_alloc | apply Kd.R_drewN | apply Kd.R_drew)); exact Kd.R_mono HO461.out (fun _ hk => ⟨hk.1.1, ⟨hk.1.2, hk.2⟩⟩)⟩, ⟨by (with_reducible repeat (first | apply Kd.R_alloc | apply Kd.R_drewN | apply Kd.R_drew)); exact Kd.R_mono HO465.out (fun _ hk => ⟨hk.1.1.2, ⟨hk.1.2, hk.2⟩⟩)⟩, ⟨by (with_reducible repeat (first | apply Kd.R_alloc | apply Kd.R_drewN | apply Kd.R_drew)); exact Kd.R_mono HO469.out (fun _ hk => ⟨hk.1.1.2, ⟨hk.1.2, hk.2⟩⟩)⟩, ⟨by repeat (first | (with_reducible first | exact HB.out | apply below_alloc | apply pw_below_drewN | apply below_drew1) | exact HB.out)⟩⟩
    ·replace c14 := Bool.eq_false_iff.mpr c14
     subst c14
     have H1 : (laws_FnTwinPoints.j0 k t456 t457 t462 t463 t466 t467 true) = some r := by rw [if_neg (show ¬ (false = true) by decide)] at H; exact H
     clear H
     have H := H1
     clear H1
     have H' := Aside0.mk H
     clear H
     obtain ⟨Ao17, co17, eo17⟩ := Kd.R_slice HO465.out
     subst eo17
     obtain ⟨Ao18, co18, eo18⟩ := Kd.R_slice HO469.out
     subst eo18
     go_wp2_with (first | (go_at_call 25; (with_reducible refine (laws_sameInts.calls k _ _ t462 _ _ t466 false _ ?side1 ?side2 ?side3 ?side4 A13.out).mono ?_); (case side1 => exact cc_ HO465); (case side2 => exact (Kd.R_reads' HO465.out).2.1); (case side3 => exact cc_ HO469); (case side4 => exact (Kd.R_reads' HO469.out).2.1); rintro e w' ⟨rfl, ⟨nd, rfl⟩⟩))
     go_meet
     case rel => exact ⟨_, (true), (by first | rfl | (simp; done) | (simp [*]; done)), H', ⟨by first | omega | exact Nat.le_refl _⟩, ⟨by (with_reducible repeat (first | apply Kd.R_alloc | apply Kd.R_drewN | apply Kd.R_drew)); exact Kd.R_mono HO459.out (fun _ hk => ⟨hk.1.1, ⟨hk.1.2, hk.2⟩⟩)⟩, ⟨by (with_reducible repeat (first | apply Kd.R_alloc | apply Kd.R_drewN | apply Kd.R_drew)); exact Kd.R_mono HO461.out (fun _ hk => ⟨hk.1.1, ⟨hk.1.2, hk.2⟩⟩)⟩, ⟨by (with_reducible repeat (first | apply Kd.R_alloc | apply Kd.R_drewN | apply Kd.R_drew)); exact Kd.R_mono HO465.out (fun _ hk => ⟨hk.1.1.2, ⟨hk.1.2, hk.2⟩⟩)⟩, ⟨by (with_reducible repeat (first | apply Kd.R_alloc | apply Kd.R_drewN | apply Kd.R_drew)); exact Kd.R_mono HO469.out (fun _ hk => ⟨hk.1.1.2, ⟨hk.1.2, hk.2⟩⟩)⟩, ⟨by repeat (first | (with_reducible first | exact HB.out | apply below_alloc | apply pw_below_drewN | apply below_drew1) | exact HB.out)⟩⟩
  case rest =>
   clear HC6
   try clear c1
   try clear c2
   try clear c2b0
   try clear c2b1
   try clear p2
   try clear c6
   try clear c12
   try clear c12b0
   try clear c12b1
   try clear c12b2
   try clear c14
   try clear c18
   obtain ⟨kq, x47_5, rfl, HA, HJ5, HO_3, HO_4, HO_5, HO_7, HB⟩ := hcut
   cases kq with
   | zero => exact absurd HA.out (by simp [laws_FnTwinPoints.j0])
   | succ kj5 =>
    have H := HA.out
    clear HA
    simp only [laws_FnTwinPoints.j0] at H
    by_cases c19 : x47_5 = true
    ·subst c19
     have H1 : (if (t463 == t467) = true then ((laws_sameInts.f kj5 t462 t466).bind fun t471 => (some t471)) else (some false)) = some r := by rw [if_pos rfl] at H; exact H
     clear H
     have H := H1
     clear H1
     by_cases c20 : (t463 == t467) = true
     ·rw [if_pos c20] at H
      have c20b0 : (t463 == t467) = true := c20
      (try (have c20b1 : decide (t463 = t467) = true := by simpa using c20))
      (try (have c20b2 : (t463 == t467) = true := by simpa using c20))
      clear c20
      replace H := Option.bind_eq_some_iff.mp H
      obtain ⟨t471, A210, H⟩ := H
      replace H : (some t471) = some r := H
      have A21 := Aside0.mk A210
      clear A210
      obtain rfl := Option.some.inj H
      obtain ⟨Ao22, co22, eo22⟩ := Kd.R_slice HO_5.out
      subst eo22
      obtain ⟨Ao23, co23, eo23⟩ := Kd.R_slice HO_7.out
      subst eo23
      go_wp2_with (first | (go_at_call 25; (with_reducible refine (laws_sameInts.calls kj5 _ _ t462 _ _ t466 t471 _ ?side1 ?side2 ?side3 ?side4 A21.out).mono ?_); (case side1 => exact cc_ HO_5); (case side2 => exact (Kd.R_reads' HO_5.out).2.1); (case side3 => exact cc_ HO_7); (case side4 => exact (Kd.R_reads' HO_7.out).2.1); rintro e w' ⟨rfl, ⟨nd, rfl⟩⟩))
      go_ret
      exact ⟨ee_, bb_ HB⟩
     ·rw [if_neg c20] at H
      have c20b0 : (t463 == t467) = false := by simpa using c20
      (try (have c20b1 : decide (t463 = t467) = false := by simpa using c20))
      (try (have c20b2 : (t463 == t467) = false := by simpa using c20))
      (try (have c20b3 : ¬ (t463 = t467) := by simpa using c20))
      clear c20
      obtain rfl := Option.some.inj H
      go_wp2
      go_ret
      exact ⟨ee_, bb_ HB⟩
    ·replace c19 := Bool.eq_false_iff.mpr c19
     subst c19
     have H1 : (if 1 < (t457.length : Int) then (if 2 < (t457.length : Int) then ((impl_PlaneJoin.f kj5 t456 (rd t457 1) (rd t457 2)).bind fun bt474 => (if 4 < (t457.length : Int) then (if 5 < (t457.length : Int) then ((impl_PlaneJoin.f kj5 t456 (rd t457 4) (rd t457 5)).bind fun bt478 => (if 0 < (t457.length : Int) then (if 6 < (t457.length : Int) then (if 3 < (t457.length : Int) then ((impl_TwinPoints.f kj5 t456 (([rd t457 0, rd t457 4, rd t457 5, rd t457 6, rd t457 1, rd t457 2, rd t457 3] : List Int))).bind fun bt490 => (if bt474.2 = true then (if bt478.2 = true then (if bt490.2 = true then ((laws_sameInts.f kj5 bt490.1 t462).bind fun t494 => (if t494 = true then (if 0 < (t462.length : Int) then ((impl_PlaneOn.f t456 (rd t462 0) bt474.1).bind fun t496 => (if t496 = true then ((impl_PlaneOn.f t456 (rd t462 0) bt478.1).bind fun t498 => (some t498)) else (some false))) else (none)) else (some false))) else (some false)) else (some false)) else (some false))) else (none)) else (none)) else (none))) else (none)) else (none))) else (none)) else (none)) = some r := by rw [if_neg (show ¬ (false = true) by decide)] at H; exact H
     clear H
     have H := H1
     clear H1
     by_cases c24 : 1 < (t457.length : Int)
     ·rw [if_pos c24] at H
      have c24b0 : decide (1 < (t457.length : Int)) = true := decide_eq_true c24
      have c24b1 : decide (1 < t457.length) = true := decide_eq_true (by omega)
      clear c24
      by_cases c25 : 2 < (t457.length : Int)
      ·rw [if_pos c25] at H
       have c25b0 : decide (2 < (t457.length : Int)) = true := decide_eq_true c25
       have c25b1 : decide (2 < t457.length) = true := decide_eq_true (by omega)
       clear c25
       replace H := Option.bind_eq_some_iff.mp H
       obtain ⟨⟨t474, t475⟩, A260, H⟩ := H
       replace H : (if 4 < (t457.length : Int) then (if 5 < (t457.length : Int) then ((impl_PlaneJoin.f kj5 t456 (rd t457 4) (rd t457 5)).bind fun bt478 => (if 0 < (t457.length : Int) then (if 6 < (t457.length : Int) then (if 3 < (t457.length : Int) then ((impl_TwinPoints.f kj5 t456 (([rd t457 0, rd t457 4, rd t457 5, rd t457 6, rd t457 1, rd t457 2, rd t457 3] : List Int))).bind fun bt490 => (if t475 = true then (if bt478.2 = true then (if bt490.2 = true then ((laws_sameInts.f kj5 bt490.1 t462).bind fun t494 => (if t494 = true then (if 0 < (t462.length : Int) then ((impl_PlaneOn.f t456 (rd t462 0) t474).bind fun t496 => (if t496 = true then ((impl_PlaneOn.f t456 (rd t462 0) bt478.1).bind fun t498 => (some t498)) else (some false))) else (none)) else (some false))) else (some false)) else (some false)) else (some false))) else (none)) else (none)) else (none))) else (none)) else (none)) = some r := H
       have A26 := Aside0.mk A260
       clear A260
       by_cases c27 : 4 < (t457.length : Int)
       ·rw [if_pos c27] at H
        have c27b0 : decide (4 < (t457.length : Int)) = true := decide_eq_true c27
        have c27b1 : decide (4 < t457.length) = true := decide_eq_true (by omega)
        clear c27
        by_cases c28 : 5 < (t457.length : Int)
        ·rw [if_pos c28] at H
         have c28b0 : decide (5 < (t457.length : Int)) = true := decide_eq_true c28
         have c28b1 : decide (5 < t457.length) = true := decide_eq_true (by omega)
         clear c28
         replace H := Option.bind_eq_some_iff.mp H
         obtain ⟨⟨t478, t479⟩, A290, H⟩ := H
         replace H : (if 0 < (t457.length : Int) then (if 6 < (t457.length : Int) then (if 3 < (t457.length : Int) then ((impl_TwinPoints.f kj5 t456 (([rd t457 0, rd t457 4, rd t457 5, rd t457 6, rd t457 1, rd t457 2, rd t457 3] : List Int))).bind fun bt490 => (if t475 = true then (if t479 = true then (if bt490.2 = true then ((laws_sameInts.f kj5 bt490.1 t462).bind fun t494 => (if t494 = true then (if 0 < (t462.length : Int) then ((impl_PlaneOn.f t456 (rd t462 0) t474).bind fun t496 => (if t496 = true then ((impl_PlaneOn.f t456 (rd t462 0) t478).bind fun t498 => (some t498)) else (some false))) else (none)) else (some false))) else (some false)) else (some false)) else (some false))) else (none)) else (none)) else (none)) = some r := H
         have A29 := Aside0.mk A290
         clear A290
         by_cases c30 : 0 < (t457.length : Int)
         ·rw [if_pos c30] at H
          have c30b0 : decide (0 < (t457.length : Int)) = true := decide_eq_true c30
          have c30b1 : decide (0 < t457.length) = true := decide_eq_true (by omega)
          clear c30
          by_cases c31 : 6 < (t457.length : Int)
          ·rw [if_pos c31] at H
           have c31b0 : decide (6 < (t457.length : Int)) = true := decide_eq_true c31
           have c31b1 : decide (6 < t457.length) = true := decide_eq_true (by omega)
           clear c31
           by_cases c32 : 3 < (t457.length : Int)
           ·rw [if_pos c32] at H
            have c32b0 : decide (3 < (t457.length : Int)) = true := decide_eq_true c32
            have c32b1 : decide (3 < t457.length) = true := decide_eq_true (by omega)
            clear c32
            obtain ⟨y487, hy487⟩ : ∃ y_ : List Int, y_ = (([rd t457 0, rd t457 4, rd t457 5, rd t457 6, rd t457 1, rd t457 2, rd t457 3] : List Int)) := ⟨_, rfl⟩
            replace H : ((impl_TwinPoints.f kj5 t456 y487).bind fun bt490 => (if t475 = true then (if t479 = true then (if bt490.2 = true then ((laws_sameInts.f kj5 bt490.1 t462).bind fun t494 => (if t494 = true then (if 0 < (t462.length : Int) then ((impl_PlaneOn.f t456 (rd t462 0) t474).bind fun t496 => (if t496 = true then ((impl_PlaneOn.f t456 (rd t462 0) t478).bind fun t498 => (some t498)) else (some false))) else (none)) else (some false))) else (some false)) else (some false)) else (some false))) = some r := by first | (rw [hy487]; with_reducible exact H) | (have H2_ := (Option.bind_some _ _).symm.trans H; rw [hy487]; with_reducible exact H2_) | (have H2_ := (Option.bind_some _ _).symm.trans H; with_reducible exact H2_) | with_reducible exact H | (rw [hy487]; exact H) | exact H
            have Ny487 := Aside0.mk hy487
            clear hy487
            replace H := Option.bind_eq_some_iff.mp H
            obtain ⟨⟨t490, t491⟩, A330, H⟩ := H
            replace H : (if t475 = true then (if t479 = true then (if t491 = true then ((laws_sameInts.f kj5 t490 t462).bind fun t494 => (if t494 = true then (if 0 < (t462.length : Int) then ((impl_PlaneOn.f t456 (rd t462 0) t474).bind fun t496 => (if t496 = true then ((impl_PlaneOn.f t456 (rd t462 0) t478).bind fun t498 => (some t498)) else (some false))) else (none)) else (some false))) else (some false)) else (some false)) else (some false)) = some r := H
            have A33 := Aside0.mk A330
            clear A330
            by_cases c34 : t475 = true
            ·subst c34
             have H1 : (if t479 = true then (if t491 = true then ((laws_sameInts.f kj5 t490 t462).bind fun t494 => (if t494 = true then (if 0 < (t462.length : Int) then ((impl_PlaneOn.f t456 (rd t462 0) t474).bind fun t496 => (if t496 = true then ((impl_PlaneOn.f t456 (rd t462 0) t478).bind fun t498 => (some t498)) else (some false))) else (none)) else (some false))) else (some false)) else (some false)) = some r := by rw [if_pos rfl] at H; exact H
             clear H
             have H := H1
             clear H1
             by_cases c35 : t479 = true
             ·subst c35
              have H1 : (if t491 = true then ((laws_sameInts.f kj5 t490 t462).bind fun t494 => (if t494 = true then (if 0 < (t462.length : Int) then ((impl_PlaneOn.f t456 (rd t462 0) t474).bind fun t496 => (if t496 = true then ((impl_PlaneOn.f t456 (rd t462 0) t478).bind fun t498 => (some t498)) else (some false))) else (none)) else (some false))) else (some false)) = some r := by rw [if_pos rfl] at H; exact H
              clear H
              have H := H1
              clear H1
              by_cases c36 : t491 = true
              ·subst c36
               have H1 : ((laws_sameInts.f kj5 t490 t462).bind fun t494 => (if t494 = true then (if 0 < (t462.length : Int) then ((impl_PlaneOn.f t456 (rd t462 0) t474).bind fun t496 => (if t496 = true then ((impl_PlaneOn.f t456 (rd t462 0) t478).bind fun t498 => (some t498)) else (some false))) else (none)) else (some false))) = some r := by rw [if_pos rfl] at H; exact H
               clear H
               have H := H1
               clear H1
               replace H := Option.bind_eq_some_iff.mp H
               obtain ⟨t494, A370, H⟩ := H
               replace H : (if t494 = true then (if 0 < (t462.length : Int) then ((impl_PlaneOn.f t456 (rd t462 0) t474).bind fun t496 => (if t496 = true then ((impl_PlaneOn.f t456 (rd t462 0) t478).bind fun t498 => (some t498)) else (some false))) else (none)) else (some false)) = some r := H
               have A37 := Aside0.mk A370
               clear A370
               by_cases c38 : t494 = true
               ·subst c38
                have H1 : (if 0 < (t462.length : Int) then ((impl_PlaneOn.f t456 (rd t462 0) t474).bind fun t496 => (if t496 = true then ((impl_PlaneOn.f t456 (rd t462 0) t478).bind fun t498 => (some t498)) else (some false))) else (none)) = some r := by rw [if_pos rfl] at H; exact H
                clear H
                have H := H1
                clear H1
                by_cases c39 : 0 < (t462.length : Int)
                ·rw [if_pos c39] at H
                 have c39b0 : decide (0 < (t462.length : Int)) = true := decide_eq_true c39
                 have c39b1 : decide (0 < t462.length) = true := decide_eq_true (by omega)
                 clear c39
                 replace H := Option.bind_eq_some_iff.mp H
                 obtain ⟨t496, A400, H⟩ := H
                 replace H : (if t496 = true then ((impl_PlaneOn.f t456 (rd t462 0) t478).bind fun t498 => (some t498)) else (some false)) = some r := H
                 have A40 := Aside0.mk A400
                 clear A400
                 by_cases c41 : t496 = true
                 ·subst c41
                  have H1 : ((impl_PlaneOn.f t456 (rd t462 0) t478).bind fun t498 => (some t498)) = some r := by rw [if_pos rfl] at H; exact H
                  clear H
                  have H := H1
                  clear H1
                  replace H := Option.bind_eq_some_iff.mp H
                  obtain ⟨t498, A420, H⟩ := H
                  replace H : (some t498) = some r := H
                  have A42 := Aside0.mk A420
                  clear A420
                  obtain rfl := Option.some.inj H
                  try go_wp2
                  have n0_ := Aside0.mk (Kd.R_drew HO_3.out)
                  have n1_ := Aside0.mk (Kd.R_drew HO_4.out)
                  have n2_ := Aside0.mk (Kd.R_drew HO_5.out)
                  have n3_ := Aside0.mk (Kd.R_drew HO_7.out)
                  have n4_ := Aside0.mk (below_drew1 HB.out)
                  clear HO_3
                  clear HO_4
                  clear HO_5
                  clear HO_7
                  clear HB
                  have HO_3 := n0_
                  have HO_4 := n1_
                  have HO_5 := n2_
                  have HO_7 := n3_
                  have HB := n4_
                  clear n0_ n1_ n2_ n3_ n4_
                  have p472 : 0 ≤ (1 : Int) := (by omega)
                  have q472 : 1 < (t457.length : Int) := dd_
                  obtain ⟨ad472, e472, hx472_0⟩ := Kd.at_int (Kd.R_reads' HO_4.out).2.2 1 p472 q472
                  cases e472
                  (try simp only [show (1 : Int).toNat = 1 from rfl, Nat.reduceMul, Nat.reduceEqDiff, Go.Addr.add, ↓reduceIte] at hx472_0)
                  have qi472 : (1 < t457.length) = True := eq_true (by omega)
                  (try rw [show ((1 : Int)).toNat = 1 from rfl] at hx472_0)
                  replace p472 := eq_true p472
                  replace q472 := eq_true q472
                  have p473 : 0 ≤ (2 : Int) := (by omega)
                  have q473 : 2 < (t457.length : Int) := dd_
                  obtain ⟨ad473, e473, hx473_0⟩ := Kd.at_int (Kd.R_reads' HO_4.out).2.2 2 p473 q473
                  obtain rfl : ad472 = ad473 := (by injection e473)
                  (try simp only [show (2 : Int).toNat = 2 from rfl, Nat.reduceMul, Nat.reduceEqDiff, Go.Addr.add, ↓reduceIte] at hx473_0)
                  have qi473 : (2 < t457.length) = True := eq_true (by omega)
                  (try rw [show ((2 : Int)).toNat = 2 from rfl] at hx473_0)
                  replace p473 := eq_true p473
                  replace q473 := eq_true q473
                  refine start_ (n := 13) (S := fun w' => w'.cell? ⟨ad472.block, ad472.off + 1, none⟩ = some (.int .i64 (rd t457 1)) ∧ w'.cell? ⟨ad472.block, ad472.off + 2, none⟩ = some (.int .i64 (rd t457 2))) (ds := []) #[F_,F_,F_,F_,F_,F_,F_,F_,F_,F_,F_,F_,F_] (by kernel_rfl) rfl rfl ⟨hx472_0, hx473_0⟩ (fun hHeld => ?_); refine with_tabW laws_FnTwinPoints.tab8 laws_FnTwinPoints.bits8 (fun HT_ HW_ => ?_)
                  generalize wc.drew = w43 at HO_3 HO_4 HO_5 HO_7 HB hx472_0 hx473_0 hHeld ⊢
                  refine p_ 0 57 (m_ 13 1) HT_.out ?_
                  refine p_ 1 58 (m_ 13 3) HT_.out ?_
                  refine p_ 2 59 (m_ 13 7) HT_.out ?_
                  refine p_ 4 61 (m_ 13 23) HT_.out ?_
                  refine p_ 5 62 (m_ 13 55) HT_.out ?_
                  refine t2_ 3 60 (m_ 13 63) HT_.out HW_.out hHeld ?_
                  refine t2_ 6 63 (m_ 13 127) HT_.out HW_.out hHeld ?_
                  refine one_ (i := 7) (N := some 64) (m_ 13 255) rfl rfl (one_of HT_.out (by kernel_rfl)) (by decide) (fun K hK => ?_)
                  refine goes_ Try.func26 (by kernel_rfl) rfl #[.slice Ao8 t456.length co8, .int .i64 (rd t457 1), .int .i64 (rd t457 2)] (by rfl) rfl rfl ll_ ?_
                  with_reducible refine (impl_PlaneJoin.calls kj5 _ _ t456 (rd t457 1) (rd t457 2) t474 true _ ?side1 ?side2 A26.out).mono ?_
                  (case side1 => exact cc_ HO_3)
                  (case side2 => exact (Kd.R_reads' HO_3.out).2.1)
                  rintro e w44 ⟨rfl, hb⟩
                  have HS0_ := (hb.cell (World.block_lt_of_cell? _ _ (hHeld.1))).trans (hHeld.1)
                  have HS1_ := (hb.cell (World.block_lt_of_cell? _ _ (hHeld.2))).trans (hHeld.2)
                  refine ⟨_, rfl, ?_⟩
                  have n0_ := Aside0.mk (Kd.R_below (rr_ HO_3) hb)
                  have n1_ := Aside0.mk (Kd.R_below (rr_ HO_4) hb)
                  have n2_ := Aside0.mk (Kd.R_below (rr_ HO_5) hb)
                  have n3_ := Aside0.mk (Kd.R_below (rr_ HO_7) hb)
                  have n4_ := Aside0.mk (below_step (bb_ HB) hb)
                  clear HO_3
                  clear HO_4
                  clear HO_5
                  clear HO_7
                  clear HB
                  have HO_3 := n0_
                  have HO_4 := n1_
                  have HO_5 := n2_
                  have HO_7 := n3_
                  have HB := n4_
                  clear n0_ n1_ n2_ n3_ n4_
                  (try clear hb)
                  (try clear hb2)
                  (try clear hk)
                  (try clear hi)
                  refine hK.out _ _ ⟨HS0_, HS1_⟩ (fun hHeld => ?_)
                  clear hK K
                  refine norm_ (a' := ?_) ?_ ?_; rotate_left; (show Act.put _ (some 64) _ = _; simp only [Act.put, List.setIfInBounds_toArray, List.set_cons_zero, List.set_cons_succ, i64_w, i32_w]; rfl)
                  refine p_ 8 56 (m_ 13 511) HT_.out ?_
                  refine p_ 9 65 (m_ 13 1023) HT_.out ?_
                  refine p_ 10 66 (m_ 13 2047) HT_.out ?_
                  refine p_ 11 9 (m_ 13 4095) HT_.out ?_
                  refine p_ 12 10 (m_ 13 8191) HT_.out ?_
                  refine done_ (done_of HT_.out (by kernel_rfl)) ?_
                  try go_wp2
                  have n0_ := Aside0.mk (Kd.R_drew HO_3.out)
                  have n1_ := Aside0.mk (Kd.R_drew HO_4.out)
                  have n2_ := Aside0.mk (Kd.R_drew HO_5.out)
                  have n3_ := Aside0.mk (Kd.R_drew HO_7.out)
                  have n4_ := Aside0.mk (below_drew1 HB.out)
                  clear HO_3
                  clear HO_4
                  clear HO_5
                  clear HO_7
                  clear HB
                  have HO_3 := n0_
                  have HO_4 := n1_
                  have HO_5 := n2_
                  have HO_7 := n3_
                  have HB := n4_
                  clear n0_ n1_ n2_ n3_ n4_
                  have p476 : 0 ≤ (4 : Int) := (by omega)
                  have q476 : 4 < (t457.length : Int) := dd_
                  obtain ⟨ad476, e476, hx476_0⟩ := Kd.at_int (Kd.R_reads' HO_4.out).2.2 4 p476 q476
                  obtain rfl : ad472 = ad476 := (by injection e476)
                  (try simp only [show (4 : Int).toNat = 4 from rfl, Nat.reduceMul, Nat.reduceEqDiff, Go.Addr.add, ↓reduceIte] at hx476_0)
                  have qi476 : (4 < t457.length) = True := eq_true (by omega)
                  (try rw [show ((4 : Int)).toNat = 4 from rfl] at hx476_0)
                  replace p476 := eq_true p476
                  replace q476 := eq_true q476
                  have p477 : 0 ≤ (5 : Int) := (by omega)
                  have q477 : 5 < (t457.length : Int) := dd_
                  obtain ⟨ad477, e477, hx477_0⟩ := Kd.at_int (Kd.R_reads' HO_4.out).2.2 5 p477 q477
                  obtain rfl : ad472 = ad477 := (by injection e477)
                  (try simp only [show (5 : Int).toNat = 5 from rfl, Nat.reduceMul, Nat.reduceEqDiff, Go.Addr.add, ↓reduceIte] at hx477_0)
                  have qi477 : (5 < t457.length) = True := eq_true (by omega)
                  (try rw [show ((5 : Int)).toNat = 5 from rfl] at hx477_0)
                  replace p477 := eq_true p477
                  replace q477 := eq_true q477
                  refine start_ (n := 13) (S := fun w' => w'.cell? ⟨ad472.block, ad472.off + 4, none⟩ = some (.int .i64 (rd t457 4)) ∧ w'.cell? ⟨ad472.block, ad472.off + 5, none⟩ = some (.int .i64 (rd t457 5))) (ds := []) #[F_,F_,F_,F_,F_,F_,F_,F_,F_,F_,F_,F_,F_] (by kernel_rfl) rfl rfl ⟨hx476_0, hx477_0⟩ (fun hHeld => ?_); refine with_tabW laws_FnTwinPoints.tab9 laws_FnTwinPoints.bits9 (fun HT_ HW_ => ?_)
                  generalize w44.drew = w45 at HO_3 HO_4 HO_5 HO_7 HB hx476_0 hx477_0 hHeld ⊢
                  refine p_ 0 68 (m_ 13 1) HT_.out ?_
                  refine p_ 1 69 (m_ 13 3) HT_.out ?_
                  refine p_ 2 70 (m_ 13 7) HT_.out ?_
                  refine p_ 4 72 (m_ 13 23) HT_.out ?_
                  refine p_ 5 73 (m_ 13 55) HT_.out ?_
                  refine t2_ 3 71 (m_ 13 63) HT_.out HW_.out hHeld ?_
                  refine t2_ 6 74 (m_ 13 127) HT_.out HW_.out hHeld ?_
                  refine one_ (i := 7) (N := some 75) (m_ 13 255) rfl rfl (one_of HT_.out (by kernel_rfl)) (by decide) (fun K hK => ?_)
                  refine goes_ Try.func26 (by kernel_rfl) rfl #[.slice Ao8 t456.length co8, .int .i64 (rd t457 4), .int .i64 (rd t457 5)] (by rfl) rfl rfl ll_ ?_
                  with_reducible refine (impl_PlaneJoin.calls kj5 _ _ t456 (rd t457 4) (rd t457 5) t478 true _ ?side1 ?side2 A29.out).mono ?_
                  (case side1 => exact cc_ HO_3)
                  (case side2 => exact (Kd.R_reads' HO_3.out).2.1)
                  rintro e w46 ⟨rfl, hb⟩
                  have HS0_ := (hb.cell (World.block_lt_of_cell? _ _ (hHeld.1))).trans (hHeld.1)
                  have HS1_ := (hb.cell (World.block_lt_of_cell? _ _ (hHeld.2))).trans (hHeld.2)
                  refine ⟨_, rfl, ?_⟩
                  have n0_ := Aside0.mk (Kd.R_below (rr_ HO_3) hb)
                  have n1_ := Aside0.mk (Kd.R_below (rr_ HO_4) hb)
                  have n2_ := Aside0.mk (Kd.R_below (rr_ HO_5) hb)
                  have n3_ := Aside0.mk (Kd.R_below (rr_ HO_7) hb)
                  have n4_ := Aside0.mk (below_step (bb_ HB) hb)
                  clear HO_3
                  clear HO_4
                  clear HO_5
                  clear HO_7
                  clear HB
                  have HO_3 := n0_
                  have HO_4 := n1_
                  have HO_5 := n2_
                  have HO_7 := n3_
                  have HB := n4_
                  clear n0_ n1_ n2_ n3_ n4_
                  (try clear hb)
                  (try clear hb2)
                  (try clear hk)
                  (try clear hi)
                  refine hK.out _ _ ⟨HS0_, HS1_⟩ (fun hHeld => ?_)
                  clear hK K
                  refine norm_ (a' := ?_) ?_ ?_; rotate_left; (show Act.put _ (some 75) _ = _; simp only [Act.put, List.setIfInBounds_toArray, List.set_cons_zero, List.set_cons_succ, i64_w, i32_w]; rfl)
                  refine p_ 8 67 (m_ 13 511) HT_.out ?_
                  refine p_ 9 76 (m_ 13 1023) HT_.out ?_
                  refine p_ 10 77 (m_ 13 2047) HT_.out ?_
                  refine p_ 11 11 (m_ 13 4095) HT_.out ?_
                  refine p_ 12 12 (m_ 13 8191) HT_.out ?_
                  refine done_ (done_of HT_.out (by kernel_rfl)) ?_
                  try go_wp2
                  have n0_ := Aside0.mk (Kd.R_drew HO_3.out)
                  have n1_ := Aside0.mk (Kd.R_drew HO_4.out)
                  have n2_ := Aside0.mk (Kd.R_drew HO_5.out)
                  have n3_ := Aside0.mk (Kd.R_drew HO_7.out)
                  have n4_ := Aside0.mk (below_drew1 HB.out)
                  clear HO_3
                  clear HO_4
                  clear HO_5
                  clear HO_7
                  clear HB
                  have HO_3 := n0_
                  have HO_4 := n1_
                  have HO_5 := n2_
                  have HO_7 := n3_
                  have HB := n4_
                  clear n0_ n1_ n2_ n3_ n4_
                  have p480 : 0 ≤ (0 : Int) := (by omega)
                  have q480 : 0 < (t457.length : Int) := dd_
                  obtain ⟨ad480, e480, hx480_0⟩ := Kd.at_int (Kd.R_reads' HO_4.out).2.2 0 p480 q480
                  obtain rfl : ad472 = ad480 := (by injection e480)
                  have qi480 : (0 < t457.length) = True := eq_true (by omega)
                  (try rw [show ((0 : Int)).toNat = 0 from rfl] at hx480_0)
                  (try rw [Addr.add_zero'] at hx480_0)
                  replace p480 := eq_true p480
                  replace q480 := eq_true q480
                  have p481 : 0 ≤ (4 : Int) := (by omega)
                  have q481 : 4 < (t457.length : Int) := dd_
                  obtain ⟨ad481, e481, hx481_0⟩ := Kd.at_int (Kd.R_reads' HO_4.out).2.2 4 p481 q481
                  obtain rfl : ad472 = ad481 := (by injection e481)
                  (try simp only [show (4 : Int).toNat = 4 from rfl, Nat.reduceMul, Nat.reduceEqDiff, Go.Addr.add, ↓reduceIte] at hx481_0)
                  have qi481 : (4 < t457.length) = True := eq_true (by omega)
                  (try rw [show ((4 : Int)).toNat = 4 from rfl] at hx481_0)
                  replace p481 := eq_true p481
                  replace q481 := eq_true q481
                  have p482 : 0 ≤ (5 : Int) := (by omega)
                  have q482 : 5 < (t457.length : Int) := dd_
                  obtain ⟨ad482, e482, hx482_0⟩ := Kd.at_int (Kd.R_reads' HO_4.out).2.2 5 p482 q482
                  obtain rfl : ad472 = ad482 := (by injection e482)
                  (try simp only [show (5 : Int).toNat = 5 from rfl, Nat.reduceMul, Nat.reduceEqDiff, Go.Addr.add, ↓reduceIte] at hx482_0)
                  have qi482 : (5 < t457.length) = True := eq_true (by omega)
                  (try rw [show ((5 : Int)).toNat = 5 from rfl] at hx482_0)
                  replace p482 := eq_true p482
                  replace q482 := eq_true q482
                  have p483 : 0 ≤ (6 : Int) := (by omega)
                  have q483 : 6 < (t457.length : Int) := dd_
                  obtain ⟨ad483, e483, hx483_0⟩ := Kd.at_int (Kd.R_reads' HO_4.out).2.2 6 p483 q483
                  obtain rfl : ad472 = ad483 := (by injection e483)
                  (try simp only [show (6 : Int).toNat = 6 from rfl, Nat.reduceMul, Nat.reduceEqDiff, Go.Addr.add, ↓reduceIte] at hx483_0)
                  have qi483 : (6 < t457.length) = True := eq_true (by omega)
                  (try rw [show ((6 : Int)).toNat = 6 from rfl] at hx483_0)
                  replace p483 := eq_true p483
                  replace q483 := eq_true q483
                  have p484 : 0 ≤ (1 : Int) := (by omega)
                  have q484 : 1 < (t457.length : Int) := dd_
                  obtain ⟨ad484, e484, hx484_0⟩ := Kd.at_int (Kd.R_reads' HO_4.out).2.2 1 p484 q484
                  obtain rfl : ad472 = ad484 := (by injection e484)
                  (try simp only [show (1 : Int).toNat = 1 from rfl, Nat.reduceMul, Nat.reduceEqDiff, Go.Addr.add, ↓reduceIte] at hx484_0)
                  have qi484 : (1 < t457.length) = True := eq_true (by omega)
                  (try rw [show ((1 : Int)).toNat = 1 from rfl] at hx484_0)
                  replace p484 := eq_true p484
                  replace q484 := eq_true q484
                  have p485 : 0 ≤ (2 : Int) := (by omega)
                  have q485 : 2 < (t457.length : Int) := dd_
                  obtain ⟨ad485, e485, hx485_0⟩ := Kd.at_int (Kd.R_reads' HO_4.out).2.2 2 p485 q485
                  obtain rfl : ad472 = ad485 := (by injection e485)
                  (try simp only [show (2 : Int).toNat = 2 from rfl, Nat.reduceMul, Nat.reduceEqDiff, Go.Addr.add, ↓reduceIte] at hx485_0)
                  have qi485 : (2 < t457.length) = True := eq_true (by omega)
                  (try rw [show ((2 : Int)).toNat = 2 from rfl] at hx485_0)
                  replace p485 := eq_true p485
                  replace q485 := eq_true q485
                  have p486 : 0 ≤ (3 : Int) := (by omega)
                  have q486 : 3 < (t457.length : Int) := dd_
                  obtain ⟨ad486, e486, hx486_0⟩ := Kd.at_int (Kd.R_reads' HO_4.out).2.2 3 p486 q486
                  obtain rfl : ad472 = ad486 := (by injection e486)
                  (try simp only [show (3 : Int).toNat = 3 from rfl, Nat.reduceMul, Nat.reduceEqDiff, Go.Addr.add, ↓reduceIte] at hx486_0)
                  have qi486 : (3 < t457.length) = True := eq_true (by omega)
                  (try rw [show ((3 : Int)).toNat = 3 from rfl] at hx486_0)
                  replace p486 := eq_true p486
                  replace q486 := eq_true q486
                  refine start_ (n := 29) (S := fun w' => w'.cell? ad472 = some (.int .i64 (rd t457 0)) ∧ w'.cell? ⟨ad472.block, ad472.off + 4, none⟩ = some (.int .i64 (rd t457 4)) ∧ w'.cell? ⟨ad472.block, ad472.off + 5, none⟩ = some (.int .i64 (rd t457 5)) ∧ w'.cell? ⟨ad472.block, ad472.off + 6, none⟩ = some (.int .i64 (rd t457 6)) ∧ w'.cell? ⟨ad472.block, ad472.off + 1, none⟩ = some (.int .i64 (rd t457 1)) ∧ w'.cell? ⟨ad472.block, ad472.off + 2, none⟩ = some (.int .i64 (rd t457 2)) ∧ w'.cell? ⟨ad472.block, ad472.off + 3, none⟩ = some (.int .i64 (rd t457 3))) (ds := []) #[F_,F_,F_,F_,F_,F_,F_,F_,F_,F_,F_,F_,F_,F_,F_,F_,F_,F_,F_,F_,F_,F_,F_,F_,F_,F_,F_,F_,F_] (by kernel_rfl) rfl rfl ⟨hx480_0, hx481_0, hx482_0, hx483_0, hx484_0, hx485_0, hx486_0⟩ (fun hHeld => ?_); refine with_tabW laws_FnTwinPoints.tab10 laws_FnTwinPoints.bits10 (fun HT_ HW_ => ?_)
                  generalize w46.drew = w47 at HO_3 HO_4 HO_5 HO_7 HB hx480_0 hx481_0 hx482_0 hx483_0 hx484_0 hx485_0 hx486_0 hHeld ⊢
                  refine p_ 0 79 (m_ 29 1) HT_.out ?_
                  refine p_ 1 80 (m_ 29 3) HT_.out ?_
                  refine p_ 2 81 (m_ 29 7) HT_.out ?_
                  refine p_ 4 83 (m_ 29 23) HT_.out ?_
                  refine p_ 5 84 (m_ 29 55) HT_.out ?_
                  refine p_ 7 86 (m_ 29 183) HT_.out ?_
                  refine p_ 8 87 (m_ 29 439) HT_.out ?_
                  refine p_ 10 89 (m_ 29 1463) HT_.out ?_
                  refine p_ 11 90 (m_ 29 3511) HT_.out ?_
                  refine p_ 13 92 (m_ 29 11703) HT_.out ?_
                  refine p_ 14 93 (m_ 29 28087) HT_.out ?_
                  refine p_ 16 95 (m_ 29 93623) HT_.out ?_
                  refine p_ 17 96 (m_ 29 224695) HT_.out ?_
                  refine p_ 19 98 (m_ 29 748983) HT_.out ?_
                  refine p_ 20 99 (m_ 29 1797559) HT_.out ?_
                  refine take_ (i := 3) (N := some 82) (v := ?_) (a' := ?_) (m_ 29 1797567) rfl rfl (take_ofW HT_.out HW_.out (by kernel_rfl)) (fun _ _ _ h => h) (Or.inl ⟨by rfl, ?_⟩) hHeld ?_ ?_; rotate_left; (rintro w' ⟨s0, s1, s2, s3, s4, s5, s6⟩; go_simp; with_reducible rfl); rotate_left; (simp only [Act.put, List.setIfInBounds_toArray, List.set_cons_zero, List.set_cons_succ, i64_w, i32_w]; rfl)
                  refine take_ (i := 6) (N := some 85) (v := ?_) (a' := ?_) (m_ 29 1797631) rfl rfl (take_ofW HT_.out HW_.out (by kernel_rfl)) (fun _ _ _ h => h) (Or.inl ⟨by rfl, ?_⟩) hHeld ?_ ?_; rotate_left; (rintro w' ⟨s0, s1, s2, s3, s4, s5, s6⟩; go_simp; with_reducible rfl); rotate_left; (simp only [Act.put, List.setIfInBounds_toArray, List.set_cons_zero, List.set_cons_succ, i64_w, i32_w]; rfl)
                  refine take_ (i := 9) (N := some 88) (v := ?_) (a' := ?_) (m_ 29 1798143) rfl rfl (take_ofW HT_.out HW_.out (by kernel_rfl)) (fun _ _ _ h => h) (Or.inl ⟨by rfl, ?_⟩) hHeld ?_ ?_; rotate_left; (rintro w' ⟨s0, s1, s2, s3, s4, s5, s6⟩; go_simp; with_reducible rfl); rotate_left; (simp only [Act.put, List.setIfInBounds_toArray, List.set_cons_zero, List.set_cons_succ, i64_w, i32_w]; rfl)
                  refine take_ (i := 12) (N := some 91) (v := ?_) (a' := ?_) (m_ 29 1802239) rfl rfl (take_ofW HT_.out HW_.out (by kernel_rfl)) (fun _ _ _ h => h) (Or.inl ⟨by rfl, ?_⟩) hHeld ?_ ?_; rotate_left; (rintro w' ⟨s0, s1, s2, s3, s4, s5, s6⟩; go_simp; with_reducible rfl); rotate_left; (simp only [Act.put, List.setIfInBounds_toArray, List.set_cons_zero, List.set_cons_succ, i64_w, i32_w]; rfl)
                  refine take_ (i := 15) (N := some 94) (v := ?_) (a' := ?_) (m_ 29 1835007) rfl rfl (take_ofW HT_.out HW_.out (by kernel_rfl)) (fun _ _ _ h => h) (Or.inl ⟨by rfl, ?_⟩) hHeld ?_ ?_; rotate_left; (rintro w' ⟨s0, s1, s2, s3, s4, s5, s6⟩; go_simp; with_reducible rfl); rotate_left; (simp only [Act.put, List.setIfInBounds_toArray, List.set_cons_zero, List.set_cons_succ, i64_w, i32_w]; rfl)
                  refine take_ (i := 18) (N := some 97) (v := ?_) (a' := ?_) (m_ 29 2097151) rfl rfl (take_ofW HT_.out HW_.out (by kernel_rfl)) (fun _ _ _ h => h) (Or.inl ⟨by rfl, ?_⟩) hHeld ?_ ?_; rotate_left; (rintro w' ⟨s0, s1, s2, s3, s4, s5, s6⟩; go_simp; with_reducible rfl); rotate_left; (simp only [Act.put, List.setIfInBounds_toArray, List.set_cons_zero, List.set_cons_succ, i64_w, i32_w]; rfl)
                  refine take_ (i := 21) (N := some 100) (v := ?_) (a' := ?_) (m_ 29 4194303) rfl rfl (take_ofW HT_.out HW_.out (by kernel_rfl)) (fun _ _ _ h => h) (Or.inl ⟨by rfl, ?_⟩) hHeld ?_ ?_; rotate_left; (rintro w' ⟨s0, s1, s2, s3, s4, s5, s6⟩; go_simp; with_reducible rfl); rotate_left; (simp only [Act.put, List.setIfInBounds_toArray, List.set_cons_zero, List.set_cons_succ, i64_w, i32_w]; rfl)
                  refine one_ (i := 22) (N := some 101) (m_ 29 8388607) rfl rfl (one_of HT_.out (by kernel_rfl)) (by decide) (fun K hK => ?_)
                  refine Kd.R_lit_step (Kd.int .i64) _ 3 ?hg (N := 101) ?hd (xs := ([rd t457 0, rd t457 4, rd t457 5, rd t457 6, rd t457 1, rd t457 2, rd t457 3] : List Int)) (inner := [.int .i64 (rd t457 0), .int .i64 (rd t457 4), .int .i64 (rd t457 5), .int .i64 (rd t457 6), .int .i64 (rd t457 1), .int .i64 (rd t457 2), .int .i64 (rd t457 3)]) (ok := fun _ => True) (okp := fun _ => True) ?hr ?hp (fun _ hk => hk) trivial (Below.refl _ _) (Nat.le_refl _) (by simp) ?_; (case hd => rfl); (case hg => rfl); (case hr => first | (go_simp; done) | (go_simp; rfl)); (case hp => exact (Reps.one (show Kd.M (Kd.int .i64) _ _ _ (rd t457 0) [.int .i64 (rd t457 0)] from rfl) (Reps.one (show Kd.M (Kd.int .i64) _ _ _ (rd t457 4) [.int .i64 (rd t457 4)] from rfl) (Reps.one (show Kd.M (Kd.int .i64) _ _ _ (rd t457 5) [.int .i64 (rd t457 5)] from rfl) (Reps.one (show Kd.M (Kd.int .i64) _ _ _ (rd t457 6) [.int .i64 (rd t457 6)] from rfl) (Reps.one (show Kd.M (Kd.int .i64) _ _ _ (rd t457 1) [.int .i64 (rd t457 1)] from rfl) (Reps.one (show Kd.M (Kd.int .i64) _ _ _ (rd t457 2) [.int .i64 (rd t457 2)] from rfl) (Reps.one (show Kd.M (Kd.int .i64) _ _ _ (rd t457 3) [.int .i64 (rd t457 3)] from rfl) (Reps.none _ _)))))))))
                  intro v488 w48 ho49 hb hg_ hnew_
                  have HS0_ := (hb.cell (World.block_lt_of_cell? _ _ (hHeld.1))).trans (hHeld.1)
                  have HS1_ := (hb.cell (World.block_lt_of_cell? _ _ (hHeld.2.1))).trans (hHeld.2.1)
                  have HS2_ := (hb.cell (World.block_lt_of_cell? _ _ (hHeld.2.2.1))).trans (hHeld.2.2.1)
                  have HS3_ := (hb.cell (World.block_lt_of_cell? _ _ (hHeld.2.2.2.1))).trans (hHeld.2.2.2.1)
                  have HS4_ := (hb.cell (World.block_lt_of_cell? _ _ (hHeld.2.2.2.2.1))).trans (hHeld.2.2.2.2.1)
                  have HS5_ := (hb.cell (World.block_lt_of_cell? _ _ (hHeld.2.2.2.2.2.1))).trans (hHeld.2.2.2.2.2.1)
                  have HS6_ := (hb.cell (World.block_lt_of_cell? _ _ (hHeld.2.2.2.2.2.2))).trans (hHeld.2.2.2.2.2.2)
                  clear hg_ hnew_
                  (first | rw [← Ny487.out] at ho49 | (simp only [Int.reduceToNat] at ho49; rw [← Ny487.out] at ho49))
                  have n0_ := Aside0.mk (Kd.R_elder' (rr_ HO_3) (Kd.R_base ho49) hb)
                  have n1_ := Aside0.mk (Kd.R_elder' (rr_ HO_4) (Kd.R_base ho49) hb)
                  have n2_ := Aside0.mk (Kd.R_elder' (rr_ HO_5) (Kd.R_base ho49) hb)
                  have n3_ := Aside0.mk (Kd.R_elder' (rr_ HO_7) (Kd.R_base ho49) hb)
                  have n4_ := Aside0.mk (Kd.R_lower (Kd.R_new' (Kd.R_new' (Kd.R_new' (Kd.R_new' ho49 (Kd.R_lt (rr_ HO_3))) (Kd.R_lt (rr_ HO_4))) (Kd.R_lt (rr_ HO_5))) (Kd.R_lt (rr_ HO_7))) (below_size (bb_ HB)))
                  have n5_ := Aside0.mk (below_step (bb_ HB) hb)
                  clear HO_3
                  clear HO_4
                  clear HO_5
                  clear HO_7
                  clear HB
                  have HO_3 := n0_
                  have HO_4 := n1_
                  have HO_5 := n2_
                  have HO_7 := n3_
                  have HO489 := n4_
                  have HB := n5_
                  clear n0_ n1_ n2_ n3_ n4_ n5_
                  clear hb ho49
                  obtain ⟨Ao50, co50, eo50⟩ := Kd.R_slice HO489.out
                  (first | subst eo50 | (injection eo50 with f1_ f2_ f3_; have f4_ := f1_.symm; have f5_ := f3_.symm; clear f1_ f2_ f3_; subst f4_; subst f5_))
                  refine hK.out _ _ ⟨HS0_, HS1_, HS2_, HS3_, HS4_, HS5_, HS6_⟩ (fun hHeld => ?_)
                  clear hK K
                  refine norm_ (a' := ?_) ?_ ?_; rotate_left; (show Act.put _ (some 101) _ = _; simp only [Act.put, List.setIfInBounds_toArray, List.set_cons_zero, List.set_cons_succ, i64_w, i32_w]; rfl)
                  refine one_ (i := 23) (N := some 102) (m_ 29 16777215) rfl rfl (one_of HT_.out (by kernel_rfl)) (by decide) (fun K hK => ?_)
                  refine goes_ Try.func18 (by kernel_rfl) rfl #[.slice Ao8 t456.length co8, .slice Ao50 y487.length co50] (by rfl) rfl rfl ll_ ?_
                  with_reducible refine (impl_TwinPoints.calls kj5 _ _ t456 _ _ y487 t490 true _ ?side1 ?side2 ?side3 ?side4 A33.out).mono ?_
                  (case side1 => exact cc_ HO_3)
                  (case side2 => exact (Kd.R_reads' HO_3.out).2.1)
                  (case side3 => exact cc_ HO489)
                  (case side4 => exact (Kd.R_reads' HO489.out).2.1)
                  rintro e w51 ⟨v492, rfl, ho0, hb⟩
                  have HS0_ := (hb.cell (World.block_lt_of_cell? _ _ (hHeld.1))).trans (hHeld.1)
                  have HS1_ := (hb.cell (World.block_lt_of_cell? _ _ (hHeld.2.1))).trans (hHeld.2.1)
                  have HS2_ := (hb.cell (World.block_lt_of_cell? _ _ (hHeld.2.2.1))).trans (hHeld.2.2.1)
                  have HS3_ := (hb.cell (World.block_lt_of_cell? _ _ (hHeld.2.2.2.1))).trans (hHeld.2.2.2.1)
                  have HS4_ := (hb.cell (World.block_lt_of_cell? _ _ (hHeld.2.2.2.2.1))).trans (hHeld.2.2.2.2.1)
                  have HS5_ := (hb.cell (World.block_lt_of_cell? _ _ (hHeld.2.2.2.2.2.1))).trans (hHeld.2.2.2.2.2.1)
                  have HS6_ := (hb.cell (World.block_lt_of_cell? _ _ (hHeld.2.2.2.2.2.2))).trans (hHeld.2.2.2.2.2.2)
                  refine ⟨_, rfl, ?_⟩
                  have n0_ := Aside0.mk (Kd.R_elder' (rr_ HO_3) (Kd.R_base ho0) hb)
                  have n1_ := Aside0.mk (Kd.R_elder' (rr_ HO_4) (Kd.R_base ho0) hb)
                  have n2_ := Aside0.mk (Kd.R_elder' (rr_ HO_5) (Kd.R_base ho0) hb)
                  have n3_ := Aside0.mk (Kd.R_elder' (rr_ HO_7) (Kd.R_base ho0) hb)
                  have n4_ := Aside0.mk (Kd.R_elder' (rr_ HO489) (Kd.R_base ho0) hb)
                  have n5_ := Aside0.mk (Kd.R_lower (Kd.R_new' (Kd.R_new' (Kd.R_new' (Kd.R_new' (Kd.R_new' ho0 (Kd.R_lt (rr_ HO_3))) (Kd.R_lt (rr_ HO_4))) (Kd.R_lt (rr_ HO_5))) (Kd.R_lt (rr_ HO_7))) (Kd.R_lt (rr_ HO489))) (below_size (bb_ HB)))
                  have n6_ := Aside0.mk (below_step (bb_ HB) hb)
                  clear HO_3
                  clear HO_4
                  clear HO_5
                  clear HO_7
                  clear HO489
                  clear HB
                  have HO_3 := n0_
                  have HO_4 := n1_
                  have HO_5 := n2_
                  have HO_7 := n3_
                  have HO489 := n4_
                  have HO493 := n5_
                  have HB := n6_
                  clear n0_ n1_ n2_ n3_ n4_ n5_ n6_
                  (try clear hb)
                  (try clear hb2)
                  (try clear hk)
                  (try clear hi)
                  (try clear ho0)
                  refine hK.out _ _ ⟨HS0_, HS1_, HS2_, HS3_, HS4_, HS5_, HS6_⟩ (fun hHeld => ?_)
                  clear hK K
                  refine norm_ (a' := ?_) ?_ ?_; rotate_left; (show Act.put _ (some 102) _ = _; simp only [Act.put, List.setIfInBounds_toArray, List.set_cons_zero, List.set_cons_succ, i64_w, i32_w]; rfl)
                  refine p_ 24 78 (m_ 29 33554431) HT_.out ?_
                  refine p_ 25 103 (m_ 29 67108863) HT_.out ?_
                  refine p_ 26 104 (m_ 29 134217727) HT_.out ?_
                  refine p_ 27 13 (m_ 29 268435455) HT_.out ?_
                  refine p_ 28 14 (m_ 29 536870911) HT_.out ?_
                  refine done_ (done_of HT_.out (by kernel_rfl)) ?_
                  obtain ⟨Ao52, co52, eo52⟩ := Kd.R_slice HO493.out
                  subst eo52
                  obtain ⟨Ao53, co53, eo53⟩ := Kd.R_slice HO_5.out
                  subst eo53
                  try go_wp2_with (first | (go_at_call 25; (with_reducible refine (laws_sameInts.calls kj5 _ _ t490 _ _ t462 true _ ?side1 ?side2 ?side3 ?side4 A37.out).mono ?_); (case side1 => exact cc_ HO493); (case side2 => exact (Kd.R_reads' HO493.out).2.1); (case side3 => exact cc_ HO_5); (case side4 => exact (Kd.R_reads' HO_5.out).2.1); rintro e w' ⟨rfl, ⟨nd, rfl⟩⟩; have p495 : 0 ≤ (0 : Int) := (by omega); have q495 : 0 < (t462.length : Int) := dd_; obtain ⟨ad495, e495, hx495_0⟩ := Kd.at_int (Kd.R_reads' HO_5.out).2.2 0 p495 q495; cases e495; have qi495 : (0 < t462.length) = True := eq_true (by omega); (try rw [show ((0 : Int)).toNat = 0 from rfl] at hx495_0); (try rw [Addr.add_zero'] at hx495_0); replace p495 := eq_true p495; replace q495 := eq_true q495) | (go_at_call 27; (with_reducible refine (impl_PlaneOn.calls _ _ t456 (rd t462 0) t474 true _ ?side1 ?side2 A40.out).mono ?_); (case side1 => exact cc_ HO_3); (case side2 => exact (Kd.R_reads' HO_3.out).2.1); rintro e w54 ⟨rfl, hb⟩; have n0_ := Aside0.mk (Kd.R_below (rr_ HO_3) hb); have n1_ := Aside0.mk (Kd.R_below (rr_ HO_4) hb); have n2_ := Aside0.mk (Kd.R_below (rr_ HO_5) hb); have n3_ := Aside0.mk (Kd.R_below (rr_ HO_7) hb); have n4_ := Aside0.mk (Kd.R_below (rr_ HO489) hb); have n5_ := Aside0.mk (Kd.R_below (rr_ HO493) hb); have n6_ := Aside0.mk (below_step (bb_ HB) hb); clear HO_3; clear HO_4; clear HO_5; clear HO_7; clear HO489; clear HO493; clear HB; have HO_3 := n0_; have HO_4 := n1_; have HO_5 := n2_; have HO_7 := n3_; have HO489 := n4_; have HO493 := n5_; have HB := n6_; clear n0_ n1_ n2_ n3_ n4_ n5_ n6_; (try clear hb); (try clear hb2); (try clear hk); (try clear hi); have p497 : 0 ≤ (0 : Int) := (by omega); have q497 : 0 < (t462.length : Int) := dd_; obtain ⟨ad497, e497, hx497_0⟩ := Kd.at_int (Kd.R_reads' HO_5.out).2.2 0 p497 q497; obtain rfl : ad495 = ad497 := (by injection e497); have qi497 : (0 < t462.length) = True := eq_true (by omega); (try rw [show ((0 : Int)).toNat = 0 from rfl] at hx497_0); (try rw [Addr.add_zero'] at hx497_0); replace p497 := eq_true p497; replace q497 := eq_true q497) | (go_at_call 27; (with_reducible refine (impl_PlaneOn.calls _ _ t456 (rd t462 0) t478 t498 _ ?side1 ?side2 A42.out).mono ?_); (case side1 => exact cc_ HO_3); (case side2 => exact (Kd.R_reads' HO_3.out).2.1); rintro e w55 ⟨rfl, hb⟩; have n0_ := Aside0.mk (Kd.R_below (rr_ HO_3) hb); have n1_ := Aside0.mk (Kd.R_below (rr_ HO_4) hb); have n2_ := Aside0.mk (Kd.R_below (rr_ HO_5) hb); have n3_ := Aside0.mk (Kd.R_below (rr_ HO_7) hb); have n4_ := Aside0.mk (Kd.R_below (rr_ HO489) hb); have n5_ := Aside0.mk (Kd.R_below (rr_ HO493) hb); have n6_ := Aside0.mk (below_step (bb_ HB) hb); clear HO_3; clear HO_4; clear HO_5; clear HO_7; clear HO489; clear HO493; clear HB; have HO_3 := n0_; have HO_4 := n1_; have HO_5 := n2_; have HO_7 := n3_; have HO489 := n4_; have HO493 := n5_; have HB := n6_; clear n0_ n1_ n2_ n3_ n4_ n5_ n6_; (try clear hb); (try clear hb2); (try clear hk); (try clear hi)))
                  go_ret
                  exact ⟨ee_, bb_ HB⟩
                 ·replace c41 := Bool.eq_false_iff.mpr c41
                  subst c41
                  have H1 : (some false) = some r := by rw [if_neg (show ¬ (false = true) by decide)] at H; exact H
                  clear H
                  have H := H1
                  clear H1
                  obtain rfl := Option.some.inj H
                  try go_wp2
                  have n0_ := Aside0.mk (Kd.R_drew HO_3.out)
                  have n1_ := Aside0.mk (Kd.R_drew HO_4.out)
                  have n2_ := Aside0.mk (Kd.R_drew HO_5.out)
                  have n3_ := Aside0.mk (Kd.R_drew HO_7.out)
                  have n4_ := Aside0.mk (below_drew1 HB.out)
                  clear HO_3
                  clear HO_4
                  clear HO_5
                  clear HO_7
                  clear HB
                  have HO_3 := n0_
                  have HO_4 := n1_
                  have HO_5 := n2_
                  have HO_7 := n3_
                  have HB := n4_
                  clear n0_ n1_ n2_ n3_ n4_
                  have p472 : 0 ≤ (1 : Int) := (by omega)
                  have q472 : 1 < (t457.length : Int) := dd_
                  obtain ⟨ad472, e472, hx472_0⟩ := Kd.at_int (Kd.R_reads' HO_4.out).2.2 1 p472 q472
                  cases e472
                  (try simp only [show (1 : Int).toNat = 1 from rfl, Nat.reduceMul, Nat.reduceEqDiff, Go.Addr.add, ↓reduceIte] at hx472_0)
                  have qi472 : (1 < t457.length) = True := eq_true (by omega)
                  (try rw [show ((1 : Int)).toNat = 1 from rfl] at hx472_0)
                  replace p472 := eq_true p472
                  replace q472 := eq_true q472
                  have p473 : 0 ≤ (2 : Int) := (by omega)
                  have q473 : 2 < (t457.length : Int) := dd_
                  obtain ⟨ad473, e473, hx473_0⟩ := Kd.at_int (Kd.R_reads' HO_4.out).2.2 2 p473 q473
                  obtain rfl : ad472 = ad473 := (by injection e473)
                  (try simp only [show (2 : Int).toNat = 2 from rfl, Nat.reduceMul, Nat.reduceEqDiff, Go.Addr.add, ↓reduceIte] at hx473_0)
                  have qi473 : (2 < t457.length) = True := eq_true (by omega)
                  (try rw [show ((2 : Int)).toNat = 2 from rfl] at hx473_0)
                  replace p473 := eq_true p473
                  replace q473 := eq_true q473
                  refine start_ (n := 13) (S := fun w' => w'.cell? ⟨ad472.block, ad472.off + 1, none⟩ = some (.int .i64 (rd t457 1)) ∧ w'.cell? ⟨ad472.block, ad472.off + 2, none⟩ = some (.int .i64 (rd t457 2))) (ds := []) #[F_,F_,F_,F_,F_,F_,F_,F_,F_,F_,F_,F_,F_] (by kernel_rfl) rfl rfl ⟨hx472_0, hx473_0⟩ (fun hHeld => ?_); refine with_tabW laws_FnTwinPoints.tab8 laws_FnTwinPoints.bits8 (fun HT_ HW_ => ?_)
                  generalize wc.drew = w56 at HO_3 HO_4 HO_5 HO_7 HB hx472_0 hx473_0 hHeld ⊢
                  refine p_ 0 57 (m_ 13 1) HT_.out ?_
                  refine p_ 1 58 (m_ 13 3) HT_.out ?_
                  refine p_ 2 59 (m_ 13 7) HT_.out ?_
                  refine p_ 4 61 (m_ 13 23) HT_.out ?_
                  refine p_ 5 62 (m_ 13 55) HT_.out ?_
                  refine t2_ 3 60 (m_ 13 63) HT_.out HW_.out hHeld ?_
                  refine t2_ 6 63 (m_ 13 127) HT_.out HW_.out hHeld ?_
                  refine one_ (i := 7) (N := some 64) (m_ 13 255) rfl rfl (one_of HT_.out (by kernel_rfl)) (by decide) (fun K hK => ?_)
                  refine goes_ Try.func26 (by kernel_rfl) rfl #[.slice Ao8 t456.length co8, .int .i64 (rd t457 1), .int .i64 (rd t457 2)] (by rfl) rfl rfl ll_ ?_
                  with_reducible refine (impl_PlaneJoin.calls kj5 _ _ t456 (rd t457 1) (rd t457 2) t474 true _ ?side1 ?side2 A26.out).mono ?_
                  (case side1 => exact cc_ HO_3)
                  (case side2 => exact (Kd.R_reads' HO_3.out).2.1)
                  rintro e w57 ⟨rfl, hb⟩
                  have HS0_ := (hb.cell (World.block_lt_of_cell? _ _ (hHeld.1))).trans (hHeld.1)
                  have HS1_ := (hb.cell (World.block_lt_of_cell? _ _ (hHeld.2))).trans (hHeld.2)
                  refine ⟨_, rfl, ?_⟩
                  have n0_ := Aside0.mk (Kd.R_below (rr_ HO_3) hb)
                  have n1_ := Aside0.mk (Kd.R_below (rr_ HO_4) hb)
                  have n2_ := Aside0.mk (Kd.R_below (rr_ HO_5) hb)
                  have n3_ := Aside0.mk (Kd.R_below (rr_ HO_7) hb)
                  have n4_ := Aside0.mk (below_step (bb_ HB) hb)
                  clear HO_3
                  clear HO_4
                  clear HO_5
                  clear HO_7
                  clear HB
                  have HO_3 := n0_
                  have HO_4 := n1_
                  have HO_5 := n2_
                  have HO_7 := n3_
                  have HB := n4_
                  clear n0_ n1_ n2_ n3_ n4_
                  (try clear hb)
                  (try clear hb2)
                  (try clear hk)
                  (try clear hi)
                  refine hK.out _ _ ⟨HS0_, HS1_⟩ (fun hHeld => ?_)
                  clear hK K
                  refine norm_ (a' := ?_) ?_ ?_; rotate_left; (show Act.put _ (some 64) _ = _; simp only [Act.put, List.setIfInBounds_toArray, List.set_cons_zero, List.set_cons_succ, i64_w, i32_w]; rfl)
                  refine p_ 8 56 (m_ 13 511) HT_.out ?_
                  refine p_ 9 65 (m_ 13 1023) HT_.out ?_
                  refine p_ 10 66 (m_ 13 2047) HT_.out ?_
                  refine p_ 11 9 (m_ 13 4095) HT_.out ?_
                  refine p_ 12 10 (m_ 13 8191) HT_.out ?_
                  refine done_ (done_of HT_.out (by kernel_rfl)) ?_
                  try go_wp2
                  have n0_ := Aside0.mk (Kd.R_drew HO_3.out)
                  have n1_ := Aside0.mk (Kd.R_drew HO_4.out)
                  have n2_ := Aside0.mk (Kd.R_drew HO_5.out)
                  have n3_ := Aside0.mk (Kd.R_drew HO_7.out)
                  have n4_ := Aside0.mk (below_drew1 HB.out)
                  clear HO_3
                  clear HO_4
                  clear HO_5
                  clear HO_7
                  clear HB
                  have HO_3 := n0_
                  have HO_4 := n1_
                  have HO_5 := n2_
                  have HO_7 := n3_
                  have HB := n4_
                  clear n0_ n1_ n2_ n3_ n4_
                  have p476 : 0 ≤ (4 : Int) := (by omega)
                  have q476 : 4 < (t457.length : Int) := dd_
                  obtain ⟨ad476, e476, hx476_0⟩ := Kd.at_int (Kd.R_reads' HO_4.out).2.2 4 p476 q476
                  obtain rfl : ad472 = ad476 := (by injection e476)
                  (try simp only [show (4 : Int).toNat = 4 from rfl, Nat.reduceMul, Nat.reduceEqDiff, Go.Addr.add, ↓reduceIte] at hx476_0)
                  have qi476 : (4 < t457.length) = True := eq_true (by omega)
                  (try rw [show ((4 : Int)).toNat = 4 from rfl] at hx476_0)
                  replace p476 := eq_true p476
                  replace q476 := eq_true q476
                  have p477 : 0 ≤ (5 : Int) := (by omega)
                  have q477 : 5 < (t457.length : Int) := dd_
                  obtain ⟨ad477, e477, hx477_0⟩ := Kd.at_int (Kd.R_reads' HO_4.out).2.2 5 p477 q477
                  obtain rfl : ad472 = ad477 := (by injection e477)
                  (try simp only [show (5 : Int).toNat = 5 from rfl, Nat.reduceMul, Nat.reduceEqDiff, Go.Addr.add, ↓reduceIte] at hx477_0)
                  have qi477 : (5 < t457.length) = True := eq_true (by omega)
                  (try rw [show ((5 : Int)).toNat = 5 from rfl] at hx477_0)
                  replace p477 := eq_true p477
                  replace q477 := eq_true q477
                  refine start_ (n := 13) (S := fun w' => w'.cell? ⟨ad472.block, ad472.off + 4, none⟩ = some (.int .i64 (rd t457 4)) ∧ w'.cell? ⟨ad472.block, ad472.off + 5, none⟩ = some (.int .i64 (rd t457 5))) (ds := []) #[F_,F_,F_,F_,F_,F_,F_,F_,F_,F_,F_,F_,F_] (by kernel_rfl) rfl rfl ⟨hx476_0, hx477_0⟩ (fun hHeld => ?_); refine with_tabW laws_FnTwinPoints.tab9 laws_FnTwinPoints.bits9 (fun HT_ HW_ => ?_)
                  generalize w57.drew = w58 at HO_3 HO_4 HO_5 HO_7 HB hx476_0 hx477_0 hHeld ⊢
                  refine p_ 0 68 (m_ 13 1) HT_.out ?_
                  refine p_ 1 69 (m_ 13 3) HT_.out ?_
                  refine p_ 2 70 (m_ 13 7) HT_.out ?_
                  refine p_ 4 72 (m_ 13 23) HT_.out ?_
                  refine p_ 5 73 (m_ 13 55) HT_.out ?_
                  refine t2_ 3 71 (m_ 13 63) HT_.out HW_.out hHeld ?_
                  refine t2_ 6 74 (m_ 13 127) HT_.out HW_.out hHeld ?_
                  refine one_ (i := 7) (N := some 75) (m_ 13 255) rfl rfl (one_of HT_.out (by kernel_rfl)) (by decide) (fun K hK => ?_)
                  refine goes_ Try.func26 (by kernel_rfl) rfl #[.slice Ao8 t456.length co8, .int .i64 (rd t457 4), .int .i64 (rd t457 5)] (by rfl) rfl rfl ll_ ?_
                  with_reducible refine (impl_PlaneJoin.calls kj5 _ _ t456 (rd t457 4) (rd t457 5) t478 true _ ?side1 ?side2 A29.out).mono ?_
                  (case side1 => exact cc_ HO_3)
                  (case side2 => exact (Kd.R_reads' HO_3.out).2.1)
                  rintro e w59 ⟨rfl, hb⟩
                  have HS0_ := (hb.cell (World.block_lt_of_cell? _ _ (hHeld.1))).trans (hHeld.1)
                  have HS1_ := (hb.cell (World.block_lt_of_cell? _ _ (hHeld.2))).trans (hHeld.2)
                  refine ⟨_, rfl, ?_⟩
                  have n0_ := Aside0.mk (Kd.R_below (rr_ HO_3) hb)
                  have n1_ := Aside0.mk (Kd.R_below (rr_ HO_4) hb)
                  have n2_ := Aside0.mk (Kd.R_below (rr_ HO_5) hb)
                  have n3_ := Aside0.mk (Kd.R_below (rr_ HO_7) hb)
                  have n4_ := Aside0.mk (below_step (bb_ HB) hb)
                  clear HO_3
                  clear HO_4
                  clear HO_5
                  clear HO_7
                  clear HB
                  have HO_3 := n0_
                  have HO_4 := n1_
                  have HO_5 := n2_
                  have HO_7 := n3_
                  have HB := n4_
                  clear n0_ n1_ n2_ n3_ n4_
                  (try clear hb)
                  (try clear hb2)
                  (try clear hk)
                  (try clear hi)
                  refine hK.out _ _ ⟨HS0_, HS1_⟩ (fun hHeld => ?_)
                  clear hK K
                  refine norm_ (a' := ?_) ?_ ?_; rotate_left; (show Act.put _ (some 75) _ = _; simp only [Act.put, List.setIfInBounds_toArray, List.set_cons_zero, List.set_cons_succ, i64_w, i32_w]; rfl)
                  refine p_ 8 67 (m_ 13 511) HT_.out ?_
                  refine p_ 9 76 (m_ 13 1023) HT_.out ?_
                  refine p_ 10 77 (m_ 13 2047) HT_.out ?_
                  refine p_ 11 11 (m_ 13 4095) HT_.out ?_
                  refine p_ 12 12 (m_ 13 8191) HT_.out ?_
                  refine done_ (done_of HT_.out (by kernel_rfl)) ?_
                  try go_wp2
                  have n0_ := Aside0.mk (Kd.R_drew HO_3.out)
                  have n1_ := Aside0.mk (Kd.R_drew HO_4.out)
                  have n2_ := Aside0.mk (Kd.R_drew HO_5.out)
                  have n3_ := Aside0.mk (Kd.R_drew HO_7.out)
                  have n4_ := Aside0.mk (below_drew1 HB.out)
                  clear HO_3
                  clear HO_4
                  clear HO_5
                  clear HO_7
                  clear HB
                  have HO_3 := n0_
                  have HO_4 := n1_
                  have HO_5 := n2_
                  have HO_7 := n3_
                  have HB := n4_
                  clear n0_ n1_ n2_ n3_ n4_
                  have p480 : 0 ≤ (0 : Int) := (by omega)
                  have q480 : 0 < (t457.length : Int) := dd_
                  obtain ⟨ad480, e480, hx480_0⟩ := Kd.at_int (Kd.R_reads' HO_4.out).2.2 0 p480 q480
                  obtain rfl : ad472 = ad480 := (by injection e480)
                  have qi480 : (0 < t457.length) = True := eq_true (by omega)
                  (try rw [show ((0 : Int)).toNat = 0 from rfl] at hx480_0)
                  (try rw [Addr.add_zero'] at hx480_0)
                  replace p480 := eq_true p480
                  replace q480 := eq_true q480
                  have p481 : 0 ≤ (4 : Int) := (by omega)
                  have q481 : 4 < (t457.length : Int) := dd_
                  obtain ⟨ad481, e481, hx481_0⟩ := Kd.at_int (Kd.R_reads' HO_4.out).2.2 4 p481 q481
                  obtain rfl : ad472 = ad481 := (by injection e481)
                  (try simp only [show (4 : Int).toNat = 4 from rfl, Nat.reduceMul, Nat.reduceEqDiff, Go.Addr.add, ↓reduceIte] at hx481_0)
                  have qi481 : (4 < t457.length) = True := eq_true (by omega)
                  (try rw [show ((4 : Int)).toNat = 4 from rfl] at hx481_0)
                  replace p481 := eq_true p481
                  replace q481 := eq_true q481
                  have p482 : 0 ≤ (5 : Int) := (by omega)
                  have q482 : 5 < (t457.length : Int) := dd_
                  obtain ⟨ad482, e482, hx482_0⟩ := Kd.at_int (Kd.R_reads' HO_4.out).2.2 5 p482 q482
                  obtain rfl : ad472 = ad482 := (by injection e482)
                  (try simp only [show (5 : Int).toNat = 5 from rfl, Nat.reduceMul, Nat.reduceEqDiff, Go.Addr.add, ↓reduceIte] at hx482_0)
                  have qi482 : (5 < t457.length) = True := eq_true (by omega)
                  (try rw [show ((5 : Int)).toNat = 5 from rfl] at hx482_0)
                  replace p482 := eq_true p482
                  replace q482 := eq_true q482
                  have p483 : 0 ≤ (6 : Int) := (by omega)
                  have q483 : 6 < (t457.length : Int) := dd_
                  obtain ⟨ad483, e483, hx483_0⟩ := Kd.at_int (Kd.R_reads' HO_4.out).2.2 6 p483 q483
                  obtain rfl : ad472 = ad483 := (by injection e483)
                  (try simp only [show (6 : Int).toNat = 6 from rfl, Nat.reduceMul, Nat.reduceEqDiff, Go.Addr.add, ↓reduceIte] at hx483_0)
                  have qi483 : (6 < t457.length) = True := eq_true (by omega)
                  (try rw [show ((6 : Int)).toNat = 6 from rfl] at hx483_0)
                  replace p483 := eq_true p483
                  replace q483 := eq_true q483
                  have p484 : 0 ≤ (1 : Int) := (by omega)
                  have q484 : 1 < (t457.length : Int) := dd_
                  obtain ⟨ad484, e484, hx484_0⟩ := Kd.at_int (Kd.R_reads' HO_4.out).2.2 1 p484 q484
                  obtain rfl : ad472 = ad484 := (by injection e484)
                  (try simp only [show (1 : Int).toNat = 1 from rfl, Nat.reduceMul, Nat.reduceEqDiff, Go.Addr.add, ↓reduceIte] at hx484_0)
                  have qi484 : (1 < t457.length) = True := eq_true (by omega)
                  (try rw [show ((1 : Int)).toNat = 1 from rfl] at hx484_0)
                  replace p484 := eq_true p484
                  replace q484 := eq_true q484
                  have p485 : 0 ≤ (2 : Int) := (by omega)
                  have q485 : 2 < (t457.length : Int) := dd_
                  obtain ⟨ad485, e485, hx485_0⟩ := Kd.at_int (Kd.R_reads' HO_4.out).2.2 2 p485 q485
                  obtain rfl : ad472 = ad485 := (by injection e485)
                  (try simp only [show (2 : Int).toNat = 2 from rfl, Nat.reduceMul, Nat.reduceEqDiff, Go.Addr.add, ↓reduceIte] at hx485_0)
                  have qi485 : (2 < t457.length) = True := eq_true (by omega)
                  (try rw [show ((2 : Int)).toNat = 2 from rfl] at hx485_0)
                  replace p485 := eq_true p485
                  replace q485 := eq_true q485
                  have p486 : 0 ≤ (3 : Int) := (by omega)
                  have q486 : 3 < (t457.length : Int) := dd_
                  obtain ⟨ad486, e486, hx486_0⟩ := Kd.at_int (Kd.R_reads' HO_4.out).2.2 3 p486 q486
                  obtain rfl : ad472 = ad486 := (by injection e486)
                  (try simp only [show (3 : Int).toNat = 3 from rfl, Nat.reduceMul, Nat.reduceEqDiff, Go.Addr.add, ↓reduceIte] at hx486_0)
                  have qi486 : (3 < t457.length) = True := eq_true (by omega)
                  (try rw [show ((3 : Int)).toNat = 3 from rfl] at hx486_0)
                  replace p486 := eq_true p486
                  replace q486 := eq_true q486
                  refine start_ (n := 29) (S := fun w' => w'.cell? ad472 = some (.int .i64 (rd t457 0)) ∧ w'.cell? ⟨ad472.block, ad472.off + 4, none⟩ = some (.int .i64 (rd t457 4)) ∧ w'.cell? ⟨ad472.block, ad472.off + 5, none⟩ = some (.int .i64 (rd t457 5)) ∧ w'.cell? ⟨ad472.block, ad472.off + 6, none⟩ = some (.int .i64 (rd t457 6)) ∧ w'.cell? ⟨ad472.block, ad472.off + 1, none⟩ = some (.int .i64 (rd t457 1)) ∧ w'.cell? ⟨ad472.block, ad472.off + 2, none⟩ = some (.int .i64 (rd t457 2)) ∧ w'.cell? ⟨ad472.block, ad472.off + 3, none⟩ = some (.int .i64 (rd t457 3))) (ds := []) #[F_,F_,F_,F_,F_,F_,F_,F_,F_,F_,F_,F_,F_,F_,F_,F_,F_,F_,F_,F_,F_,F_,F_,F_,F_,F_,F_,F_,F_] (by kernel_rfl) rfl rfl ⟨hx480_0, hx481_0, hx482_0, hx483_0, hx484_0, hx485_0, hx486_0⟩ (fun hHeld => ?_); refine with_tabW laws_FnTwinPoints.tab10 laws_FnTwinPoints.bits10 (fun HT_ HW_ => ?_)
                  generalize w59.drew = w60 at HO_3 HO_4 HO_5 HO_7 HB hx480_0 hx481_0 hx482_0 hx483_0 hx484_0 hx485_0 hx486_0 hHeld ⊢
                  refine p_ 0 79 (m_ 29 1) HT_.out ?_
                  refine p_ 1 80 (m_ 29 3) HT_.out ?_
                  refine p_ 2 81 (m_ 29 7) HT_.out ?_
                  refine p_ 4 83 (m_ 29 23) HT_.out ?_
                  refine p_ 5 84 (m_ 29 55) HT_.out ?_
                  refine p_ 7 86 (m_ 29 183) HT_.out ?_
                  refine p_ 8 87 (m_ 29 439) HT_.out ?_
                  refine p_ 10 89 (m_ 29 1463) HT_.out ?_
                  refine p_ 11 90 (m_ 29 3511) HT_.out ?_
                  refine p_ 13 92 (m_ 29 11703) HT_.out ?_
                  refine p_ 14 93 (m_ 29 28087) HT_.out ?_
                  refine p_ 16 95 (m_ 29 93623) HT_.out ?_
                  refine p_ 17 96 (m_ 29 224695) HT_.out ?_
                  refine p_ 19 98 (m_ 29 748983) HT_.out ?_
                  refine p_ 20 99 (m_ 29 1797559) HT_.out ?_
                  refine take_ (i := 3) (N := some 82) (v := ?_) (a' := ?_) (m_ 29 1797567) rfl rfl (take_ofW HT_.out HW_.out (by kernel_rfl)) (fun _ _ _ h => h) (Or.inl ⟨by rfl, ?_⟩) hHeld ?_ ?_; rotate_left; (rintro w' ⟨s0, s1, s2, s3, s4, s5, s6⟩; go_simp; with_reducible rfl); rotate_left; (simp only [Act.put, List.setIfInBounds_toArray, List.set_cons_zero, List.set_cons_succ, i64_w, i32_w]; rfl)
                  refine take_ (i := 6) (N := some 85) (v := ?_) (a' := ?_) (m_ 29 1797631) rfl rfl (take_ofW HT_.out HW_.out (by kernel_rfl)) (fun _ _ _ h => h) (Or.inl ⟨by rfl, ?_⟩) hHeld ?_ ?_; rotate_left; (rintro w' ⟨s0, s1, s2, s3, s4, s5, s6⟩; go_simp; with_reducible rfl); rotate_left; (simp only [Act.put, List.setIfInBounds_toArray, List.set_cons_zero, List.set_cons_succ, i64_w, i32_w]; rfl)
                  refine take_ (i := 9) (N := some 88) (v := ?_) (a' := ?_) (m_ 29 1798143) rfl rfl (take_ofW HT_.out HW_.out (by kernel_rfl)) (fun _ _ _ h => h) (Or.inl ⟨by rfl, ?_⟩) hHeld ?_ ?_; rotate_left; (rintro w' ⟨s0, s1, s2, s3, s4, s5, s6⟩; go_simp; with_reducible rfl); rotate_left; (simp only [Act.put, List.setIfInBounds_toArray, List.set_cons_zero, List.set_cons_succ, i64_w, i32_w]; rfl)
                  refine take_ (i := 12) (N := some 91) (v := ?_) (a' := ?_) (m_ 29 1802239) rfl rfl (take_ofW HT_.out HW_.out (by kernel_rfl)) (fun _ _ _ h => h) (Or.inl ⟨by rfl, ?_⟩) hHeld ?_ ?_; rotate_left; (rintro w' ⟨s0, s1, s2, s3, s4, s5, s6⟩; go_simp; with_reducible rfl); rotate_left; (simp only [Act.put, List.setIfInBounds_toArray, List.set_cons_zero, List.set_cons_succ, i64_w, i32_w]; rfl)
                  refine take_ (i := 15) (N := some 94) (v := ?_) (a' := ?_) (m_ 29 1835007) rfl rfl (take_ofW HT_.out HW_.out (by kernel_rfl)) (fun _ _ _ h => h) (Or.inl ⟨by rfl, ?_⟩) hHeld ?_ ?_; rotate_left; (rintro w' ⟨s0, s1, s2, s3, s4, s5, s6⟩; go_simp; with_reducible rfl); rotate_left; (simp only [Act.put, List.setIfInBounds_toArray, List.set_cons_zero, List.set_cons_succ, i64_w, i32_w]; rfl)
                  refine take_ (i := 18) (N := some 97) (v := ?_) (a' := ?_) (m_ 29 2097151) rfl rfl (take_ofW HT_.out HW_.out (by kernel_rfl)) (fun _ _ _ h => h) (Or.inl ⟨by rfl, ?_⟩) hHeld ?_ ?_; rotate_left; (rintro w' ⟨s0, s1, s2, s3, s4, s5, s6⟩; go_simp; with_reducible rfl); rotate_left; (simp only [Act.put, List.setIfInBounds_toArray, List.set_cons_zero, List.set_cons_succ, i64_w, i32_w]; rfl)
                  refine take_ (i := 21) (N := some 100) (v := ?_) (a' := ?_) (m_ 29 4194303) rfl rfl (take_ofW HT_.out HW_.out (by kernel_rfl)) (fun _ _ _ h => h) (Or.inl ⟨by rfl, ?_⟩) hHeld ?_ ?_; rotate_left; (rintro w' ⟨s0, s1, s2, s3, s4, s5, s6⟩; go_simp; with_reducible rfl); rotate_left; (simp only [Act.put, List.setIfInBounds_toArray, List.set_cons_zero, List.set_cons_succ, i64_w, i32_w]; rfl)
                  refine one_ (i := 22) (N := some 101) (m_ 29 8388607) rfl rfl (one_of HT_.out (by kernel_rfl)) (by decide) (fun K hK => ?_)
                  refine Kd.R_lit_step (Kd.int .i64) _ 3 ?hg (N := 101) ?hd (xs := ([rd t457 0, rd t457 4, rd t457 5, rd t457 6, rd t457 1, rd t457 2, rd t457 3] : List Int)) (inner := [.int .i64 (rd t457 0), .int .i64 (rd t457 4), .int .i64 (rd t457 5), .int .i64 (rd t457 6), .int .i64 (rd t457 1), .int .i64 (rd t457 2), .int .i64 (rd t457 3)]) (ok := fun _ => True) (okp := fun _ => True) ?hr ?hp (fun _ hk => hk) trivial (Below.refl _ _) (Nat.le_refl _) (by simp) ?_; (case hd => rfl); (case hg => rfl); (case hr => first | (go_simp; done) | (go_simp; rfl)); (case hp => exact (Reps.one (show Kd.M (Kd.int .i64) _ _ _ (rd t457 0) [.int .i64 (rd t457 0)] from rfl) (Reps.one (show Kd.M (Kd.int .i64) _ _ _ (rd t457 4) [.int .i64 (rd t457 4)] from rfl) (Reps.one (show Kd.M (Kd.int .i64) _ _ _ (rd t457 5) [.int .i64 (rd t457 5)] from rfl) (Reps.one (show Kd.M (Kd.int .i64) _ _ _ (rd t457 6) [.int .i64 (rd t457 6)] from rfl) (Reps.one (show Kd.M (Kd.int .i64) _ _ _ (rd t457 1) [.int .i64 (rd t457 1)] from rfl) (Reps.one (show Kd.M (Kd.int .i64) _ _ _ (rd t457 2) [.int .i64 (rd t457 2)] from rfl) (Reps.one (show Kd.M (Kd.int .i64) _ _ _ (rd t457 3) [.int .i64 (rd t457 3)] from rfl) (Reps.none _ _)))))))))
                  intro v488 w61 ho62 hb hg_ hnew_
                  have HS0_ := (hb.cell (World.block_lt_of_cell? _ _ (hHeld.1))).trans (hHeld.1)
                  have HS1_ := (hb.cell (World.block_lt_of_cell? _ _ (hHeld.2.1))).trans (hHeld.2.1)
                  have HS2_ := (hb.cell (World.block_lt_of_cell? _ _ (hHeld.2.2.1))).trans (hHeld.2.2.1)
                  have HS3_ := (hb.cell (World.block_lt_of_cell? _ _ (hHeld.2.2.2.1))).trans (hHeld.2.2.2.1)
                  have HS4_ := (hb.cell (World.block_lt_of_cell? _ _ (hHeld.2.2.2.2.1))).trans (hHeld.2.2.2.2.1)
                  have HS5_ := (hb.cell (World.block_lt_of_cell? _ _ (hHeld.2.2.2.2.2.1))).trans (hHeld.2.2.2.2.2.1)
                  have HS6_ := (hb.cell (World.block_lt_of_cell? _ _ (hHeld.2.2.2.2.2.2))).trans (hHeld.2.2.2.2.2.2)
                  clear hg_ hnew_
                  (first | rw [← Ny487.out] at ho62 | (simp only [Int.reduceToNat] at ho62; rw [← Ny487.out] at ho62))
                  have n0_ := Aside0.mk (Kd.R_elder' (rr_ HO_3) (Kd.R_base ho62) hb)
                  have n1_ := Aside0.mk (Kd.R_elder' (rr_ HO_4) (Kd.R_base ho62) hb)
                  have n2_ := Aside0.mk (Kd.R_elder' (rr_ HO_5) (Kd.R_base ho62) hb)
                  have n3_ := Aside0.mk (Kd.R_elder' (rr_ HO_7) (Kd.R_base ho62) hb)
                  have n4_ := Aside0.mk (Kd.R_lower (Kd.R_new' (Kd.R_new' (Kd.R_new' (Kd.R_new' ho62 (Kd.R_lt (rr_ HO_3))) (Kd.R_lt (rr_ HO_4))) (Kd.R_lt (rr_ HO_5))) (Kd.R_lt (rr_ HO_7))) (below_size (bb_ HB)))
                  have n5_ := Aside0.mk (below_step (bb_ HB) hb)
                  clear HO_3
                  clear HO_4
                  clear HO_5
                  clear HO_7
                  clear HB
                  have HO_3 := n0_
                  have HO_4 := n1_
                  have HO_5 := n2_
                  have HO_7 := n3_
                  have HO489 := n4_
                  have HB := n5_
                  clear n0_ n1_ n2_ n3_ n4_ n5_
                  clear hb ho62
                  obtain ⟨Ao63, co63, eo63⟩ := Kd.R_slice HO489.out
                  (first | subst eo63 | (injection eo63 with f1_ f2_ f3_; have f4_ := f1_.symm; have f5_ := f3_.symm; clear f1_ f2_ f3_; subst f4_; subst f5_))
                  refine hK.out _ _ ⟨HS0_, HS1_, HS2_, HS3_, HS4_, HS5_, HS6_⟩ (fun hHeld => ?_)
                  clear hK K
                  refine norm_ (a' := ?_) ?_ ?_; rotate_left; (show Act.put _ (some 101) _ = _; simp only [Act.put, List.setIfInBounds_toArray, List.set_cons_zero, List.set_cons_succ, i64_w, i32_w]; rfl)
                  refine one_ (i := 23) (N := some 102) (m_ 29 16777215) rfl rfl (one_of HT_.out (by kernel_rfl)) (by decide) (fun K hK => ?_)
                  refine goes_ Try.func18 (by kernel_rfl) rfl #[.slice Ao8 t456.length co8, .slice Ao63 y487.length co63] (by rfl) rfl rfl ll_ ?_
                  with_reducible refine (impl_TwinPoints.calls kj5 _ _ t456 _ _ y487 t490 true _ ?side1 ?side2 ?side3 ?side4 A33.out).mono ?_
                  (case side1 => exact cc_ HO_3)
                  (case side2 => exact (Kd.R_reads' HO_3.out).2.1)
                  (case side3 => exact cc_ HO489)
                  (case side4 => exact (Kd.R_reads' HO489.out).2.1)
                  rintro e w64 ⟨v492, rfl, ho0, hb⟩
                  have HS0_ := (hb.cell (World.block_lt_of_cell? _ _ (hHeld.1))).trans (hHeld.1)
                  have HS1_ := (hb.cell (World.block_lt_of_cell? _ _ (hHeld.2.1))).trans (hHeld.2.1)
                  have HS2_ := (hb.cell (World.block_lt_of_cell? _ _ (hHeld.2.2.1))).trans (hHeld.2.2.1)
                  have HS3_ := (hb.cell (World.block_lt_of_cell? _ _ (hHeld.2.2.2.1))).trans (hHeld.2.2.2.1)
                  have HS4_ := (hb.cell (World.block_lt_of_cell? _ _ (hHeld.2.2.2.2.1))).trans (hHeld.2.2.2.2.1)
                  have HS5_ := (hb.cell (World.block_lt_of_cell? _ _ (hHeld.2.2.2.2.2.1))).trans (hHeld.2.2.2.2.2.1)
                  have HS6_ := (hb.cell (World.block_lt_of_cell? _ _ (hHeld.2.2.2.2.2.2))).trans (hHeld.2.2.2.2.2.2)
                  refine ⟨_, rfl, ?_⟩
                  have n0_ := Aside0.mk (Kd.R_elder' (rr_ HO_3) (Kd.R_base ho0) hb)
                  have n1_ := Aside0.mk (Kd.R_elder' (rr_ HO_4) (Kd.R_base ho0) hb)
                  have n2_ := Aside0.mk (Kd.R_elder' (rr_ HO_5) (Kd.R_base ho0) hb)
                  have n3_ := Aside0.mk (Kd.R_elder' (rr_ HO_7) (Kd.R_base ho0) hb)
                  have n4_ := Aside0.mk (Kd.R_elder' (rr_ HO489) (Kd.R_base ho0) hb)
                  have n5_ := Aside0.mk (Kd.R_lower (Kd.R_new' (Kd.R_new' (Kd.R_new' (Kd.R_new' (Kd.R_new' ho0 (Kd.R_lt (rr_ HO_3))) (Kd.R_lt (rr_ HO_4))) (Kd.R_lt (rr_ HO_5))) (Kd.R_lt (rr_ HO_7))) (Kd.R_lt (rr_ HO489))) (below_size (bb_ HB)))
                  have n6_ := Aside0.mk (below_step (bb_ HB) hb)
                  clear HO_3
                  clear HO_4
                  clear HO_5
                  clear HO_7
                  clear HO489
                  clear HB
                  have HO_3 := n0_
                  have HO_4 := n1_
                  have HO_5 := n2_
                  have HO_7 := n3_
                  have HO489 := n4_
                  have HO493 := n5_
                  have HB := n6_
                  clear n0_ n1_ n2_ n3_ n4_ n5_ n6_
                  (try clear hb)
                  (try clear hb2)
                  (try clear hk)
                  (try clear hi)
                  (try clear ho0)
                  refine hK.out _ _ ⟨HS0_, HS1_, HS2_, HS3_, HS4_, HS5_, HS6_⟩ (fun hHeld => ?_)
                  clear hK K
                  refine norm_ (a' := ?_) ?_ ?_; rotate_left; (show Act.put _ (some 102) _ = _; simp only [Act.put, List.setIfInBounds_toArray, List.set_cons_zero, List.set_cons_succ, i64_w, i32_w]; rfl)
                  refine p_ 24 78 (m_ 29 33554431) HT_.out ?_
                  refine p_ 25 103 (m_ 29 67108863) HT_.out ?_
                  refine p_ 26 104 (m_ 29 134217727) HT_.out ?_
                  refine p_ 27 13 (m_ 29 268435455) HT_.out ?_
                  refine p_ 28 14 (m_ 29 536870911) HT_.out ?_
                  refine done_ (done_of HT_.out (by kernel_rfl)) ?_
                  obtain ⟨Ao65, co65, eo65⟩ := Kd.R_slice HO493.out
                  subst eo65
                  obtain ⟨Ao66, co66, eo66⟩ := Kd.R_slice HO_5.out
                  subst eo66
                  try go_wp2_with (first | (go_at_call 25; (with_reducible refine (laws_sameInts.calls kj5 _ _ t490 _ _ t462 true _ ?side1 ?side2 ?side3 ?side4 A37.out).mono ?_); (case side1 => exact cc_ HO493); (case side2 => exact (Kd.R_reads' HO493.out).2.1); (case side3 => exact cc_ HO_5); (case side4 => exact (Kd.R_reads' HO_5.out).2.1); rintro e w' ⟨rfl, ⟨nd, rfl⟩⟩; have p495 : 0 ≤ (0 : Int) := (by omega); have q495 : 0 < (t462.length : Int) := dd_; obtain ⟨ad495, e495, hx495_0⟩ := Kd.at_int (Kd.R_reads' HO_5.out).2.2 0 p495 q495; cases e495; have qi495 : (0 < t462.length) = True := eq_true (by omega); (try rw [show ((0 : Int)).toNat = 0 from rfl] at hx495_0); (try rw [Addr.add_zero'] at hx495_0); replace p495 := eq_true p495; replace q495 := eq_true q495) | (go_at_call 27; (with_reducible refine (impl_PlaneOn.calls _ _ t456 (rd t462 0) t474 false _ ?side1 ?side2 A40.out).mono ?_); (case side1 => exact cc_ HO_3); (case side2 => exact (Kd.R_reads' HO_3.out).2.1); rintro e w67 ⟨rfl, hb⟩; have n0_ := Aside0.mk (Kd.R_below (rr_ HO_3) hb); have n1_ := Aside0.mk (Kd.R_below (rr_ HO_4) hb); have n2_ := Aside0.mk (Kd.R_below (rr_ HO_5) hb); have n3_ := Aside0.mk (Kd.R_below (rr_ HO_7) hb); have n4_ := Aside0.mk (Kd.R_below (rr_ HO489) hb); have n5_ := Aside0.mk (Kd.R_below (rr_ HO493) hb); have n6_ := Aside0.mk (below_step (bb_ HB) hb); clear HO_3; clear HO_4; clear HO_5; clear HO_7; clear HO489; clear HO493; clear HB; have HO_3 := n0_; have HO_4 := n1_; have HO_5 := n2_; have HO_7 := n3_; have HO489 := n4_; have HO493 := n5_; have HB := n6_; clear n0_ n1_ n2_ n3_ n4_ n5_ n6_; (try clear hb); (try clear hb2); (try clear hk); (try clear hi)))
                  go_ret
                  exact ⟨ee_, bb_ HB⟩
                ·rw [if_neg c39] at H
                 exact absurd H (by simp)
               ·replace c38 := Bool.eq_false_iff.mpr c38
                subst c38
                have H1 : (some false) = some r := by rw [if_neg (show ¬ (false = true) by decide)] at H; exact H
                clear H
                have H := H1
                clear H1
                obtain rfl := Option.some.inj H
                try go_wp2
                have n0_ := Aside0.mk (Kd.R_drew HO_3.out)
                have n1_ := Aside0.mk (Kd.R_drew HO_4.out)
                have n2_ := Aside0.mk (Kd.R_drew HO_5.out)
                have n3_ := Aside0.mk (Kd.R_drew HO_7.out)
                have n4_ := Aside0.mk (below_drew1 HB.out)
                clear HO_3
                clear HO_4
                clear HO_5
                clear HO_7
                clear HB
                have HO_3 := n0_
                have HO_4 := n1_
                have HO_5 := n2_
                have HO_7 := n3_
                have HB := n4_
                clear n0_ n1_ n2_ n3_ n4_
                have p472 : 0 ≤ (1 : Int) := (by omega)
                have q472 : 1 < (t457.length : Int) := dd_
                obtain ⟨ad472, e472, hx472_0⟩ := Kd.at_int (Kd.R_reads' HO_4.out).2.2 1 p472 q472
                cases e472
                (try simp only [show (1 : Int).toNat = 1 from rfl, Nat.reduceMul, Nat.reduceEqDiff, Go.Addr.add, ↓reduceIte] at hx472_0)
                have qi472 : (1 < t457.length) = True := eq_true (by omega)
                (try rw [show ((1 : Int)).toNat = 1 from rfl] at hx472_0)
                replace p472 := eq_true p472
                replace q472 := eq_true q472
                have p473 : 0 ≤ (2 : Int) := (by omega)
                have q473 : 2 < (t457.length : Int) := dd_
                obtain ⟨ad473, e473, hx473_0⟩ := Kd.at_int (Kd.R_reads' HO_4.out).2.2 2 p473 q473
                obtain rfl : ad472 = ad473 := (by injection e473)
                (try simp only [show (2 : Int).toNat = 2 from rfl, Nat.reduceMul, Nat.reduceEqDiff, Go.Addr.add, ↓reduceIte] at hx473_0)
                have qi473 : (2 < t457.length) = True := eq_true (by omega)
                (try rw [show ((2 : Int)).toNat = 2 from rfl] at hx473_0)
                replace p473 := eq_true p473
                replace q473 := eq_true q473
                refine start_ (n := 13) (S := fun w' => w'.cell? ⟨ad472.block, ad472.off + 1, none⟩ = some (.int .i64 (rd t457 1)) ∧ w'.cell? ⟨ad472.block, ad472.off + 2, none⟩ = some (.int .i64 (rd t457 2))) (ds := []) #[F_,F_,F_,F_,F_,F_,F_,F_,F_,F_,F_,F_,F_] (by kernel_rfl) rfl rfl ⟨hx472_0, hx473_0⟩ (fun hHeld => ?_); refine with_tabW laws_FnTwinPoints.tab8 laws_FnTwinPoints.bits8 (fun HT_ HW_ => ?_)
                generalize wc.drew = w68 at HO_3 HO_4 HO_5 HO_7 HB hx472_0 hx473_0 hHeld ⊢
                refine p_ 0 57 (m_ 13 1) HT_.out ?_
                refine p_ 1 58 (m_ 13 3) HT_.out ?_
                refine p_ 2 59 (m_ 13 7) HT_.out ?_
                refine p_ 4 61 (m_ 13 23) HT_.out ?_
                refine p_ 5 62 (m_ 13 55) HT_.out ?_
                refine t2_ 3 60 (m_ 13 63) HT_.out HW_.out hHeld ?_
                refine t2_ 6 63 (m_ 13 127) HT_.out HW_.out hHeld ?_
                refine one_ (i := 7) (N := some 64) (m_ 13 255) rfl rfl (one_of HT_.out (by kernel_rfl)) (by decide) (fun K hK => ?_)
                refine goes_ Try.func26 (by kernel_rfl) rfl #[.slice Ao8 t456.length co8, .int .i64 (rd t457 1), .int .i64 (rd t457 2)] (by rfl) rfl rfl ll_ ?_
                with_reducible refine (impl_PlaneJoin.calls kj5 _ _ t456 (rd t457 1) (rd t457 2) t474 true _ ?side1 ?side2 A26.out).mono ?_
                (case side1 => exact cc_ HO_3)
                (case side2 => exact (Kd.R_reads' HO_3.out).2.1)
                rintro e w69 ⟨rfl, hb⟩
                have HS0_ := (hb.cell (World.block_lt_of_cell? _ _ (hHeld.1))).trans (hHeld.1)
                have HS1_ := (hb.cell (World.block_lt_of_cell? _ _ (hHeld.2))).trans (hHeld.2)
                refine ⟨_, rfl, ?_⟩
                have n0_ := Aside0.mk (Kd.R_below (rr_ HO_3) hb)
                have n1_ := Aside0.mk (Kd.R_below (rr_ HO_4) hb)
                have n2_ := Aside0.mk (Kd.R_below (rr_ HO_5) hb)
                have n3_ := Aside0.mk (Kd.R_below (rr_ HO_7) hb)
                have n4_ := Aside0.mk (below_step (bb_ HB) hb)
                clear HO_3
                clear HO_4
                clear HO_5
                clear HO_7
                clear HB
                have HO_3 := n0_
                have HO_4 := n1_
                have HO_5 := n2_
                have HO_7 := n3_
                have HB := n4_
                clear n0_ n1_ n2_ n3_ n4_
                (try clear hb)
                (try clear hb2)
                (try clear hk)
                (try clear hi)
                refine hK.out _ _ ⟨HS0_, HS1_⟩ (fun hHeld => ?_)
                clear hK K
                refine norm_ (a' := ?_) ?_ ?_; rotate_left; (show Act.put _ (some 64) _ = _; simp only [Act.put, List.setIfInBounds_toArray, List.set_cons_zero, List.set_cons_succ, i64_w, i32_w]; rfl)
                refine p_ 8 56 (m_ 13 511) HT_.out ?_
                refine p_ 9 65 (m_ 13 1023) HT_.out ?_
                refine p_ 10 66 (m_ 13 2047) HT_.out ?_
                refine p_ 11 9 (m_ 13 4095) HT_.out ?_
                refine p_ 12 10 (m_ 13 8191) HT_.out ?_
                refine done_ (done_of HT_.out (by kernel_rfl)) ?_
                try go_wp2
                have n0_ := Aside0.mk (Kd.R_drew HO_3.out)
                have n1_ := Aside0.mk (Kd.R_drew HO_4.out)
                have n2_ := Aside0.mk (Kd.R_drew HO_5.out)
                have n3_ := Aside0.mk (Kd.R_drew HO_7.out)
                have n4_ := Aside0.mk (below_drew1 HB.out)
                clear HO_3
                clear HO_4
                clear HO_5
                clear HO_7
                clear HB
                have HO_3 := n0_
                have HO_4 := n1_
                have HO_5 := n2_
                have HO_7 := n3_
                have HB := n4_
                clear n0_ n1_ n2_ n3_ n4_
                have p476 : 0 ≤ (4 : Int) := (by omega)
                have q476 : 4 < (t457.length : Int) := dd_
                obtain ⟨ad476, e476, hx476_0⟩ := Kd.at_int (Kd.R_reads' HO_4.out).2.2 4 p476 q476
                obtain rfl : ad472 = ad476 := (by injection e476)
                (try simp only [show (4 : Int).toNat = 4 from rfl, Nat.reduceMul, Nat.reduceEqDiff, Go.Addr.add, ↓reduceIte] at hx476_0)
                have qi476 : (4 < t457.length) = True := eq_true (by omega)
                (try rw [show ((4 : Int)).toNat = 4 from rfl] at hx476_0)
                replace p476 := eq_true p476
                replace q476 := eq_true q476
                have p477 : 0 ≤ (5 : Int) := (by omega)
                have q477 : 5 < (t457.length : Int) := dd_
                obtain ⟨ad477, e477, hx477_0⟩ := Kd.at_int (Kd.R_reads' HO_4.out).2.2 5 p477 q477
                obtain rfl : ad472 = ad477 := (by injection e477)
                (try simp only [show (5 : Int).toNat = 5 from rfl, Nat.reduceMul, Nat.reduceEqDiff, Go.Addr.add, ↓reduceIte] at hx477_0)
                have qi477 : (5 < t457.length) = True := eq_true (by omega)
                (try rw [show ((5 : Int)).toNat = 5 from rfl] at hx477_0)
                replace p477 := eq_true p477
                replace q477 := eq_true q477
                refine start_ (n := 13) (S := fun w' => w'.cell? ⟨ad472.block, ad472.off + 4, none⟩ = some (.int .i64 (rd t457 4)) ∧ w'.cell? ⟨ad472.block, ad472.off + 5, none⟩ = some (.int .i64 (rd t457 5))) (ds := []) #[F_,F_,F_,F_,F_,F_,F_,F_,F_,F_,F_,F_,F_] (by kernel_rfl) rfl rfl ⟨hx476_0, hx477_0⟩ (fun hHeld => ?_); refine with_tabW laws_FnTwinPoints.tab9 laws_FnTwinPoints.bits9 (fun HT_ HW_ => ?_)
                generalize w69.drew = w70 at HO_3 HO_4 HO_5 HO_7 HB hx476_0 hx477_0 hHeld ⊢
                refine p_ 0 68 (m_ 13 1) HT_.out ?_
                refine p_ 1 69 (m_ 13 3) HT_.out ?_
                refine p_ 2 70 (m_ 13 7) HT_.out ?_
                refine p_ 4 72 (m_ 13 23) HT_.out ?_
                refine p_ 5 73 (m_ 13 55) HT_.out ?_
                refine t2_ 3 71 (m_ 13 63) HT_.out HW_.out hHeld ?_
                refine t2_ 6 74 (m_ 13 127) HT_.out HW_.out hHeld ?_
                refine one_ (i := 7) (N := some 75) (m_ 13 255) rfl rfl (one_of HT_.out (by kernel_rfl)) (by decide) (fun K hK => ?_)
                refine goes_ Try.func26 (by kernel_rfl) rfl #[.slice Ao8 t456.length co8, .int .i64 (rd t457 4), .int .i64 (rd t457 5)] (by rfl) rfl rfl ll_ ?_
                with_reducible refine (impl_PlaneJoin.calls kj5 _ _ t456 (rd t457 4) (rd t457 5) t478 true _ ?side1 ?side2 A29.out).mono ?_
                (case side1 => exact cc_ HO_3)
                (case side2 => exact (Kd.R_reads' HO_3.out).2.1)
                rintro e w71 ⟨rfl, hb⟩
                have HS0_ := (hb.cell (World.block_lt_of_cell? _ _ (hHeld.1))).trans (hHeld.1)
                have HS1_ := (hb.cell (World.block_lt_of_cell? _ _ (hHeld.2))).trans (hHeld.2)
                refine ⟨_, rfl, ?_⟩
                have n0_ := Aside0.mk (Kd.R_below (rr_ HO_3) hb)
                have n1_ := Aside0.mk (Kd.R_below (rr_ HO_4) hb)
                have n2_ := Aside0.mk (Kd.R_below (rr_ HO_5) hb)
                have n3_ := Aside0.mk (Kd.R_below (rr_ HO_7) hb)
                have n4_ := Aside0.mk (below_step (bb_ HB) hb)
                clear HO_3
                clear HO_4
                clear HO_5
                clear HO_7
                clear HB
                have HO_3 := n0_
                have HO_4 := n1_
                have HO_5 := n2_
                have HO_7 := n3_
                have HB := n4_
                clear n0_ n1_ n2_ n3_ n4_
                (try clear hb)
                (try clear hb2)
                (try clear hk)
                (try clear hi)
                refine hK.out _ _ ⟨HS0_, HS1_⟩ (fun hHeld => ?_)
                clear hK K
                refine norm_ (a' := ?_) ?_ ?_; rotate_left; (show Act.put _ (some 75) _ = _; simp only [Act.put, List.setIfInBounds_toArray, List.set_cons_zero, List.set_cons_succ, i64_w, i32_w]; rfl)
                refine p_ 8 67 (m_ 13 511) HT_.out ?_
                refine p_ 9 76 (m_ 13 1023) HT_.out ?_
                refine p_ 10 77 (m_ 13 2047) HT_.out ?_
                refine p_ 11 11 (m_ 13 4095) HT_.out ?_
                refine p_ 12 12 (m_ 13 8191) HT_.out ?_
                refine done_ (done_of HT_.out (by kernel_rfl)) ?_
                try go_wp2
                have n0_ := Aside0.mk (Kd.R_drew HO_3.out)
                have n1_ := Aside0.mk (Kd.R_drew HO_4.out)
                have n2_ := Aside0.mk (Kd.R_drew HO_5.out)
                have n3_ := Aside0.mk (Kd.R_drew HO_7.out)
                have n4_ := Aside0.mk (below_drew1 HB.out)
                clear HO_3
                clear HO_4
                clear HO_5
                clear HO_7
                clear HB
                have HO_3 := n0_
                have HO_4 := n1_
                have HO_5 := n2_
                have HO_7 := n3_
                have HB := n4_
                clear n0_ n1_ n2_ n3_ n4_
                have p480 : 0 ≤ (0 : Int) := (by omega)
                have q480 : 0 < (t457.length : Int) := dd_
                obtain ⟨ad480, e480, hx480_0⟩ := Kd.at_int (Kd.R_reads' HO_4.out).2.2 0 p480 q480
                obtain rfl : ad472 = ad480 := (by injection e480)
                have qi480 : (0 < t457.length) = True := eq_true (by omega)
                (try rw [show ((0 : Int)).toNat = 0 from rfl] at hx480_0)
                (try rw [Addr.add_zero'] at hx480_0)
                replace p480 := eq_true p480
                replace q480 := eq_true q480
                have p481 : 0 ≤ (4 : Int) := (by omega)
                have q481 : 4 < (t457.length : Int) := dd_
                obtain ⟨ad481, e481, hx481_0⟩ := Kd.at_int (Kd.R_reads' HO_4.out).2.2 4 p481 q481
                obtain rfl : ad472 = ad481 := (by injection e481)
                (try simp only [show (4 : Int).toNat = 4 from rfl, Nat.reduceMul, Nat.reduceEqDiff, Go.Addr.add, ↓reduceIte] at hx481_0)
                have qi481 : (4 < t457.length) = True := eq_true (by omega)
                (try rw [show ((4 : Int)).toNat = 4 from rfl] at hx481_0)
                replace p481 := eq_true p481
                replace q481 := eq_true q481
                have p482 : 0 ≤ (5 : Int) := (by omega)
                have q482 : 5 < (t457.length : Int) := dd_
                obtain ⟨ad482, e482, hx482_0⟩ := Kd.at_int (Kd.R_reads' HO_4.out).2.2 5 p482 q482
                obtain rfl : ad472 = ad482 := (by injection e482)
                (try simp only [show (5 : Int).toNat = 5 from rfl, Nat.reduceMul, Nat.reduceEqDiff, Go.Addr.add, ↓reduceIte] at hx482_0)
                have qi482 : (5 < t457.length) = True := eq_true (by omega)
                (try rw [show ((5 : Int)).toNat = 5 from rfl] at hx482_0)
                replace p482 := eq_true p482
                replace q482 := eq_true q482
                have p483 : 0 ≤ (6 : Int) := (by omega)
                have q483 : 6 < (t457.length : Int) := dd_
                obtain ⟨ad483, e483, hx483_0⟩ := Kd.at_int (Kd.R_reads' HO_4.out).2.2 6 p483 q483
                obtain rfl : ad472 = ad483 := (by injection e483)
                (try simp only [show (6 : Int).toNat = 6 from rfl, Nat.reduceMul, Nat.reduceEqDiff, Go.Addr.add, ↓reduceIte] at hx483_0)
                have qi483 : (6 < t457.length) = True := eq_true (by omega)
                (try rw [show ((6 : Int)).toNat = 6 from rfl] at hx483_0)
                replace p483 := eq_true p483
                replace q483 := eq_true q483
                have p484 : 0 ≤ (1 : Int) := (by omega)
                have q484 : 1 < (t457.length : Int) := dd_
                obtain ⟨ad484, e484, hx484_0⟩ := Kd.at_int (Kd.R_reads' HO_4.out).2.2 1 p484 q484
                obtain rfl : ad472 = ad484 := (by injection e484)
                (try simp only [show (1 : Int).toNat = 1 from rfl, Nat.reduceMul, Nat.reduceEqDiff, Go.Addr.add, ↓reduceIte] at hx484_0)
                have qi484 : (1 < t457.length) = True := eq_true (by omega)
                (try rw [show ((1 : Int)).toNat = 1 from rfl] at hx484_0)
                replace p484 := eq_true p484
                replace q484 := eq_true q484
                have p485 : 0 ≤ (2 : Int) := (by omega)
                have q485 : 2 < (t457.length : Int) := dd_
                obtain ⟨ad485, e485, hx485_0⟩ := Kd.at_int (Kd.R_reads' HO_4.out).2.2 2 p485 q485
                obtain rfl : ad472 = ad485 := (by injection e485)
                (try simp only [show (2 : Int).toNat = 2 from rfl, Nat.reduceMul, Nat.reduceEqDiff, Go.Addr.add, ↓reduceIte] at hx485_0)
                have qi485 : (2 < t457.length) = True := eq_true (by omega)
                (try rw [show ((2 : Int)).toNat = 2 from rfl] at hx485_0)
                replace p485 := eq_true p485
                replace q485 := eq_true q485
                have p486 : 0 ≤ (3 : Int) := (by omega)
                have q486 : 3 < (t457.length : Int) := dd_
                obtain ⟨ad486, e486, hx486_0⟩ := Kd.at_int (Kd.R_reads' HO_4.out).2.2 3 p486 q486
                obtain rfl : ad472 = ad486 := (by injection e486)
                (try simp only [show (3 : Int).toNat = 3 from rfl, Nat.reduceMul, Nat.reduceEqDiff, Go.Addr.add, ↓reduceIte] at hx486_0)
                have qi486 : (3 < t457.length) = True := eq_true (by omega)
                (try rw [show ((3 : Int)).toNat = 3 from rfl] at hx486_0)
                replace p486 := eq_true p486
                replace q486 := eq_true q486
                refine start_ (n := 29) (S := fun w' => w'.cell? ad472 = some (.int .i64 (rd t457 0)) ∧ w'.cell? ⟨ad472.block, ad472.off + 4, none⟩ = some (.int .i64 (rd t457 4)) ∧ w'.cell? ⟨ad472.block, ad472.off + 5, none⟩ = some (.int .i64 (rd t457 5)) ∧ w'.cell? ⟨ad472.block, ad472.off + 6, none⟩ = some (.int .i64 (rd t457 6)) ∧ w'.cell? ⟨ad472.block, ad472.off + 1, none⟩ = some (.int .i64 (rd t457 1)) ∧ w'.cell? ⟨ad472.block, ad472.off + 2, none⟩ = some (.int .i64 (rd t457 2)) ∧ w'.cell? ⟨ad472.block, ad472.off + 3, none⟩ = some (.int .i64 (rd t457 3))) (ds := []) #[F_,F_,F_,F_,F_,F_,F_,F_,F_,F_,F_,F_,F_,F_,F_,F_,F_,F_,F_,F_,F_,F_,F_,F_,F_,F_,F_,F_,F_] (by kernel_rfl) rfl rfl ⟨hx480_0, hx481_0, hx482_0, hx483_0, hx484_0, hx485_0, hx486_0⟩ (fun hHeld => ?_); refine with_tabW laws_FnTwinPoints.tab10 laws_FnTwinPoints.bits10 (fun HT_ HW_ => ?_)
                generalize w71.drew = w72 at HO_3 HO_4 HO_5 HO_7 HB hx480_0 hx481_0 hx482_0 hx483_0 hx484_0 hx485_0 hx486_0 hHeld ⊢
                refine p_ 0 79 (m_ 29 1) HT_.out ?_
                refine p_ 1 80 (m_ 29 3) HT_.out ?_
                refine p_ 2 81 (m_ 29 7) HT_.out ?_
                refine p_ 4 83 (m_ 29 23) HT_.out ?_
                refine p_ 5 84 (m_ 29 55) HT_.out ?_
                refine p_ 7 86 (m_ 29 183) HT_.out ?_
                refine p_ 8 87 (m_ 29 439) HT_.out ?_
                refine p_ 10 89 (m_ 29 1463) HT_.out ?_
                refine p_ 11 90 (m_ 29 3511) HT_.out ?_
                refine p_ 13 92 (m_ 29 11703) HT_.out ?_
                refine p_ 14 93 (m_ 29 28087) HT_.out ?_
                refine p_ 16 95 (m_ 29 93623) HT_.out ?_
                refine p_ 17 96 (m_ 29 224695) HT_.out ?_
                refine p_ 19 98 (m_ 29 748983) HT_.out ?_
                refine p_ 20 99 (m_ 29 1797559) HT_.out ?_
                refine take_ (i := 3) (N := some 82) (v := ?_) (a' := ?_) (m_ 29 1797567) rfl rfl (take_ofW HT_.out HW_.out (by kernel_rfl)) (fun _ _ _ h => h) (Or.inl ⟨by rfl, ?_⟩) hHeld ?_ ?_; rotate_left; (rintro w' ⟨s0, s1, s2, s3, s4, s5, s6⟩; go_simp; with_reducible rfl); rotate_left; (simp only [Act.put, List.setIfInBounds_toArray, List.set_cons_zero, List.set_cons_succ, i64_w, i32_w]; rfl)
                refine take_ (i := 6) (N := some 85) (v := ?_) (a' := ?_) (m_ 29 1797631) rfl rfl (take_ofW HT_.out HW_.out (by kernel_rfl)) (fun _ _ _ h => h) (Or.inl ⟨by rfl, ?_⟩) hHeld ?_ ?_; rotate_left; (rintro w' ⟨s0, s1, s2, s3, s4, s5, s6⟩; go_simp; with_reducible rfl); rotate_left; (simp only [Act.put, List.setIfInBounds_toArray, List.set_cons_zero, List.set_cons_succ, i64_w, i32_w]; rfl)
                refine take_ (i := 9) (N := some 88) (v := ?_) (a' := ?_) (m_ 29 1798143) rfl rfl (take_ofW HT_.out HW_.out (by kernel_rfl)) (fun _ _ _ h => h) (Or.inl ⟨by rfl, ?_⟩) hHeld ?_ ?_; rotate_left; (rintro w' ⟨s0, s1, s2, s3, s4, s5, s6⟩; go_simp; with_reducible rfl); rotate_left; (simp only [Act.put, List.setIfInBounds_toArray, List.set_cons_zero, List.set_cons_succ, i64_w, i32_w]; rfl)
                refine take_ (i := 12) (N := some 91) (v := ?_) (a' := ?_) (m_ 29 1802239) rfl rfl (take_ofW HT_.out HW_.out (by kernel_rfl)) (fun _ _ _ h => h) (Or.inl ⟨by rfl, ?_⟩) hHeld ?_ ?_; rotate_left; (rintro w' ⟨s0, s1, s2, s3, s4, s5, s6⟩; go_simp; with_reducible rfl); rotate_left; (simp only [Act.put, List.setIfInBounds_toArray, List.set_cons_zero, List.set_cons_succ, i64_w, i32_w]; rfl)
                refine take_ (i := 15) (N := some 94) (v := ?_) (a' := ?_) (m_ 29 1835007) rfl rfl (take_ofW HT_.out HW_.out (by kernel_rfl)) (fun _ _ _ h => h) (Or.inl ⟨by rfl, ?_⟩) hHeld ?_ ?_; rotate_left; (rintro w' ⟨s0, s1, s2, s3, s4, s5, s6⟩; go_simp; with_reducible rfl); rotate_left; (simp only [Act.put, List.setIfInBounds_toArray, List.set_cons_zero, List.set_cons_succ, i64_w, i32_w]; rfl)
                refine take_ (i := 18) (N := some 97) (v := ?_) (a' := ?_) (m_ 29 2097151) rfl rfl (take_ofW HT_.out HW_.out (by kernel_rfl)) (fun _ _ _ h => h) (Or.inl ⟨by rfl, ?_⟩) hHeld ?_ ?_; rotate_left; (rintro w' ⟨s0, s1, s2, s3, s4, s5, s6⟩; go_simp; with_reducible rfl); rotate_left; (simp only [Act.put, List.setIfInBounds_toArray, List.set_cons_zero, List.set_cons_succ, i64_w, i32_w]; rfl)
                refine take_ (i := 21) (N := some 100) (v := ?_) (a' := ?_) (m_ 29 4194303) rfl rfl (take_ofW HT_.out HW_.out (by kernel_rfl)) (fun _ _ _ h => h) (Or.inl ⟨by rfl, ?_⟩) hHeld ?_ ?_; rotate_left; (rintro w' ⟨s0, s1, s2, s3, s4, s5, s6⟩; go_simp; with_reducible rfl); rotate_left; (simp only [Act.put, List.setIfInBounds_toArray, List.set_cons_zero, List.set_cons_succ, i64_w, i32_w]; rfl)
                refine one_ (i := 22) (N := some 101) (m_ 29 8388607) rfl rfl (one_of HT_.out (by kernel_rfl)) (by decide) (fun K hK => ?_)
                refine Kd.R_lit_step (Kd.int .i64) _ 3 ?hg (N := 101) ?hd (xs := ([rd t457 0, rd t457 4, rd t457 5, rd t457 6, rd t457 1, rd t457 2, rd t457 3] : List Int)) (inner := [.int .i64 (rd t457 0), .int .i64 (rd t457 4), .int .i64 (rd t457 5), .int .i64 (rd t457 6), .int .i64 (rd t457 1), .int .i64 (rd t457 2), .int .i64 (rd t457 3)]) (ok := fun _ => True) (okp := fun _ => True) ?hr ?hp (fun _ hk => hk) trivial (Below.refl _ _) (Nat.le_refl _) (by simp) ?_; (case hd => rfl); (case hg => rfl); (case hr => first | (go_simp; done) | (go_simp; rfl)); (case hp => exact (Reps.one (show Kd.M (Kd.int .i64) _ _ _ (rd t457 0) [.int .i64 (rd t457 0)] from rfl) (Reps.one (show Kd.M (Kd.int .i64) _ _ _ (rd t457 4) [.int .i64 (rd t457 4)] from rfl) (Reps.one (show Kd.M (Kd.int .i64) _ _ _ (rd t457 5) [.int .i64 (rd t457 5)] from rfl) (Reps.one (show Kd.M (Kd.int .i64) _ _ _ (rd t457 6) [.int .i64 (rd t457 6)] from rfl) (Reps.one (show Kd.M (Kd.int .i64) _ _ _ (rd t457 1) [.int .i64 (rd t457 1)] from rfl) (Reps.one (show Kd.M (Kd.int .i64) _ _ _ (rd t457 2) [.int .i64 (rd t457 2)] from rfl) (Reps.one (show Kd.M (Kd.int .i64) _ _ _ (rd t457 3) [.int .i64 (rd t457 3)] from rfl) (Reps.none _ _)))))))))
                intro v488 w73 ho74 hb hg_ hnew_
                have HS0_ := (hb.cell (World.block_lt_of_cell? _ _ (hHeld.1))).trans (hHeld.1)
                have HS1_ := (hb.cell (World.block_lt_of_cell? _ _ (hHeld.2.1))).trans (hHeld.2.1)
                have HS2_ := (hb.cell (World.block_lt_of_cell? _ _ (hHeld.2.2.1))).trans (hHeld.2.2.1)
                have HS3_ := (hb.cell (World.block_lt_of_cell? _ _ (hHeld.2.2.2.1))).trans (hHeld.2.2.2.1)
                have HS4_ := (hb.cell (World.block_lt_of_cell? _ _ (hHeld.2.2.2.2.1))).trans (hHeld.2.2.2.2.1)
                have HS5_ := (hb.cell (World.block_lt_of_cell? _ _ (hHeld.2.2.2.2.2.1))).trans (hHeld.2.2.2.2.2.1)
                have HS6_ := (hb.cell (World.block_lt_of_cell? _ _ (hHeld.2.2.2.2.2.2))).trans (hHeld.2.2.2.2.2.2)
                clear hg_ hnew_
                (first | rw [← Ny487.out] at ho74 | (simp only [Int.reduceToNat] at ho74; rw [← Ny487.out] at ho74))
                have n0_ := Aside0.mk (Kd.R_elder' (rr_ HO_3) (Kd.R_base ho74) hb)
                have n1_ := Aside0.mk (Kd.R_elder' (rr_ HO_4) (Kd.R_base ho74) hb)
                have n2_ := Aside0.mk (Kd.R_elder' (rr_ HO_5) (Kd.R_base ho74) hb)
                have n3_ := Aside0.mk (Kd.R_elder' (rr_ HO_7) (Kd.R_base ho74) hb)
                have n4_ := Aside0.mk (Kd.R_lower (Kd.R_new' (Kd.R_new' (Kd.R_new' (Kd.R_new' ho74 (Kd.R_lt (rr_ HO_3))) (Kd.R_lt (rr_ HO_4))) (Kd.R_lt (rr_ HO_5))) (Kd.R_lt (rr_ HO_7))) (below_size (bb_ HB)))
                have n5_ := Aside0.mk (below_step (bb_ HB) hb)
                clear HO_3
                clear HO_4
                clear HO_5
                clear HO_7
                clear HB
                have HO_3 := n0_
                have HO_4 := n1_
                have HO_5 := n2_
                have HO_7 := n3_
                have HO489 := n4_
                have HB := n5_
                clear n0_ n1_ n2_ n3_ n4_ n5_
                clear hb ho74
                obtain ⟨Ao75, co75, eo75⟩ := Kd.R_slice HO489.out
                (first | subst eo75 | (injection eo75 with f1_ f2_ f3_; have f4_ := f1_.symm; have f5_ := f3_.symm; clear f1_ f2_ f3_; subst f4_; subst f5_))
                refine hK.out _ _ ⟨HS0_, HS1_, HS2_, HS3_, HS4_, HS5_, HS6_⟩ (fun hHeld => ?_)
                clear hK K
                refine norm_ (a' := ?_) ?_ ?_; rotate_left; (show Act.put _ (some 101) _ = _; simp only [Act.put, List.setIfInBounds_toArray, List.set_cons_zero, List.set_cons_succ, i64_w, i32_w]; rfl)
                refine one_ (i := 23) (N := some 102) (m_ 29 16777215) rfl rfl (one_of HT_.out (by kernel_rfl)) (by decide) (fun K hK => ?_)
                refine goes_ Try.func18 (by kernel_rfl) rfl #[.slice Ao8 t456.length co8, .slice Ao75 y487.length co75] (by rfl) rfl rfl ll_ ?_
                with_reducible refine (impl_TwinPoints.calls kj5 _ _ t456 _ _ y487 t490 true _ ?side1 ?side2 ?side3 ?side4 A33.out).mono ?_
                (case side1 => exact cc_ HO_3)
                (case side2 => exact (Kd.R_reads' HO_3.out).2.1)
                (case side3 => exact cc_ HO489)
                (case side4 => exact (Kd.R_reads' HO489.out).2.1)
                rintro e w76 ⟨v492, rfl, ho0, hb⟩
                have HS0_ := (hb.cell (World.block_lt_of_cell? _ _ (hHeld.1))).trans (hHeld.1)
                have HS1_ := (hb.cell (World.block_lt_of_cell? _ _ (hHeld.2.1))).trans (hHeld.2.1)
                have HS2_ := (hb.cell (World.block_lt_of_cell? _ _ (hHeld.2.2.1))).trans (hHeld.2.2.1)
                have HS3_ := (hb.cell (World.block_lt_of_cell? _ _ (hHeld.2.2.2.1))).trans (hHeld.2.2.2.1)
                have HS4_ := (hb.cell (World.block_lt_of_cell? _ _ (hHeld.2.2.2.2.1))).trans (hHeld.2.2.2.2.1)
                have HS5_ := (hb.cell (World.block_lt_of_cell? _ _ (hHeld.2.2.2.2.2.1))).trans (hHeld.2.2.2.2.2.1)
                have HS6_ := (hb.cell (World.block_lt_of_cell? _ _ (hHeld.2.2.2.2.2.2))).trans (hHeld.2.2.2.2.2.2)
                refine ⟨_, rfl, ?_⟩
                have n0_ := Aside0.mk (Kd.R_elder' (rr_ HO_3) (Kd.R_base ho0) hb)
                have n1_ := Aside0.mk (Kd.R_elder' (rr_ HO_4) (Kd.R_base ho0) hb)
                have n2_ := Aside0.mk (Kd.R_elder' (rr_ HO_5) (Kd.R_base ho0) hb)
                have n3_ := Aside0.mk (Kd.R_elder' (rr_ HO_7) (Kd.R_base ho0) hb)
                have n4_ := Aside0.mk (Kd.R_elder' (rr_ HO489) (Kd.R_base ho0) hb)
                have n5_ := Aside0.mk (Kd.R_lower (Kd.R_new' (Kd.R_new' (Kd.R_new' (Kd.R_new' (Kd.R_new' ho0 (Kd.R_lt (rr_ HO_3))) (Kd.R_lt (rr_ HO_4))) (Kd.R_lt (rr_ HO_5))) (Kd.R_lt (rr_ HO_7))) (Kd.R_lt (rr_ HO489))) (below_size (bb_ HB)))
                have n6_ := Aside0.mk (below_step (bb_ HB) hb)
                clear HO_3
                clear HO_4
                clear HO_5
                clear HO_7
                clear HO489
                clear HB
                have HO_3 := n0_
                have HO_4 := n1_
                have HO_5 := n2_
                have HO_7 := n3_
                have HO489 := n4_
                have HO493 := n5_
                have HB := n6_
                clear n0_ n1_ n2_ n3_ n4_ n5_ n6_
                (try clear hb)
                (try clear hb2)
                (try clear hk)
                (try clear hi)
                (try clear ho0)
                refine hK.out _ _ ⟨HS0_, HS1_, HS2_, HS3_, HS4_, HS5_, HS6_⟩ (fun hHeld => ?_)
                clear hK K
                refine norm_ (a' := ?_) ?_ ?_; rotate_left; (show Act.put _ (some 102) _ = _; simp only [Act.put, List.setIfInBounds_toArray, List.set_cons_zero, List.set_cons_succ, i64_w, i32_w]; rfl)
                refine p_ 24 78 (m_ 29 33554431) HT_.out ?_
                refine p_ 25 103 (m_ 29 67108863) HT_.out ?_
                refine p_ 26 104 (m_ 29 134217727) HT_.out ?_
                refine p_ 27 13 (m_ 29 268435455) HT_.out ?_
                refine p_ 28 14 (m_ 29 536870911) HT_.out ?_
                refine done_ (done_of HT_.out (by kernel_rfl)) ?_
                obtain ⟨Ao77, co77, eo77⟩ := Kd.R_slice HO493.out
                subst eo77
                obtain ⟨Ao78, co78, eo78⟩ := Kd.R_slice HO_5.out
                subst eo78
                try go_wp2_with (first | (go_at_call 25; (with_reducible refine (laws_sameInts.calls kj5 _ _ t490 _ _ t462 false _ ?side1 ?side2 ?side3 ?side4 A37.out).mono ?_); (case side1 => exact cc_ HO493); (case side2 => exact (Kd.R_reads' HO493.out).2.1); (case side3 => exact cc_ HO_5); (case side4 => exact (Kd.R_reads' HO_5.out).2.1); rintro e w' ⟨rfl, ⟨nd, rfl⟩⟩))
                go_ret
                exact ⟨ee_, bb_ HB⟩
              ·replace c36 := Bool.eq_false_iff.mpr c36
               subst c36
               have H1 : (some false) = some r := by rw [if_neg (show ¬ (false = true) by decide)] at H; exact H
               clear H
               have H := H1
               clear H1
               obtain rfl := Option.some.inj H
               try go_wp2
               have n0_ := Aside0.mk (Kd.R_drew HO_3.out)
               have n1_ := Aside0.mk (Kd.R_drew HO_4.out)
               have n2_ := Aside0.mk (Kd.R_drew HO_5.out)
               have n3_ := Aside0.mk (Kd.R_drew HO_7.out)
               have n4_ := Aside0.mk (below_drew1 HB.out)
               clear HO_3
               clear HO_4
               clear HO_5
               clear HO_7
               clear HB
               have HO_3 := n0_
               have HO_4 := n1_
               have HO_5 := n2_
               have HO_7 := n3_
               have HB := n4_
               clear n0_ n1_ n2_ n3_ n4_
               have p472 : 0 ≤ (1 : Int) := (by omega)
               have q472 : 1 < (t457.length : Int) := dd_
               obtain ⟨ad472, e472, hx472_0⟩ := Kd.at_int (Kd.R_reads' HO_4.out).2.2 1 p472 q472
               cases e472
               (try simp only [show (1 : Int).toNat = 1 from rfl, Nat.reduceMul, Nat.reduceEqDiff, Go.Addr.add, ↓reduceIte] at hx472_0)
               have qi472 : (1 < t457.length) = True := eq_true (by omega)
               (try rw [show ((1 : Int)).toNat = 1 from rfl] at hx472_0)
               replace p472 := eq_true p472
               replace q472 := eq_true q472
               have p473 : 0 ≤ (2 : Int) := (by omega)
               have q473 : 2 < (t457.length : Int) := dd_
               obtain ⟨ad473, e473, hx473_0⟩ := Kd.at_int (Kd.R_reads' HO_4.out).2.2 2 p473 q473
               obtain rfl : ad472 = ad473 := (by injection e473)
               (try simp only [show (2 : Int).toNat = 2 from rfl, Nat.reduceMul, Nat.reduceEqDiff, Go.Addr.add, ↓reduceIte] at hx473_0)
               have qi473 : (2 < t457.length) = True := eq_true (by omega)
               (try rw [show ((2 : Int)).toNat = 2 from rfl] at hx473_0)
               replace p473 := eq_true p473
               replace q473 := eq_true q473
               refine start_ (n := 13) (S := fun w' => w'.cell? ⟨ad472.block, ad472.off + 1, none⟩ = some (.int .i64 (rd t457 1)) ∧ w'.cell? ⟨ad472.block, ad472.off + 2, none⟩ = some (.int .i64 (rd t457 2))) (ds := []) #[F_,F_,F_,F_,F_,F_,F_,F_,F_,F_,F_,F_,F_] (by kernel_rfl) rfl rfl ⟨hx472_0, hx473_0⟩ (fun hHeld => ?_); refine with_tabW laws_FnTwinPoints.tab8 laws_FnTwinPoints.bits8 (fun HT_ HW_ => ?_)
               generalize wc.drew = w79 at HO_3 HO_4 HO_5 HO_7 HB hx472_0 hx473_0 hHeld ⊢
               refine p_ 0 57 (m_ 13 1) HT_.out ?_
               refine p_ 1 58 (m_ 13 3) HT_.out ?_
               refine p_ 2 59 (m_ 13 7) HT_.out ?_
               refine p_ 4 61 (m_ 13 23) HT_.out ?_
               refine p_ 5 62 (m_ 13 55) HT_.out ?_
               refine t2_ 3 60 (m_ 13 63) HT_.out HW_.out hHeld ?_
               refine t2_ 6 63 (m_ 13 127) HT_.out HW_.out hHeld ?_
               refine one_ (i := 7) (N := some 64) (m_ 13 255) rfl rfl (one_of HT_.out (by kernel_rfl)) (by decide) (fun K hK => ?_)
               refine goes_ Try.func26 (by kernel_rfl) rfl #[.slice Ao8 t456.length co8, .int .i64 (rd t457 1), .int .i64 (rd t457 2)] (by rfl) rfl rfl ll_ ?_
               with_reducible refine (impl_PlaneJoin.calls kj5 _ _ t456 (rd t457 1) (rd t457 2) t474 true _ ?side1 ?side2 A26.out).mono ?_
               (case side1 => exact cc_ HO_3)
               (case side2 => exact (Kd.R_reads' HO_3.out).2.1)
               rintro e w80 ⟨rfl, hb⟩
               have HS0_ := (hb.cell (World.block_lt_of_cell? _ _ (hHeld.1))).trans (hHeld.1)
               have HS1_ := (hb.cell (World.block_lt_of_cell? _ _ (hHeld.2))).trans (hHeld.2)
               refine ⟨_, rfl, ?_⟩
               have n0_ := Aside0.mk (Kd.R_below (rr_ HO_3) hb)
               have n1_ := Aside0.mk (Kd.R_below (rr_ HO_4) hb)
               have n2_ := Aside0.mk (Kd.R_below (rr_ HO_5) hb)
               have n3_ := Aside0.mk (Kd.R_below (rr_ HO_7) hb)
               have n4_ := Aside0.mk (below_step (bb_ HB) hb)
               clear HO_3
               clear HO_4
               clear HO_5
               clear HO_7
               clear HB
               have HO_3 := n0_
               have HO_4 := n1_
               have HO_5 := n2_
               have HO_7 := n3_
               have HB := n4_
               clear n0_ n1_ n2_ n3_ n4_
               (try clear hb)
               (try clear hb2)
               (try clear hk)
               (try clear hi)
               refine hK.out _ _ ⟨HS0_, HS1_⟩ (fun hHeld => ?_)
               clear hK K
               refine norm_ (a' := ?_) ?_ ?_; rotate_left; (show Act.put _ (some 64) _ = _; simp only [Act.put, List.setIfInBounds_toArray, List.set_cons_zero, List.set_cons_succ, i64_w, i32_w]; rfl)
               refine p_ 8 56 (m_ 13 511) HT_.out ?_
               refine p_ 9 65 (m_ 13 1023) HT_.out ?_
               refine p_ 10 66 (m_ 13 2047) HT_.out ?_
               refine p_ 11 9 (m_ 13 4095) HT_.out ?_
               refine p_ 12 10 (m_ 13 8191) HT_.out ?_
               refine done_ (done_of HT_.out (by kernel_rfl)) ?_
               try go_wp2
               have n0_ := Aside0.mk (Kd.R_drew HO_3.out)
               have n1_ := Aside0.mk (Kd.R_drew HO_4.out)
               have n2_ := Aside0.mk (Kd.R_drew HO_5.out)
               have n3_ := Aside0.mk (Kd.R_drew HO_7.out)
               have n4_ := Aside0.mk (below_drew1 HB.out)
               clear HO_3
               clear HO_4
               clear HO_5
               clear HO_7
               clear HB
               have HO_3 := n0_
               have HO_4 := n1_
               have HO_5 := n2_
               have HO_7 := n3_
               have HB := n4_
               clear n0_ n1_ n2_ n3_ n4_
               have p476 : 0 ≤ (4 : Int) := (by omega)
               have q476 : 4 < (t457.length : Int) := dd_
               obtain ⟨ad476, e476, hx476_0⟩ := Kd.at_int (Kd.R_reads' HO_4.out).2.2 4 p476 q476
               obtain rfl : ad472 = ad476 := (by injection e476)
               (try simp only [show (4 : Int).toNat = 4 from rfl, Nat.reduceMul, Nat.reduceEqDiff, Go.Addr.add, ↓reduceIte] at hx476_0)
               have qi476 : (4 < t457.length) = True := eq_true (by omega)
               (try rw [show ((4 : Int)).toNat = 4 from rfl] at hx476_0)
               replace p476 := eq_true p476
               replace q476 := eq_true q476
               have p477 : 0 ≤ (5 : Int) := (by omega)
               have q477 : 5 < (t457.length : Int) := dd_
               obtain ⟨ad477, e477, hx477_0⟩ := Kd.at_int (Kd.R_reads' HO_4.out).2.2 5 p477 q477
               obtain rfl : ad472 = ad477 := (by injection e477)
               (try simp only [show (5 : Int).toNat = 5 from rfl, Nat.reduceMul, Nat.reduceEqDiff, Go.Addr.add, ↓reduceIte] at hx477_0)
               have qi477 : (5 < t457.length) = True := eq_true (by omega)
               (try rw [show ((5 : Int)).toNat = 5 from rfl] at hx477_0)
               replace p477 := eq_true p477
               replace q477 := eq_true q477
               refine start_ (n := 13) (S := fun w' => w'.cell? ⟨ad472.block, ad472.off + 4, none⟩ = some (.int .i64 (rd t457 4)) ∧ w'.cell? ⟨ad472.block, ad472.off + 5, none⟩ = some (.int .i64 (rd t457 5))) (ds := []) #[F_,F_,F_,F_,F_,F_,F_,F_,F_,F_,F_,F_,F_] (by kernel_rfl) rfl rfl ⟨hx476_0, hx477_0⟩ (fun hHeld => ?_); refine with_tabW laws_FnTwinPoints.tab9 laws_FnTwinPoints.bits9 (fun HT_ HW_ => ?_)
               generalize w80.drew = w81 at HO_3 HO_4 HO_5 HO_7 HB hx476_0 hx477_0 hHeld ⊢
               refine p_ 0 68 (m_ 13 1) HT_.out ?_
               refine p_ 1 69 (m_ 13 3) HT_.out ?_
               refine p_ 2 70 (m_ 13 7) HT_.out ?_
               refine p_ 4 72 (m_ 13 23) HT_.out ?_
               refine p_ 5 73 (m_ 13 55) HT_.out ?_
               refine t2_ 3 71 (m_ 13 63) HT_.out HW_.out hHeld ?_
               refine t2_ 6 74 (m_ 13 127) HT_.out HW_.out hHeld ?_
               refine one_ (i := 7) (N := some 75) (m_ 13 255) rfl rfl (one_of HT_.out (by kernel_rfl)) (by decide) (fun K hK => ?_)
               refine goes_ Try.func26 (by kernel_rfl) rfl #[.slice Ao8 t456.length co8, .int .i64 (rd t457 4), .int .i64 (rd t457 5)] (by rfl) rfl rfl ll_ ?_
               with_reducible refine (impl_PlaneJoin.calls kj5 _ _ t456 (rd t457 4) (rd t457 5) t478 true _ ?side1 ?side2 A29.out).mono ?_
               (case side1 => exact cc_ HO_3)
               (case side2 => exact (Kd.R_reads' HO_3.out).2.1)
               rintro e w82 ⟨rfl, hb⟩
               have HS0_ := (hb.cell (World.block_lt_of_cell? _ _ (hHeld.1))).trans (hHeld.1)
               have HS1_ := (hb.cell (World.block_lt_of_cell? _ _ (hHeld.2))).trans (hHeld.2)
               refine ⟨_, rfl, ?_⟩
               have n0_ := Aside0.mk (Kd.R_below (rr_ HO_3) hb)
               have n1_ := Aside0.mk (Kd.R_below (rr_ HO_4) hb)
               have n2_ := Aside0.mk (Kd.R_below (rr_ HO_5) hb)
               have n3_ := Aside0.mk (Kd.R_below (rr_ HO_7) hb)
               have n4_ := Aside0.mk (below_step (bb_ HB) hb)
               clear HO_3
               clear HO_4
               clear HO_5
               clear HO_7
               clear HB
               have HO_3 := n0_
               have HO_4 := n1_
               have HO_5 := n2_
               have HO_7 := n3_
               have HB := n4_
               clear n0_ n1_ n2_ n3_ n4_
               (try clear hb)
               (try clear hb2)
               (try clear hk)
               (try clear hi)
               refine hK.out _ _ ⟨HS0_, HS1_⟩ (fun hHeld => ?_)
               clear hK K
               refine norm_ (a' := ?_) ?_ ?_; rotate_left; (show Act.put _ (some 75) _ = _; simp only [Act.put, List.setIfInBounds_toArray, List.set_cons_zero, List.set_cons_succ, i64_w, i32_w]; rfl)
               refine p_ 8 67 (m_ 13 511) HT_.out ?_
               refine p_ 9 76 (m_ 13 1023) HT_.out ?_
               refine p_ 10 77 (m_ 13 2047) HT_.out ?_
               refine p_ 11 11 (m_ 13 4095) HT_.out ?_
               refine p_ 12 12 (m_ 13 8191) HT_.out ?_
               refine done_ (done_of HT_.out (by kernel_rfl)) ?_
               try go_wp2
               have n0_ := Aside0.mk (Kd.R_drew HO_3.out)
               have n1_ := Aside0.mk (Kd.R_drew HO_4.out)
               have n2_ := Aside0.mk (Kd.R_drew HO_5.out)
               have n3_ := Aside0.mk (Kd.R_drew HO_7.out)
               have n4_ := Aside0.mk (below_drew1 HB.out)
               clear HO_3
               clear HO_4
               clear HO_5
               clear HO_7
               clear HB
               have HO_3 := n0_
               have HO_4 := n1_
               have HO_5 := n2_
               have HO_7 := n3_
               have HB := n4_
               clear n0_ n1_ n2_ n3_ n4_
               have p480 : 0 ≤ (0 : Int) := (by omega)
               have q480 : 0 < (t457.length : Int) := dd_
               obtain ⟨ad480, e480, hx480_0⟩ := Kd.at_int (Kd.R_reads' HO_4.out).2.2 0 p480 q480
               obtain rfl : ad472 = ad480 := (by injection e480)
               have qi480 : (0 < t457.length) = True := eq_true (by omega)
               (try rw [show ((0 : Int)).toNat = 0 from rfl] at hx480_0)
               (try rw [Addr.add_zero'] at hx480_0)
               replace p480 := eq_true p480
               replace q480 := eq_true q480
               have p481 : 0 ≤ (4 : Int) := (by omega)
               have q481 : 4 < (t457.length : Int) := dd_
               obtain ⟨ad481, e481, hx481_0⟩ := Kd.at_int (Kd.R_reads' HO_4.out).2.2 4 p481 q481
               obtain rfl : ad472 = ad481 := (by injection e481)
               (try simp only [show (4 : Int).toNat = 4 from rfl, Nat.reduceMul, Nat.reduceEqDiff, Go.Addr.add, ↓reduceIte] at hx481_0)
               have qi481 : (4 < t457.length) = True := eq_true (by omega)
               (try rw [show ((4 : Int)).toNat = 4 from rfl] at hx481_0)
               replace p481 := eq_true p481
               replace q481 := eq_true q481
               have p482 : 0 ≤ (5 : Int) := (by omega)
               have q482 : 5 < (t457.length : Int) := dd_
               obtain ⟨ad482, e482, hx482_0⟩ := Kd.at_int (Kd.R_reads' HO_4.out).2.2 5 p482 q482
               obtain rfl : ad472 = ad482 := (by injection e482)
               (try simp only [show (5 : Int).toNat = 5 from rfl, Nat.reduceMul, Nat.reduceEqDiff, Go.Addr.add, ↓reduceIte] at hx482_0)
               have qi482 : (5 < t457.length) = True := eq_true (by omega)
               (try rw [show ((5 : Int)).toNat = 5 from rfl] at hx482_0)
               replace p482 := eq_true p482
               replace q482 := eq_true q482
               have p483 : 0 ≤ (6 : Int) := (by omega)
               have q483 : 6 < (t457.length : Int) := dd_
               obtain ⟨ad483, e483, hx483_0⟩ := Kd.at_int (Kd.R_reads' HO_4.out).2.2 6 p483 q483
               obtain rfl : ad472 = ad483 := (by injection e483)
               (try simp only [show (6 : Int).toNat = 6 from rfl, Nat.reduceMul, Nat.reduceEqDiff, Go.Addr.add, ↓reduceIte] at hx483_0)
               have qi483 : (6 < t457.length) = True := eq_true (by omega)
               (try rw [show ((6 : Int)).toNat = 6 from rfl] at hx483_0)
               replace p483 := eq_true p483
               replace q483 := eq_true q483
               have p484 : 0 ≤ (1 : Int) := (by omega)
               have q484 : 1 < (t457.length : Int) := dd_
               obtain ⟨ad484, e484, hx484_0⟩ := Kd.at_int (Kd.R_reads' HO_4.out).2.2 1 p484 q484
               obtain rfl : ad472 = ad484 := (by injection e484)
               (try simp only [show (1 : Int).toNat = 1 from rfl, Nat.reduceMul, Nat.reduceEqDiff, Go.Addr.add, ↓reduceIte] at hx484_0)
               have qi484 : (1 < t457.length) = True := eq_true (by omega)
               (try rw [show ((1 : Int)).toNat = 1 from rfl] at hx484_0)
               replace p484 := eq_true p484
               replace q484 := eq_true q484
               have p485 : 0 ≤ (2 : Int) := (by omega)
               have q485 : 2 < (t457.length : Int) := dd_
               obtain ⟨ad485, e485, hx485_0⟩ := Kd.at_int (Kd.R_reads' HO_4.out).2.2 2 p485 q485
               obtain rfl : ad472 = ad485 := (by injection e485)
               (try simp only [show (2 : Int).toNat = 2 from rfl, Nat.reduceMul, Nat.reduceEqDiff, Go.Addr.add, ↓reduceIte] at hx485_0)
               have qi485 : (2 < t457.length) = True := eq_true (by omega)
               (try rw [show ((2 : Int)).toNat = 2 from rfl] at hx485_0)
               replace p485 := eq_true p485
               replace q485 := eq_true q485
               have p486 : 0 ≤ (3 : Int) := (by omega)
               have q486 : 3 < (t457.length : Int) := dd_
               obtain ⟨ad486, e486, hx486_0⟩ := Kd.at_int (Kd.R_reads' HO_4.out).2.2 3 p486 q486
               obtain rfl : ad472 = ad486 := (by injection e486)
               (try simp only [show (3 : Int).toNat = 3 from rfl, Nat.reduceMul, Nat.reduceEqDiff, Go.Addr.add, ↓reduceIte] at hx486_0)
               have qi486 : (3 < t457.length) = True := eq_true (by omega)
               (try rw [show ((3 : Int)).toNat = 3 from rfl] at hx486_0)
               replace p486 := eq_true p486
               replace q486 := eq_true q486
               refine start_ (n := 29) (S := fun w' => w'.cell? ad472 = some (.int .i64 (rd t457 0)) ∧ w'.cell? ⟨ad472.block, ad472.off + 4, none⟩ = some (.int .i64 (rd t457 4)) ∧ w'.cell? ⟨ad472.block, ad472.off + 5, none⟩ = some (.int .i64 (rd t457 5)) ∧ w'.cell? ⟨ad472.block, ad472.off + 6, none⟩ = some (.int .i64 (rd t457 6)) ∧ w'.cell? ⟨ad472.block, ad472.off + 1, none⟩ = some (.int .i64 (rd t457 1)) ∧ w'.cell? ⟨ad472.block, ad472.off + 2, none⟩ = some (.int .i64 (rd t457 2)) ∧ w'.cell? ⟨ad472.block, ad472.off + 3, none⟩ = some (.int .i64 (rd t457 3))) (ds := []) #[F_,F_,F_,F_,F_,F_,F_,F_,F_,F_,F_,F_,F_,F_,F_,F_,F_,F_,F_,F_,F_,F_,F_,F_,F_,F_,F_,F_,F_] (by kernel_rfl) rfl rfl ⟨hx480_0, hx481_0, hx482_0, hx483_0, hx484_0, hx485_0, hx486_0⟩ (fun hHeld => ?_); refine with_tabW laws_FnTwinPoints.tab10 laws_FnTwinPoints.bits10 (fun HT_ HW_ => ?_)
               generalize w82.drew = w83 at HO_3 HO_4 HO_5 HO_7 HB hx480_0 hx481_0 hx482_0 hx483_0 hx484_0 hx485_0 hx486_0 hHeld ⊢
               refine p_ 0 79 (m_ 29 1) HT_.out ?_
               refine p_ 1 80 (m_ 29 3) HT_.out ?_
               refine p_ 2 81 (m_ 29 7) HT_.out ?_
               refine p_ 4 83 (m_ 29 23) HT_.out ?_
               refine p_ 5 84 (m_ 29 55) HT_.out ?_
               refine p_ 7 86 (m_ 29 183) HT_.out ?_
               refine p_ 8 87 (m_ 29 439) HT_.out ?_
               refine p_ 10 89 (m_ 29 1463) HT_.out ?_
               refine p_ 11 90 (m_ 29 3511) HT_.out ?_
               refine p_ 13 92 (m_ 29 11703) HT_.out ?_
               refine p_ 14 93 (m_ 29 28087) HT_.out ?_
               refine p_ 16 95 (m_ 29 93623) HT_.out ?_
               refine p_ 17 96 (m_ 29 224695) HT_.out ?_
               refine p_ 19 98 (m_ 29 748983) HT_.out ?_
               refine p_ 20 99 (m_ 29 1797559) HT_.out ?_
               refine take_ (i := 3) (N := some 82) (v := ?_) (a' := ?_) (m_ 29 1797567) rfl rfl (take_ofW HT_.out HW_.out (by kernel_rfl)) (fun _ _ _ h => h) (Or.inl ⟨by rfl, ?_⟩) hHeld ?_ ?_; rotate_left; (rintro w' ⟨s0, s1, s2, s3, s4, s5, s6⟩; go_simp; with_reducible rfl); rotate_left; (simp only [Act.put, List.setIfInBounds_toArray, List.set_cons_zero, List.set_cons_succ, i64_w, i32_w]; rfl)
               refine take_ (i := 6) (N := some 85) (v := ?_) (a' := ?_) (m_ 29 1797631) rfl rfl (take_ofW HT_.out HW_.out (by kernel_rfl)) (fun _ _ _ h => h) (Or.inl ⟨by rfl, ?_⟩) hHeld ?_ ?_; rotate_left; (rintro w' ⟨s0, s1, s2, s3, s4, s5, s6⟩; go_simp; with_reducible rfl); rotate_left; (simp only [Act.put, List.setIfInBounds_toArray, List.set_cons_zero, List.set_cons_succ, i64_w, i32_w]; rfl)
               refine take_ (i := 9) (N := some 88) (v := ?_) (a' := ?_) (m_ 29 1798143) rfl rfl (take_ofW HT_.out HW_.out (by kernel_rfl)) (fun _ _ _ h => h) (Or.inl ⟨by rfl, ?_⟩) hHeld ?_ ?_; rotate_left; (rintro w' ⟨s0, s1, s2, s3, s4, s5, s6⟩; go_simp; with_reducible rfl); rotate_left; (simp only [Act.put, List.setIfInBounds_toArray, List.set_cons_zero, List.set_cons_succ, i64_w, i32_w]; rfl)
               refine take_ (i := 12) (N := some 91) (v := ?_) (a' := ?_) (m_ 29 1802239) rfl rfl (take_ofW HT_.out HW_.out (by kernel_rfl)) (fun _ _ _ h => h) (Or.inl ⟨by rfl, ?_⟩) hHeld ?_ ?_; rotate_left; (rintro w' ⟨s0, s1, s2, s3, s4, s5, s6⟩; go_simp; with_reducible rfl); rotate_left; (simp only [Act.put, List.setIfInBounds_toArray, List.set_cons_zero, List.set_cons_succ, i64_w, i32_w]; rfl)
               refine take_ (i := 15) (N := some 94) (v := ?_) (a' := ?_) (m_ 29 1835007) rfl rfl (take_ofW HT_.out HW_.out (by kernel_rfl)) (fun _ _ _ h => h) (Or.inl ⟨by rfl, ?_⟩) hHeld ?_ ?_; rotate_left; (rintro w' ⟨s0, s1, s2, s3, s4, s5, s6⟩; go_simp; with_reducible rfl); rotate_left; (simp only [Act.put, List.setIfInBounds_toArray, List.set_cons_zero, List.set_cons_succ, i64_w, i32_w]; rfl)
               refine take_ (i := 18) (N := some 97) (v := ?_) (a' := ?_) (m_ 29 2097151) rfl rfl (take_ofW HT_.out HW_.out (by kernel_rfl)) (fun _ _ _ h => h) (Or.inl ⟨by rfl, ?_⟩) hHeld ?_ ?_; rotate_left; (rintro w' ⟨s0, s1, s2, s3, s4, s5, s6⟩; go_simp; with_reducible rfl); rotate_left; (simp only [Act.put, List.setIfInBounds_toArray, List.set_cons_zero, List.set_cons_succ, i64_w, i32_w]; rfl)
               refine take_ (i := 21) (N := some 100) (v := ?_) (a' := ?_) (m_ 29 4194303) rfl rfl (take_ofW HT_.out HW_.out (by kernel_rfl)) (fun _ _ _ h => h) (Or.inl ⟨by rfl, ?_⟩) hHeld ?_ ?_; rotate_left; (rintro w' ⟨s0, s1, s2, s3, s4, s5, s6⟩; go_simp; with_reducible rfl); rotate_left; (simp only [Act.put, List.setIfInBounds_toArray, List.set_cons_zero, List.set_cons_succ, i64_w, i32_w]; rfl)
               refine one_ (i := 22) (N := some 101) (m_ 29 8388607) rfl rfl (one_of HT_.out (by kernel_rfl)) (by decide) (fun K hK => ?_)
               refine Kd.R_lit_step (Kd.int .i64) _ 3 ?hg (N := 101) ?hd (xs := ([rd t457 0, rd t457 4, rd t457 5, rd t457 6, rd t457 1, rd t457 2, rd t457 3] : List Int)) (inner := [.int .i64 (rd t457 0), .int .i64 (rd t457 4), .int .i64 (rd t457 5), .int .i64 (rd t457 6), .int .i64 (rd t457 1), .int .i64 (rd t457 2), .int .i64 (rd t457 3)]) (ok := fun _ => True) (okp := fun _ => True) ?hr ?hp (fun _ hk => hk) trivial (Below.refl _ _) (Nat.le_refl _) (by simp) ?_; (case hd => rfl); (case hg => rfl); (case hr => first | (go_simp; done) | (go_simp; rfl)); (case hp => exact (Reps.one (show Kd.M (Kd.int .i64) _ _ _ (rd t457 0) [.int .i64 (rd t457 0)] from rfl) (Reps.one (show Kd.M (Kd.int .i64) _ _ _ (rd t457 4) [.int .i64 (rd t457 4)] from rfl) (Reps.one (show Kd.M (Kd.int .i64) _ _ _ (rd t457 5) [.int .i64 (rd t457 5)] from rfl) (Reps.one (show Kd.M (Kd.int .i64) _ _ _ (rd t457 6) [.int .i64 (rd t457 6)] from rfl) (Reps.one (show Kd.M (Kd.int .i64) _ _ _ (rd t457 1) [.int .i64 (rd t457 1)] from rfl) (Reps.one (show Kd.M (Kd.int .i64) _ _ _ (rd t457 2) [.int .i64 (rd t457 2)] from rfl) (Reps.one (show Kd.M (Kd.int .i64) _ _ _ (rd t457 3) [.int .i64 (rd t457 3)] from rfl) (Reps.none _ _)))))))))
               intro v488 w84 ho85 hb hg_ hnew_
               have HS0_ := (hb.cell (World.block_lt_of_cell? _ _ (hHeld.1))).trans (hHeld.1)
               have HS1_ := (hb.cell (World.block_lt_of_cell? _ _ (hHeld.2.1))).trans (hHeld.2.1)
               have HS2_ := (hb.cell (World.block_lt_of_cell? _ _ (hHeld.2.2.1))).trans (hHeld.2.2.1)
               have HS3_ := (hb.cell (World.block_lt_of_cell? _ _ (hHeld.2.2.2.1))).trans (hHeld.2.2.2.1)
               have HS4_ := (hb.cell (World.block_lt_of_cell? _ _ (hHeld.2.2.2.2.1))).trans (hHeld.2.2.2.2.1)
               have HS5_ := (hb.cell (World.block_lt_of_cell? _ _ (hHeld.2.2.2.2.2.1))).trans (hHeld.2.2.2.2.2.1)
               have HS6_ := (hb.cell (World.block_lt_of_cell? _ _ (hHeld.2.2.2.2.2.2))).trans (hHeld.2.2.2.2.2.2)
               clear hg_ hnew_
               (first | rw [← Ny487.out] at ho85 | (simp only [Int.reduceToNat] at ho85; rw [← Ny487.out] at ho85))
               have n0_ := Aside0.mk (Kd.R_elder' (rr_ HO_3) (Kd.R_base ho85) hb)
               have n1_ := Aside0.mk (Kd.R_elder' (rr_ HO_4) (Kd.R_base ho85) hb)
               have n2_ := Aside0.mk (Kd.R_elder' (rr_ HO_5) (Kd.R_base ho85) hb)
               have n3_ := Aside0.mk (Kd.R_elder' (rr_ HO_7) (Kd.R_base ho85) hb)
               have n4_ := Aside0.mk (Kd.R_lower (Kd.R_new' (Kd.R_new' (Kd.R_new' (Kd.R_new' ho85 (Kd.R_lt (rr_ HO_3))) (Kd.R_lt (rr_ HO_4))) (Kd.R_lt (rr_ HO_5))) (Kd.R_lt (rr_ HO_7))) (below_size (bb_ HB)))
               have n5_ := Aside0.mk (below_step (bb_ HB) hb)
               clear HO_3
               clear HO_4
               clear HO_5
               clear HO_7
               clear HB
               have HO_3 := n0_
               have HO_4 := n1_
               have HO_5 := n2_
               have HO_7 := n3_
               have HO489 := n4_
               have HB := n5_
               clear n0_ n1_ n2_ n3_ n4_ n5_
               clear hb ho85
               obtain ⟨Ao86, co86, eo86⟩ := Kd.R_slice HO489.out
               (first | subst eo86 | (injection eo86 with f1_ f2_ f3_; have f4_ := f1_.symm; have f5_ := f3_.symm; clear f1_ f2_ f3_; subst f4_; subst f5_))
               refine hK.out _ _ ⟨HS0_, HS1_, HS2_, HS3_, HS4_, HS5_, HS6_⟩ (fun hHeld => ?_)
               clear hK K
               refine norm_ (a' := ?_) ?_ ?_; rotate_left; (show Act.put _ (some 101) _ = _; simp only [Act.put, List.setIfInBounds_toArray, List.set_cons_zero, List.set_cons_succ, i64_w, i32_w]; rfl)
               refine one_ (i := 23) (N := some 102) (m_ 29 16777215) rfl rfl (one_of HT_.out (by kernel_rfl)) (by decide) (fun K hK => ?_)
               refine goes_ Try.func18 (by kernel_rfl) rfl #[.slice Ao8 t456.length co8, .slice Ao86 y487.length co86] (by rfl) rfl rfl ll_ ?_
               with_reducible refine (impl_TwinPoints.calls kj5 _ _ t456 _ _ y487 t490 false _ ?side1 ?side2 ?side3 ?side4 A33.out).mono ?_
               (case side1 => exact cc_ HO_3)
               (case side2 => exact (Kd.R_reads' HO_3.out).2.1)
               (case side3 => exact cc_ HO489)
               (case side4 => exact (Kd.R_reads' HO489.out).2.1)
               rintro e w87 ⟨v492, rfl, ho0, hb⟩
               have HS0_ := (hb.cell (World.block_lt_of_cell? _ _ (hHeld.1))).trans (hHeld.1)
               have HS1_ := (hb.cell (World.block_lt_of_cell? _ _ (hHeld.2.1))).trans (hHeld.2.1)
               have HS2_ := (hb.cell (World.block_lt_of_cell? _ _ (hHeld.2.2.1))).trans (hHeld.2.2.1)
               have HS3_ := (hb.cell (World.block_lt_of_cell? _ _ (hHeld.2.2.2.1))).trans (hHeld.2.2.2.1)
               have HS4_ := (hb.cell (World.block_lt_of_cell? _ _ (hHeld.2.2.2.2.1))).trans (hHeld.2.2.2.2.1)
               have HS5_ := (hb.cell (World.block_lt_of_cell? _ _ (hHeld.2.2.2.2.2.1))).trans (hHeld.2.2.2.2.2.1)
               have HS6_ := (hb.cell (World.block_lt_of_cell? _ _ (hHeld.2.2.2.2.2.2))).trans (hHeld.2.2.2.2.2.2)
               refine ⟨_, rfl, ?_⟩
               have n0_ := Aside0.mk (Kd.R_elder' (rr_ HO_3) (Kd.R_base ho0) hb)
               have n1_ := Aside0.mk (Kd.R_elder' (rr_ HO_4) (Kd.R_base ho0) hb)
               have n2_ := Aside0.mk (Kd.R_elder' (rr_ HO_5) (Kd.R_base ho0) hb)
               have n3_ := Aside0.mk (Kd.R_elder' (rr_ HO_7) (Kd.R_base ho0) hb)
               have n4_ := Aside0.mk (Kd.R_elder' (rr_ HO489) (Kd.R_base ho0) hb)
               have n5_ := Aside0.mk (Kd.R_lower (Kd.R_new' (Kd.R_new' (Kd.R_new' (Kd.R_new' (Kd.R_new' ho0 (Kd.R_lt (rr_ HO_3))) (Kd.R_lt (rr_ HO_4))) (Kd.R_lt (rr_ HO_5))) (Kd.R_lt (rr_ HO_7))) (Kd.R_lt (rr_ HO489))) (below_size (bb_ HB)))
               have n6_ := Aside0.mk (below_step (bb_ HB) hb)
               clear HO_3
               clear HO_4
               clear HO_5
               clear HO_7
               clear HO489
               clear HB
               have HO_3 := n0_
               have HO_4 := n1_
               have HO_5 := n2_
               have HO_7 := n3_
               have HO489 := n4_
               have HO493 := n5_
               have HB := n6_
               clear n0_ n1_ n2_ n3_ n4_ n5_ n6_
               (try clear hb)
               (try clear hb2)
               (try clear hk)
               (try clear hi)
               (try clear ho0)
               refine hK.out _ _ ⟨HS0_, HS1_, HS2_, HS3_, HS4_, HS5_, HS6_⟩ (fun hHeld => ?_)
               clear hK K
               refine norm_ (a' := ?_) ?_ ?_; rotate_left; (show Act.put _ (some 102) _ = _; simp only [Act.put, List.setIfInBounds_toArray, List.set_cons_zero, List.set_cons_succ, i64_w, i32_w]; rfl)
               refine p_ 24 78 (m_ 29 33554431) HT_.out ?_
               refine p_ 25 103 (m_ 29 67108863) HT_.out ?_
               refine p_ 26 104 (m_ 29 134217727) HT_.out ?_
               refine p_ 27 13 (m_ 29 268435455) HT_.out ?_
               refine p_ 28 14 (m_ 29 536870911) HT_.out ?_
               refine done_ (done_of HT_.out (by kernel_rfl)) ?_
               try go_wp2
               go_ret
               exact ⟨ee_, bb_ HB⟩
             ·replace c35 := Bool.eq_false_iff.mpr c35
              subst c35
              have H1 : (some false) = some r := by rw [if_neg (show ¬ (false = true) by decide)] at H; exact H
              clear H
              have H := H1
              clear H1
              obtain rfl := Option.some.inj H
              try go_wp2
              have n0_ := Aside0.mk (Kd.R_drew HO_3.out)
              have n1_ := Aside0.mk (Kd.R_drew HO_4.out)
              have n2_ := Aside0.mk (Kd.R_drew HO_5.out)
              have n3_ := Aside0.mk (Kd.R_drew HO_7.out)
              have n4_ := Aside0.mk (below_drew1 HB.out)
              clear HO_3
              clear HO_4
              clear HO_5
              clear HO_7
              clear HB
              have HO_3 := n0_
              have HO_4 := n1_
              have HO_5 := n2_
              have HO_7 := n3_
              have HB := n4_
              clear n0_ n1_ n2_ n3_ n4_
              have p472 : 0 ≤ (1 : Int) := (by omega)
              have q472 : 1 < (t457.length : Int) := dd_
              obtain ⟨ad472, e472, hx472_0⟩ := Kd.at_int (Kd.R_reads' HO_4.out).2.2 1 p472 q472
              cases e472
              (try simp only [show (1 : Int).toNat = 1 from rfl, Nat.reduceMul, Nat.reduceEqDiff, Go.Addr.add, ↓reduceIte] at hx472_0)
              have qi472 : (1 < t457.length) = True := eq_true (by omega)
              (try rw [show ((1 : Int)).toNat = 1 from rfl] at hx472_0)
              replace p472 := eq_true p472
              replace q472 := eq_true q472
              have p473 : 0 ≤ (2 : Int) := (by omega)
              have q473 : 2 < (t457.length : Int) := dd_
              obtain ⟨ad473, e473, hx473_0⟩ := Kd.at_int (Kd.R_reads' HO_4.out).2.2 2 p473 q473
              obtain rfl : ad472 = ad473 := (by injection e473)
              (try simp only [show (2 : Int).toNat = 2 from rfl, Nat.reduceMul, Nat.reduceEqDiff, Go.Addr.add, ↓reduceIte] at hx473_0)
              have qi473 : (2 < t457.length) = True := eq_true (by omega)
              (try rw [show ((2 : Int)).toNat = 2 from rfl] at hx473_0)
              replace p473 := eq_true p473
              replace q473 := eq_true q473
              refine start_ (n := 13) (S := fun w' => w'.cell? ⟨ad472.block, ad472.off + 1, none⟩ = some (.int .i64 (rd t457 1)) ∧ w'.cell? ⟨ad472.block, ad472.off + 2, none⟩ = some (.int .i64 (rd t457 2))) (ds := []) #[F_,F_,F_,F_,F_,F_,F_,F_,F_,F_,F_,F_,F_] (by kernel_rfl) rfl rfl ⟨hx472_0, hx473_0⟩ (fun hHeld => ?_); refine with_tabW laws_FnTwinPoints.tab8 laws_FnTwinPoints.bits8 (fun HT_ HW_ => ?_)
              generalize wc.drew = w88 at HO_3 HO_4 HO_5 HO_7 HB hx472_0 hx473_0 hHeld ⊢
              refine p_ 0 57 (m_ 13 1) HT_.out ?_
              refine p_ 1 58 (m_ 13 3) HT_.out ?_
              refine p_ 2 59 (m_ 13 7) HT_.out ?_
              refine p_ 4 61 (m_ 13 23) HT_.out ?_
              refine p_ 5 62 (m_ 13 55) HT_.out ?_
              refine t2_ 3 60 (m_ 13 63) HT_.out HW_.out hHeld ?_
              refine t2_ 6 63 (m_ 13 127) HT_.out HW_.out hHeld ?_
              refine one_ (i := 7) (N := some 64) (m_ 13 255) rfl rfl (one_of HT_.out (by kernel_rfl)) (by decide) (fun K hK => ?_)
              refine goes_ Try.func26 (by kernel_rfl) rfl #[.slice Ao8 t456.length co8, .int .i64 (rd t457 1), .int .i64 (rd t457 2)] (by rfl) rfl rfl ll_ ?_
              with_reducible refine (impl_PlaneJoin.calls kj5 _ _ t456 (rd t457 1) (rd t457 2) t474 true _ ?side1 ?side2 A26.out).mono ?_
              (case side1 => exact cc_ HO_3)
              (case side2 => exact (Kd.R_reads' HO_3.out).2.1)
              rintro e w89 ⟨rfl, hb⟩
              have HS0_ := (hb.cell (World.block_lt_of_cell? _ _ (hHeld.1))).trans (hHeld.1)
              have HS1_ := (hb.cell (World.block_lt_of_cell? _ _ (hHeld.2))).trans (hHeld.2)
              refine ⟨_, rfl, ?_⟩
              have n0_ := Aside0.mk (Kd.R_below (rr_ HO_3) hb)
              have n1_ := Aside0.mk (Kd.R_below (rr_ HO_4) hb)
              have n2_ := Aside0.mk (Kd.R_below (rr_ HO_5) hb)
              have n3_ := Aside0.mk (Kd.R_below (rr_ HO_7) hb)
              have n4_ := Aside0.mk (below_step (bb_ HB) hb)
              clear HO_3
              clear HO_4
              clear HO_5
              clear HO_7
              clear HB
              have HO_3 := n0_
              have HO_4 := n1_
              have HO_5 := n2_
              have HO_7 := n3_
              have HB := n4_
              clear n0_ n1_ n2_ n3_ n4_
              (try clear hb)
              (try clear hb2)
              (try clear hk)
              (try clear hi)
              refine hK.out _ _ ⟨HS0_, HS1_⟩ (fun hHeld => ?_)
              clear hK K
              refine norm_ (a' := ?_) ?_ ?_; rotate_left; (show Act.put _ (some 64) _ = _; simp only [Act.put, List.setIfInBounds_toArray, List.set_cons_zero, List.set_cons_succ, i64_w, i32_w]; rfl)
              refine p_ 8 56 (m_ 13 511) HT_.out ?_
              refine p_ 9 65 (m_ 13 1023) HT_.out ?_
              refine p_ 10 66 (m_ 13 2047) HT_.out ?_
              refine p_ 11 9 (m_ 13 4095) HT_.out ?_
              refine p_ 12 10 (m_ 13 8191) HT_.out ?_
              refine done_ (done_of HT_.out (by kernel_rfl)) ?_
              try go_wp2
              have n0_ := Aside0.mk (Kd.R_drew HO_3.out)
              have n1_ := Aside0.mk (Kd.R_drew HO_4.out)
              have n2_ := Aside0.mk (Kd.R_drew HO_5.out)
              have n3_ := Aside0.mk (Kd.R_drew HO_7.out)
              have n4_ := Aside0.mk (below_drew1 HB.out)
              clear HO_3
              clear HO_4
              clear HO_5
              clear HO_7
              clear HB
              have HO_3 := n0_
              have HO_4 := n1_
              have HO_5 := n2_
              have HO_7 := n3_
              have HB := n4_
              clear n0_ n1_ n2_ n3_ n4_
              have p476 : 0 ≤ (4 : Int) := (by omega)
              have q476 : 4 < (t457.length : Int) := dd_
              obtain ⟨ad476, e476, hx476_0⟩ := Kd.at_int (Kd.R_reads' HO_4.out).2.2 4 p476 q476
              obtain rfl : ad472 = ad476 := (by injection e476)
              (try simp only [show (4 : Int).toNat = 4 from rfl, Nat.reduceMul, Nat.reduceEqDiff, Go.Addr.add, ↓reduceIte] at hx476_0)
              have qi476 : (4 < t457.length) = True := eq_true (by omega)
              (try rw [show ((4 : Int)).toNat = 4 from rfl] at hx476_0)
              replace p476 := eq_true p476
              replace q476 := eq_true q476
              have p477 : 0 ≤ (5 : Int) := (by omega)
              have q477 : 5 < (t457.length : Int) := dd_
              obtain ⟨ad477, e477, hx477_0⟩ := Kd.at_int (Kd.R_reads' HO_4.out).2.2 5 p477 q477
              obtain rfl : ad472 = ad477 := (by injection e477)
              (try simp only [show (5 : Int).toNat = 5 from rfl, Nat.reduceMul, Nat.reduceEqDiff, Go.Addr.add, ↓reduceIte] at hx477_0)
              have qi477 : (5 < t457.length) = True := eq_true (by omega)
              (try rw [show ((5 : Int)).toNat = 5 from rfl] at hx477_0)
              replace p477 := eq_true p477
              replace q477 := eq_true q477
              refine start_ (n := 13) (S := fun w' => w'.cell? ⟨ad472.block, ad472.off + 4, none⟩ = some (.int .i64 (rd t457 4)) ∧ w'.cell? ⟨ad472.block, ad472.off + 5, none⟩ = some (.int .i64 (rd t457 5))) (ds := []) #[F_,F_,F_,F_,F_,F_,F_,F_,F_,F_,F_,F_,F_] (by kernel_rfl) rfl rfl ⟨hx476_0, hx477_0⟩ (fun hHeld => ?_); refine with_tabW laws_FnTwinPoints.tab9 laws_FnTwinPoints.bits9 (fun HT_ HW_ => ?_)
              generalize w89.drew = w90 at HO_3 HO_4 HO_5 HO_7 HB hx476_0 hx477_0 hHeld ⊢
              refine p_ 0 68 (m_ 13 1) HT_.out ?_
              refine p_ 1 69 (m_ 13 3) HT_.out ?_
              refine p_ 2 70 (m_ 13 7) HT_.out ?_
              refine p_ 4 72 (m_ 13 23) HT_.out ?_
              refine p_ 5 73 (m_ 13 55) HT_.out ?_
              refine t2_ 3 71 (m_ 13 63) HT_.out HW_.out hHeld ?_
              refine t2_ 6 74 (m_ 13 127) HT_.out HW_.out hHeld ?_
              refine one_ (i := 7) (N := some 75) (m_ 13 255) rfl rfl (one_of HT_.out (by kernel_rfl)) (by decide) (fun K hK => ?_)
              refine goes_ Try.func26 (by kernel_rfl) rfl #[.slice Ao8 t456.length co8, .int .i64 (rd t457 4), .int .i64 (rd t457 5)] (by rfl) rfl rfl ll_ ?_
              with_reducible refine (impl_PlaneJoin.calls kj5 _ _ t456 (rd t457 4) (rd t457 5) t478 false _ ?side1 ?side2 A29.out).mono ?_
              (case side1 => exact cc_ HO_3)
              (case side2 => exact (Kd.R_reads' HO_3.out).2.1)
              rintro e w91 ⟨rfl, hb⟩
              have HS0_ := (hb.cell (World.block_lt_of_cell? _ _ (hHeld.1))).trans (hHeld.1)
              have HS1_ := (hb.cell (World.block_lt_of_cell? _ _ (hHeld.2))).trans (hHeld.2)
              refine ⟨_, rfl, ?_⟩
              have n0_ := Aside0.mk (Kd.R_below (rr_ HO_3) hb)
              have n1_ := Aside0.mk (Kd.R_below (rr_ HO_4) hb)
              have n2_ := Aside0.mk (Kd.R_below (rr_ HO_5) hb)
              have n3_ := Aside0.mk (Kd.R_below (rr_ HO_7) hb)
              have n4_ := Aside0.mk (below_step (bb_ HB) hb)
              clear HO_3
              clear HO_4
              clear HO_5
              clear HO_7
              clear HB
              have HO_3 := n0_
              have HO_4 := n1_
              have HO_5 := n2_
              have HO_7 := n3_
              have HB := n4_
              clear n0_ n1_ n2_ n3_ n4_
              (try clear hb)
              (try clear hb2)
              (try clear hk)
              (try clear hi)
              refine hK.out _ _ ⟨HS0_, HS1_⟩ (fun hHeld => ?_)
              clear hK K
              refine norm_ (a' := ?_) ?_ ?_; rotate_left; (show Act.put _ (some 75) _ = _; simp only [Act.put, List.setIfInBounds_toArray, List.set_cons_zero, List.set_cons_succ, i64_w, i32_w]; rfl)
              refine p_ 8 67 (m_ 13 511) HT_.out ?_
              refine p_ 9 76 (m_ 13 1023) HT_.out ?_
              refine p_ 10 77 (m_ 13 2047) HT_.out ?_
              refine p_ 11 11 (m_ 13 4095) HT_.out ?_
              refine p_ 12 12 (m_ 13 8191) HT_.out ?_
              refine done_ (done_of HT_.out (by kernel_rfl)) ?_
              try go_wp2
              have n0_ := Aside0.mk (Kd.R_drew HO_3.out)
              have n1_ := Aside0.mk (Kd.R_drew HO_4.out)
              have n2_ := Aside0.mk (Kd.R_drew HO_5.out)
              have n3_ := Aside0.mk (Kd.R_drew HO_7.out)
              have n4_ := Aside0.mk (below_drew1 HB.out)
              clear HO_3
              clear HO_4
              clear HO_5
              clear HO_7
              clear HB
              have HO_3 := n0_
              have HO_4 := n1_
              have HO_5 := n2_
              have HO_7 := n3_
              have HB := n4_
              clear n0_ n1_ n2_ n3_ n4_
              have p480 : 0 ≤ (0 : Int) := (by omega)
              have q480 : 0 < (t457.length : Int) := dd_
              obtain ⟨ad480, e480, hx480_0⟩ := Kd.at_int (Kd.R_reads' HO_4.out).2.2 0 p480 q480
              obtain rfl : ad472 = ad480 := (by injection e480)
              have qi480 : (0 < t457.length) = True := eq_true (by omega)
              (try rw [show ((0 : Int)).toNat = 0 from rfl] at hx480_0)
              (try rw [Addr.add_zero'] at hx480_0)
              replace p480 := eq_true p480
              replace q480 := eq_true q480
              have p481 : 0 ≤ (4 : Int) := (by omega)
              have q481 : 4 < (t457.length : Int) := dd_
              obtain ⟨ad481, e481, hx481_0⟩ := Kd.at_int (Kd.R_reads' HO_4.out).2.2 4 p481 q481
              obtain rfl : ad472 = ad481 := (by injection e481)
              (try simp only [show (4 : Int).toNat = 4 from rfl, Nat.reduceMul, Nat.reduceEqDiff, Go.Addr.add, ↓reduceIte] at hx481_0)
              have qi481 : (4 < t457.length) = True := eq_true (by omega)
              (try rw [show ((4 : Int)).toNat = 4 from rfl] at hx481_0)
              replace p481 := eq_true p481
              replace q481 := eq_true q481
              have p482 : 0 ≤ (5 : Int) := (by omega)
              have q482 : 5 < (t457.length : Int) := dd_
              obtain ⟨ad482, e482, hx482_0⟩ := Kd.at_int (Kd.R_reads' HO_4.out).2.2 5 p482 q482
              obtain rfl : ad472 = ad482 := (by injection e482)
              (try simp only [show (5 : Int).toNat = 5 from rfl, Nat.reduceMul, Nat.reduceEqDiff, Go.Addr.add, ↓reduceIte] at hx482_0)
              have qi482 : (5 < t457.length) = True := eq_true (by omega)
              (try rw [show ((5 : Int)).toNat = 5 from rfl] at hx482_0)
              replace p482 := eq_true p482
              replace q482 := eq_true q482
              have p483 : 0 ≤ (6 : Int) := (by omega)
              have q483 : 6 < (t457.length : Int) := dd_
              obtain ⟨ad483, e483, hx483_0⟩ := Kd.at_int (Kd.R_reads' HO_4.out).2.2 6 p483 q483
              obtain rfl : ad472 = ad483 := (by injection e483)
              (try simp only [show (6 : Int).toNat = 6 from rfl, Nat.reduceMul, Nat.reduceEqDiff, Go.Addr.add, ↓reduceIte] at hx483_0)
              have qi483 : (6 < t457.length) = True := eq_true (by omega)
              (try rw [show ((6 : Int)).toNat = 6 from rfl] at hx483_0)
              replace p483 := eq_true p483
              replace q483 := eq_true q483
              have p484 : 0 ≤ (1 : Int) := (by omega)
              have q484 : 1 < (t457.length : Int) := dd_
              obtain ⟨ad484, e484, hx484_0⟩ := Kd.at_int (Kd.R_reads' HO_4.out).2.2 1 p484 q484
              obtain rfl : ad472 = ad484 := (by injection e484)
              (try simp only [show (1 : Int).toNat = 1 from rfl, Nat.reduceMul, Nat.reduceEqDiff, Go.Addr.add, ↓reduceIte] at hx484_0)
              have qi484 : (1 < t457.length) = True := eq_true (by omega)
              (try rw [show ((1 : Int)).toNat = 1 from rfl] at hx484_0)
              replace p484 := eq_true p484
              replace q484 := eq_true q484
              have p485 : 0 ≤ (2 : Int) := (by omega)
              have q485 : 2 < (t457.length : Int) := dd_
              obtain ⟨ad485, e485, hx485_0⟩ := Kd.at_int (Kd.R_reads' HO_4.out).2.2 2 p485 q485
              obtain rfl : ad472 = ad485 := (by injection e485)
              (try simp only [show (2 : Int).toNat = 2 from rfl, Nat.reduceMul, Nat.reduceEqDiff, Go.Addr.add, ↓reduceIte] at hx485_0)
              have qi485 : (2 < t457.length) = True := eq_true (by omega)
              (try rw [show ((2 : Int)).toNat = 2 from rfl] at hx485_0)
              replace p485 := eq_true p485
              replace q485 := eq_true q485
              have p486 : 0 ≤ (3 : Int) := (by omega)
              have q486 : 3 < (t457.length : Int) := dd_
              obtain ⟨ad486, e486, hx486_0⟩ := Kd.at_int (Kd.R_reads' HO_4.out).2.2 3 p486 q486
              obtain rfl : ad472 = ad486 := (by injection e486)
              (try simp only [show (3 : Int).toNat = 3 from rfl, Nat.reduceMul, Nat.reduceEqDiff, Go.Addr.add, ↓reduceIte] at hx486_0)
              have qi486 : (3 < t457.length) = True := eq_true (by omega)
              (try rw [show ((3 : Int)).toNat = 3 from rfl] at hx486_0)
              replace p486 := eq_true p486
              replace q486 := eq_true q486
              refine start_ (n := 29) (S := fun w' => w'.cell? ad472 = some (.int .i64 (rd t457 0)) ∧ w'.cell? ⟨ad472.block, ad472.off + 4, none⟩ = some (.int .i64 (rd t457 4)) ∧ w'.cell? ⟨ad472.block, ad472.off + 5, none⟩ = some (.int .i64 (rd t457 5)) ∧ w'.cell? ⟨ad472.block, ad472.off + 6, none⟩ = some (.int .i64 (rd t457 6)) ∧ w'.cell? ⟨ad472.block, ad472.off + 1, none⟩ = some (.int .i64 (rd t457 1)) ∧ w'.cell? ⟨ad472.block, ad472.off + 2, none⟩ = some (.int .i64 (rd t457 2)) ∧ w'.cell? ⟨ad472.block, ad472.off + 3, none⟩ = some (.int .i64 (rd t457 3))) (ds := []) #[F_,F_,F_,F_,F_,F_,F_,F_,F_,F_,F_,F_,F_,F_,F_,F_,F_,F_,F_,F_,F_,F_,F_,F_,F_,F_,F_,F_,F_] (by kernel_rfl) rfl rfl ⟨hx480_0, hx481_0, hx482_0, hx483_0, hx484_0, hx485_0, hx486_0⟩ (fun hHeld => ?_); refine with_tabW laws_FnTwinPoints.tab10 laws_FnTwinPoints.bits10 (fun HT_ HW_ => ?_)
              generalize w91.drew = w92 at HO_3 HO_4 HO_5 HO_7 HB hx480_0 hx481_0 hx482_0 hx483_0 hx484_0 hx485_0 hx486_0 hHeld ⊢
              refine p_ 0 79 (m_ 29 1) HT_.out ?_
              refine p_ 1 80 (m_ 29 3) HT_.out ?_
              refine p_ 2 81 (m_ 29 7) HT_.out ?_
              refine p_ 4 83 (m_ 29 23) HT_.out ?_
              refine p_ 5 84 (m_ 29 55) HT_.out ?_
              refine p_ 7 86 (m_ 29 183) HT_.out ?_
              refine p_ 8 87 (m_ 29 439) HT_.out ?_
              refine p_ 10 89 (m_ 29 1463) HT_.out ?_
              refine p_ 11 90 (m_ 29 3511) HT_.out ?_
              refine p_ 13 92 (m_ 29 11703) HT_.out ?_
              refine p_ 14 93 (m_ 29 28087) HT_.out ?_
              refine p_ 16 95 (m_ 29 93623) HT_.out ?_
              refine p_ 17 96 (m_ 29 224695) HT_.out ?_
              refine p_ 19 98 (m_ 29 748983) HT_.out ?_
              refine p_ 20 99 (m_ 29 1797559) HT_.out ?_
              refine take_ (i := 3) (N := some 82) (v := ?_) (a' := ?_) (m_ 29 1797567) rfl rfl (take_ofW HT_.out HW_.out (by kernel_rfl)) (fun _ _ _ h => h) (Or.inl ⟨by rfl, ?_⟩) hHeld ?_ ?_; rotate_left; (rintro w' ⟨s0, s1, s2, s3, s4, s5, s6⟩; go_simp; with_reducible rfl); rotate_left; (simp only [Act.put, List.setIfInBounds_toArray, List.set_cons_zero, List.set_cons_succ, i64_w, i32_w]; rfl)
              refine take_ (i := 6) (N := some 85) (v := ?_) (a' := ?_) (m_ 29 1797631) rfl rfl (take_ofW HT_.out HW_.out (by kernel_rfl)) (fun _ _ _ h => h) (Or.inl ⟨by rfl, ?_⟩) hHeld ?_ ?_; rotate_left; (rintro w' ⟨s0, s1, s2, s3, s4, s5, s6⟩; go_simp; with_reducible rfl); rotate_left; (simp only [Act.put, List.setIfInBounds_toArray, List.set_cons_zero, List.set_cons_succ, i64_w, i32_w]; rfl)
              refine take_ (i := 9) (N := some 88) (v := ?_) (a' := ?_) (m_ 29 1798143) rfl rfl (take_ofW HT_.out HW_.out (by kernel_rfl)) (fun _ _ _ h => h) (Or.inl ⟨by rfl, ?_⟩) hHeld ?_ ?_; rotate_left; (rintro w' ⟨s0, s1, s2, s3, s4, s5, s6⟩; go_simp; with_reducible rfl); rotate_left; (simp only [Act.put, List.setIfInBounds_toArray, List.set_cons_zero, List.set_cons_succ, i64_w, i32_w]; rfl)
              refine take_ (i := 12) (N := some 91) (v := ?_) (a' := ?_) (m_ 29 1802239) rfl rfl (take_ofW HT_.out HW_.out (by kernel_rfl)) (fun _ _ _ h => h) (Or.inl ⟨by rfl, ?_⟩) hHeld ?_ ?_; rotate_left; (rintro w' ⟨s0, s1, s2, s3, s4, s5, s6⟩; go_simp; with_reducible rfl); rotate_left; (simp only [Act.put, List.setIfInBounds_toArray, List.set_cons_zero, List.set_cons_succ, i64_w, i32_w]; rfl)
              refine take_ (i := 15) (N := some 94) (v := ?_) (a' := ?_) (m_ 29 1835007) rfl rfl (take_ofW HT_.out HW_.out (by kernel_rfl)) (fun _ _ _ h => h) (Or.inl ⟨by rfl, ?_⟩) hHeld ?_ ?_; rotate_left; (rintro w' ⟨s0, s1, s2, s3, s4, s5, s6⟩; go_simp; with_reducible rfl); rotate_left; (simp only [Act.put, List.setIfInBounds_toArray, List.set_cons_zero, List.set_cons_succ, i64_w, i32_w]; rfl)
              refine take_ (i := 18) (N := some 97) (v := ?_) (a' := ?_) (m_ 29 2097151) rfl rfl (take_ofW HT_.out HW_.out (by kernel_rfl)) (fun _ _ _ h => h) (Or.inl ⟨by rfl, ?_⟩) hHeld ?_ ?_; rotate_left; (rintro w' ⟨s0, s1, s2, s3, s4, s5, s6⟩; go_simp; with_reducible rfl); rotate_left; (simp only [Act.put, List.setIfInBounds_toArray, List.set_cons_zero, List.set_cons_succ, i64_w, i32_w]; rfl)
              refine take_ (i := 21) (N := some 100) (v := ?_) (a' := ?_) (m_ 29 4194303) rfl rfl (take_ofW HT_.out HW_.out (by kernel_rfl)) (fun _ _ _ h => h) (Or.inl ⟨by rfl, ?_⟩) hHeld ?_ ?_; rotate_left; (rintro w' ⟨s0, s1, s2, s3, s4, s5, s6⟩; go_simp; with_reducible rfl); rotate_left; (simp only [Act.put, List.setIfInBounds_toArray, List.set_cons_zero, List.set_cons_succ, i64_w, i32_w]; rfl)
              refine one_ (i := 22) (N := some 101) (m_ 29 8388607) rfl rfl (one_of HT_.out (by kernel_rfl)) (by decide) (fun K hK => ?_)
              refine Kd.R_lit_step (Kd.int .i64) _ 3 ?hg (N := 101) ?hd (xs := ([rd t457 0, rd t457 4, rd t457 5, rd t457 6, rd t457 1, rd t457 2, rd t457 3] : List Int)) (inner := [.int .i64 (rd t457 0), .int .i64 (rd t457 4), .int .i64 (rd t457 5), .int .i64 (rd t457 6), .int .i64 (rd t457 1), .int .i64 (rd t457 2), .int .i64 (rd t457 3)]) (ok := fun _ => True) (okp := fun _ => True) ?hr ?hp (fun _ hk => hk) trivial (Below.refl _ _) (Nat.le_refl _) (by simp) ?_; (case hd => rfl); (case hg => rfl); (case hr => first | (go_simp; done) | (go_simp; rfl)); (case hp => exact (Reps.one (show Kd.M (Kd.int .i64) _ _ _ (rd t457 0) [.int .i64 (rd t457 0)] from rfl) (Reps.one (show Kd.M (Kd.int .i64) _ _ _ (rd t457 4) [.int .i64 (rd t457 4)] from rfl) (Reps.one (show Kd.M (Kd.int .i64) _ _ _ (rd t457 5) [.int .i64 (rd t457 5)] from rfl) (Reps.one (show Kd.M (Kd.int .i64) _ _ _ (rd t457 6) [.int .i64 (rd t457 6)] from rfl) (Reps.one (show Kd.M (Kd.int .i64) _ _ _ (rd t457 1) [.int .i64 (rd t457 1)] from rfl) (Reps.one (show Kd.M (Kd.int .i64) _ _ _ (rd t457 2) [.int .i64 (rd t457 2)] from rfl) (Reps.one (show Kd.M (Kd.int .i64) _ _ _ (rd t457 3) [.int .i64 (rd t457 3)] from rfl) (Reps.none _ _)))))))))
              intro v488 w93 ho94 hb hg_ hnew_
              have HS0_ := (hb.cell (World.block_lt_of_cell? _ _ (hHeld.1))).trans (hHeld.1)
              have HS1_ := (hb.cell (World.block_lt_of_cell? _ _ (hHeld.2.1))).trans (hHeld.2.1)
              have HS2_ := (hb.cell (World.block_lt_of_cell? _ _ (hHeld.2.2.1))).trans (hHeld.2.2.1)
              have HS3_ := (hb.cell (World.block_lt_of_cell? _ _ (hHeld.2.2.2.1))).trans (hHeld.2.2.2.1)
              have HS4_ := (hb.cell (World.block_lt_of_cell? _ _ (hHeld.2.2.2.2.1))).trans (hHeld.2.2.2.2.1)
              have HS5_ := (hb.cell (World.block_lt_of_cell? _ _ (hHeld.2.2.2.2.2.1))).trans (hHeld.2.2.2.2.2.1)
              have HS6_ := (hb.cell (World.block_lt_of_cell? _ _ (hHeld.2.2.2.2.2.2))).trans (hHeld.2.2.2.2.2.2)
              clear hg_ hnew_
              (first | rw [← Ny487.out] at ho94 | (simp only [Int.reduceToNat] at ho94; rw [← Ny487.out] at ho94))
              have n0_ := Aside0.mk (Kd.R_elder' (rr_ HO_3) (Kd.R_base ho94) hb)
              have n1_ := Aside0.mk (Kd.R_elder' (rr_ HO_4) (Kd.R_base ho94) hb)
              have n2_ := Aside0.mk (Kd.R_elder' (rr_ HO_5) (Kd.R_base ho94) hb)
              have n3_ := Aside0.mk (Kd.R_elder' (rr_ HO_7) (Kd.R_base ho94) hb)
              have n4_ := Aside0.mk (Kd.R_lower (Kd.R_new' (Kd.R_new' (Kd.R_new' (Kd.R_new' ho94 (Kd.R_lt (rr_ HO_3))) (Kd.R_lt (rr_ HO_4))) (Kd.R_lt (rr_ HO_5))) (Kd.R_lt (rr_ HO_7))) (below_size (bb_ HB)))
              have n5_ := Aside0.mk (below_step (bb_ HB) hb)
              clear HO_3
              clear HO_4
              clear HO_5
              clear HO_7
              clear HB
              have HO_3 := n0_
              have HO_4 := n1_
              have HO_5 := n2_
              have HO_7 := n3_
              have HO489 := n4_
              have HB := n5_
              clear n0_ n1_ n2_ n3_ n4_ n5_
              clear hb ho94
              obtain ⟨Ao95, co95, eo95⟩ := Kd.R_slice HO489.out
              (first | subst eo95 | (injection eo95 with f1_ f2_ f3_; have f4_ := f1_.symm; have f5_ := f3_.symm; clear f1_ f2_ f3_; subst f4_; subst f5_))
              refine hK.out _ _ ⟨HS0_, HS1_, HS2_, HS3_, HS4_, HS5_, HS6_⟩ (fun hHeld => ?_)
              clear hK K
              refine norm_ (a' := ?_) ?_ ?_; rotate_left; (show Act.put _ (some 101) _ = _; simp only [Act.put, List.setIfInBounds_toArray, List.set_cons_zero, List.set_cons_succ, i64_w, i32_w]; rfl)
              refine one_ (i := 23) (N := some 102) (m_ 29 16777215) rfl rfl (one_of HT_.out (by kernel_rfl)) (by decide) (fun K hK => ?_)
              refine goes_ Try.func18 (by kernel_rfl) rfl #[.slice Ao8 t456.length co8, .slice Ao95 y487.length co95] (by rfl) rfl rfl ll_ ?_
              with_reducible refine (impl_TwinPoints.calls kj5 _ _ t456 _ _ y487 t490 t491 _ ?side1 ?side2 ?side3 ?side4 A33.out).mono ?_
              (case side1 => exact cc_ HO_3)
              (case side2 => exact (Kd.R_reads' HO_3.out).2.1)
              (case side3 => exact cc_ HO489)
              (case side4 => exact (Kd.R_reads' HO489.out).2.1)
              rintro e w96 ⟨v492, rfl, ho0, hb⟩
              have HS0_ := (hb.cell (World.block_lt_of_cell? _ _ (hHeld.1))).trans (hHeld.1)
              have HS1_ := (hb.cell (World.block_lt_of_cell? _ _ (hHeld.2.1))).trans (hHeld.2.1)
              have HS2_ := (hb.cell (World.block_lt_of_cell? _ _ (hHeld.2.2.1))).trans (hHeld.2.2.1)
              have HS3_ := (hb.cell (World.block_lt_of_cell? _ _ (hHeld.2.2.2.1))).trans (hHeld.2.2.2.1)
              have HS4_ := (hb.cell (World.block_lt_of_cell? _ _ (hHeld.2.2.2.2.1))).trans (hHeld.2.2.2.2.1)
              have HS5_ := (hb.cell (World.block_lt_of_cell? _ _ (hHeld.2.2.2.2.2.1))).trans (hHeld.2.2.2.2.2.1)
              have HS6_ := (hb.cell (World.block_lt_of_cell? _ _ (hHeld.2.2.2.2.2.2))).trans (hHeld.2.2.2.2.2.2)
              refine ⟨_, rfl, ?_⟩
              have n0_ := Aside0.mk (Kd.R_elder' (rr_ HO_3) (Kd.R_base ho0) hb)
              have n1_ := Aside0.mk (Kd.R_elder' (rr_ HO_4) (Kd.R_base ho0) hb)
              have n2_ := Aside0.mk (Kd.R_elder' (rr_ HO_5) (Kd.R_base ho0) hb)
              have n3_ := Aside0.mk (Kd.R_elder' (rr_ HO_7) (Kd.R_base ho0) hb)
              have n4_ := Aside0.mk (Kd.R_elder' (rr_ HO489) (Kd.R_base ho0) hb)
              have n5_ := Aside0.mk (Kd.R_lower (Kd.R_new' (Kd.R_new' (Kd.R_new' (Kd.R_new' (Kd.R_new' ho0 (Kd.R_lt (rr_ HO_3))) (Kd.R_lt (rr_ HO_4))) (Kd.R_lt (rr_ HO_5))) (Kd.R_lt (rr_ HO_7))) (Kd.R_lt (rr_ HO489))) (below_size (bb_ HB)))
              have n6_ := Aside0.mk (below_step (bb_ HB) hb)
              clear HO_3
              clear HO_4
              clear HO_5
              clear HO_7
              clear HO489
              clear HB
              have HO_3 := n0_
              have HO_4 := n1_
              have HO_5 := n2_
              have HO_7 := n3_
              have HO489 := n4_
              have HO493 := n5_
              have HB := n6_
              clear n0_ n1_ n2_ n3_ n4_ n5_ n6_
              (try clear hb)
              (try clear hb2)
              (try clear hk)
              (try clear hi)
              (try clear ho0)
              refine hK.out _ _ ⟨HS0_, HS1_, HS2_, HS3_, HS4_, HS5_, HS6_⟩ (fun hHeld => ?_)
              clear hK K
              refine norm_ (a' := ?_) ?_ ?_; rotate_left; (show Act.put _ (some 102) _ = _; simp only [Act.put, List.setIfInBounds_toArray, List.set_cons_zero, List.set_cons_succ, i64_w, i32_w]; rfl)
              refine p_ 24 78 (m_ 29 33554431) HT_.out ?_
              refine p_ 25 103 (m_ 29 67108863) HT_.out ?_
              refine p_ 26 104 (m_ 29 134217727) HT_.out ?_
              refine p_ 27 13 (m_ 29 268435455) HT_.out ?_
              refine p_ 28 14 (m_ 29 536870911) HT_.out ?_
              refine done_ (done_of HT_.out (by kernel_rfl)) ?_
              try go_wp2
              go_ret
              exact ⟨ee_, bb_ HB⟩
            ·replace c34 := Bool.eq_false_iff.mpr c34
             subst c34
             have H1 : (some false) = some r := by rw [if_neg (show ¬ (false = true) by decide)] at H; exact H
             clear H
             have H := H1
             clear H1
             obtain rfl := Option.some.inj H
             try go_wp2
             have n0_ := Aside0.mk (Kd.R_drew HO_3.out)
             have n1_ := Aside0.mk (Kd.R_drew HO_4.out)
             have n2_ := Aside0.mk (Kd.R_drew HO_5.out)
             have n3_ := Aside0.mk (Kd.R_drew HO_7.out)
             have n4_ := Aside0.mk (below_drew1 HB.out)
             clear HO_3
             clear HO_4
             clear HO_5
             clear HO_7
             clear HB
             have HO_3 := n0_
             have HO_4 := n1_
             have HO_5 := n2_
             have HO_7 := n3_
             have HB := n4_
             clear n0_ n1_ n2_ n3_ n4_
             have p472 : 0 ≤ (1 : Int) := (by omega)
             have q472 : 1 < (t457.length : Int) := dd_
             obtain ⟨ad472, e472, hx472_0⟩ := Kd.at_int (Kd.R_reads' HO_4.out).2.2 1 p472 q472
             cases e472
             (try simp only [show (1 : Int).toNat = 1 from rfl, Nat.reduceMul, Nat.reduceEqDiff, Go.Addr.add, ↓reduceIte] at hx472_0)
             have qi472 : (1 < t457.length) = True := eq_true (by omega)
             (try rw [show ((1 : Int)).toNat = 1 from rfl] at hx472_0)
             replace p472 := eq_true p472
             replace q472 := eq_true q472
             have p473 : 0 ≤ (2 : Int) := (by omega)
             have q473 : 2 < (t457.length : Int) := dd_
             obtain ⟨ad473, e473, hx473_0⟩ := Kd.at_int (Kd.R_reads' HO_4.out).2.2 2 p473 q473
             obtain rfl : ad472 = ad473 := (by injection e473)
             (try simp only [show (2 : Int).toNat = 2 from rfl, Nat.reduceMul, Nat.reduceEqDiff, Go.Addr.add, ↓reduceIte] at hx473_0)
             have qi473 : (2 < t457.length) = True := eq_true (by omega)
             (try rw [show ((2 : Int)).toNat = 2 from rfl] at hx473_0)
             replace p473 := eq_true p473
             replace q473 := eq_true q473
             refine start_ (n := 13) (S := fun w' => w'.cell? ⟨ad472.block, ad472.off + 1, none⟩ = some (.int .i64 (rd t457 1)) ∧ w'.cell? ⟨ad472.block, ad472.off + 2, none⟩ = some (.int .i64 (rd t457 2))) (ds := []) #[F_,F_,F_,F_,F_,F_,F_,F_,F_,F_,F_,F_,F_] (by kernel_rfl) rfl rfl ⟨hx472_0, hx473_0⟩ (fun hHeld => ?_); refine with_tabW laws_FnTwinPoints.tab8 laws_FnTwinPoints.bits8 (fun HT_ HW_ => ?_)
             generalize wc.drew = w97 at HO_3 HO_4 HO_5 HO_7 HB hx472_0 hx473_0 hHeld ⊢
             refine p_ 0 57 (m_ 13 1) HT_.out ?_
             refine p_ 1 58 (m_ 13 3) HT_.out ?_
             refine p_ 2 59 (m_ 13 7) HT_.out ?_
             refine p_ 4 61 (m_ 13 23) HT_.out ?_
             refine p_ 5 62 (m_ 13 55) HT_.out ?_
             refine t2_ 3 60 (m_ 13 63) HT_.out HW_.out hHeld ?_
             refine t2_ 6 63 (m_ 13 127) HT_.out HW_.out hHeld ?_
             refine one_ (i := 7) (N := some 64) (m_ 13 255) rfl rfl (one_of HT_.out (by kernel_rfl)) (by decide) (fun K hK => ?_)
             refine goes_ Try.func26 (by kernel_rfl) rfl #[.slice Ao8 t456.length co8, .int .i64 (rd t457 1), .int .i64 (rd t457 2)] (by rfl) rfl rfl ll_ ?_
             with_reducible refine (impl_PlaneJoin.calls kj5 _ _ t456 (rd t457 1) (rd t457 2) t474 false _ ?side1 ?side2 A26.out).mono ?_
             (case side1 => exact cc_ HO_3)
             (case side2 => exact (Kd.R_reads' HO_3.out).2.1)
             rintro e w98 ⟨rfl, hb⟩
             have HS0_ := (hb.cell (World.block_lt_of_cell? _ _ (hHeld.1))).trans (hHeld.1)
             have HS1_ := (hb.cell (World.block_lt_of_cell? _ _ (hHeld.2))).trans (hHeld.2)
             refine ⟨_, rfl, ?_⟩
             have n0_ := Aside0.mk (Kd.R_below (rr_ HO_3) hb)
             have n1_ := Aside0.mk (Kd.R_below (rr_ HO_4) hb)
             have n2_ := Aside0.mk (Kd.R_below (rr_ HO_5) hb)
             have n3_ := Aside0.mk (Kd.R_below (rr_ HO_7) hb)
             have n4_ := Aside0.mk (below_step (bb_ HB) hb)
             clear HO_3
             clear HO_4
             clear HO_5
             clear HO_7
             clear HB
             have HO_3 := n0_
             have HO_4 := n1_
             have HO_5 := n2_
             have HO_7 := n3_
             have HB := n4_
             clear n0_ n1_ n2_ n3_ n4_
             (try clear hb)
             (try clear hb2)
             (try clear hk)
             (try clear hi)
             refine hK.out _ _ ⟨HS0_, HS1_⟩ (fun hHeld => ?_)
             clear hK K
             refine norm_ (a' := ?_) ?_ ?_; rotate_left; (show Act.put _ (some 64) _ = _; simp only [Act.put, List.setIfInBounds_toArray, List.set_cons_zero, List.set_cons_succ, i64_w, i32_w]; rfl)
             refine p_ 8 56 (m_ 13 511) HT_.out ?_
             refine p_ 9 65 (m_ 13 1023) HT_.out ?_
             refine p_ 10 66 (m_ 13 2047) HT_.out ?_
             refine p_ 11 9 (m_ 13 4095) HT_.out ?_
             refine p_ 12 10 (m_ 13 8191) HT_.out ?_
             refine done_ (done_of HT_.out (by kernel_rfl)) ?_
             try go_wp2
             have n0_ := Aside0.mk (Kd.R_drew HO_3.out)
             have n1_ := Aside0.mk (Kd.R_drew HO_4.out)
             have n2_ := Aside0.mk (Kd.R_drew HO_5.out)
             have n3_ := Aside0.mk (Kd.R_drew HO_7.out)
             have n4_ := Aside0.mk (below_drew1 HB.out)
             clear HO_3
             clear HO_4
             clear HO_5
             clear HO_7
             clear HB
             have HO_3 := n0_
             have HO_4 := n1_
             have HO_5 := n2_
             have HO_7 := n3_
             have HB := n4_
             clear n0_ n1_ n2_ n3_ n4_
             have p476 : 0 ≤ (4 : Int) := (by omega)
             have q476 : 4 < (t457.length : Int) := dd_
             obtain ⟨ad476, e476, hx476_0⟩ := Kd.at_int (Kd.R_reads' HO_4.out).2.2 4 p476 q476
             obtain rfl : ad472 = ad476 := (by injection e476)
             (try simp only [show (4 : Int).toNat = 4 from rfl, Nat.reduceMul, Nat.reduceEqDiff, Go.Addr.add, ↓reduceIte] at hx476_0)
             have qi476 : (4 < t457.length) = True := eq_true (by omega)
             (try rw [show ((4 : Int)).toNat = 4 from rfl] at hx476_0)
             replace p476 := eq_true p476
             replace q476 := eq_true q476
             have p477 : 0 ≤ (5 : Int) := (by omega)
             have q477 : 5 < (t457.length : Int) := dd_
             obtain ⟨ad477, e477, hx477_0⟩ := Kd.at_int (Kd.R_reads' HO_4.out).2.2 5 p477 q477
             obtain rfl : ad472 = ad477 := (by injection e477)
             (try simp only [show (5 : Int).toNat = 5 from rfl, Nat.reduceMul, Nat.reduceEqDiff, Go.Addr.add, ↓reduceIte] at hx477_0)
             have qi477 : (5 < t457.length) = True := eq_true (by omega)
             (try rw [show ((5 : Int)).toNat = 5 from rfl] at hx477_0)
             replace p477 := eq_true p477
             replace q477 := eq_true q477
             refine start_ (n := 13) (S := fun w' => w'.cell? ⟨ad472.block, ad472.off + 4, none⟩ = some (.int .i64 (rd t457 4)) ∧ w'.cell? ⟨ad472.block, ad472.off + 5, none⟩ = some (.int .i64 (rd t457 5))) (ds := []) #[F_,F_,F_,F_,F_,F_,F_,F_,F_,F_,F_,F_,F_] (by kernel_rfl) rfl rfl ⟨hx476_0, hx477_0⟩ (fun hHeld => ?_); refine with_tabW laws_FnTwinPoints.tab9 laws_FnTwinPoints.bits9 (fun HT_ HW_ => ?_)
             generalize w98.drew = w99 at HO_3 HO_4 HO_5 HO_7 HB hx476_0 hx477_0 hHeld ⊢
             refine p_ 0 68 (m_ 13 1) HT_.out ?_
             refine p_ 1 69 (m_ 13 3) HT_.out ?_
             refine p_ 2 70 (m_ 13 7) HT_.out ?_
             refine p_ 4 72 (m_ 13 23) HT_.out ?_
             refine p_ 5 73 (m_ 13 55) HT_.out ?_
             refine t2_ 3 71 (m_ 13 63) HT_.out HW_.out hHeld ?_
             refine t2_ 6 74 (m_ 13 127) HT_.out HW_.out hHeld ?_
             refine one_ (i := 7) (N := some 75) (m_ 13 255) rfl rfl (one_of HT_.out (by kernel_rfl)) (by decide) (fun K hK => ?_)
             refine goes_ Try.func26 (by kernel_rfl) rfl #[.slice Ao8 t456.length co8, .int .i64 (rd t457 4), .int .i64 (rd t457 5)] (by rfl) rfl rfl ll_ ?_
             with_reducible refine (impl_PlaneJoin.calls kj5 _ _ t456 (rd t457 4) (rd t457 5) t478 t479 _ ?side1 ?side2 A29.out).mono ?_
             (case side1 => exact cc_ HO_3)
             (case side2 => exact (Kd.R_reads' HO_3.out).2.1)
             rintro e w100 ⟨rfl, hb⟩
             have HS0_ := (hb.cell (World.block_lt_of_cell? _ _ (hHeld.1))).trans (hHeld.1)
             have HS1_ := (hb.cell (World.block_lt_of_cell? _ _ (hHeld.2))).trans (hHeld.2)
             refine ⟨_, rfl, ?_⟩
             have n0_ := Aside0.mk (Kd.R_below (rr_ HO_3) hb)
             have n1_ := Aside0.mk (Kd.R_below (rr_ HO_4) hb)
             have n2_ := Aside0.mk (Kd.R_below (rr_ HO_5) hb)
             have n3_ := Aside0.mk (Kd.R_below (rr_ HO_7) hb)
             have n4_ := Aside0.mk (below_step (bb_ HB) hb)
             clear HO_3
             clear HO_4
             clear HO_5
             clear HO_7
             clear HB
             have HO_3 := n0_
             have HO_4 := n1_
             have HO_5 := n2_
             have HO_7 := n3_
             have HB := n4_
             clear n0_ n1_ n2_ n3_ n4_
             (try clear hb)
             (try clear hb2)
             (try clear hk)
             (try clear hi)
             refine hK.out _ _ ⟨HS0_, HS1_⟩ (fun hHeld => ?_)
             clear hK K
             refine norm_ (a' := ?_) ?_ ?_; rotate_left; (show Act.put _ (some 75) _ = _; simp only [Act.put, List.setIfInBounds_toArray, List.set_cons_zero, List.set_cons_succ, i64_w, i32_w]; rfl)
             refine p_ 8 67 (m_ 13 511) HT_.out ?_
             refine p_ 9 76 (m_ 13 1023) HT_.out ?_
             refine p_ 10 77 (m_ 13 2047) HT_.out ?_
             refine p_ 11 11 (m_ 13 4095) HT_.out ?_
             refine p_ 12 12 (m_ 13 8191) HT_.out ?_
             refine done_ (done_of HT_.out (by kernel_rfl)) ?_
             try go_wp2
             have n0_ := Aside0.mk (Kd.R_drew HO_3.out)
             have n1_ := Aside0.mk (Kd.R_drew HO_4.out)
             have n2_ := Aside0.mk (Kd.R_drew HO_5.out)
             have n3_ := Aside0.mk (Kd.R_drew HO_7.out)
             have n4_ := Aside0.mk (below_drew1 HB.out)
             clear HO_3
             clear HO_4
             clear HO_5
             clear HO_7
             clear HB
             have HO_3 := n0_
             have HO_4 := n1_
             have HO_5 := n2_
             have HO_7 := n3_
             have HB := n4_
             clear n0_ n1_ n2_ n3_ n4_
             have p480 : 0 ≤ (0 : Int) := (by omega)
             have q480 : 0 < (t457.length : Int) := dd_
             obtain ⟨ad480, e480, hx480_0⟩ := Kd.at_int (Kd.R_reads' HO_4.out).2.2 0 p480 q480
             obtain rfl : ad472 = ad480 := (by injection e480)
             have qi480 : (0 < t457.length) = True := eq_true (by omega)
             (try rw [show ((0 : Int)).toNat = 0 from rfl] at hx480_0)
             (try rw [Addr.add_zero'] at hx480_0)
             replace p480 := eq_true p480
             replace q480 := eq_true q480
             have p481 : 0 ≤ (4 : Int) := (by omega)
             have q481 : 4 < (t457.length : Int) := dd_
             obtain ⟨ad481, e481, hx481_0⟩ := Kd.at_int (Kd.R_reads' HO_4.out).2.2 4 p481 q481
             obtain rfl : ad472 = ad481 := (by injection e481)
             (try simp only [show (4 : Int).toNat = 4 from rfl, Nat.reduceMul, Nat.reduceEqDiff, Go.Addr.add, ↓reduceIte] at hx481_0)
             have qi481 : (4 < t457.length) = True := eq_true (by omega)
             (try rw [show ((4 : Int)).toNat = 4 from rfl] at hx481_0)
             replace p481 := eq_true p481
             replace q481 := eq_true q481
             have p482 : 0 ≤ (5 : Int) := (by omega)
             have q482 : 5 < (t457.length : Int) := dd_
             obtain ⟨ad482, e482, hx482_0⟩ := Kd.at_int (Kd.R_reads' HO_4.out).2.2 5 p482 q482
             obtain rfl : ad472 = ad482 := (by injection e482)
             (try simp only [show (5 : Int).toNat = 5 from rfl, Nat.reduceMul, Nat.reduceEqDiff, Go.Addr.add, ↓reduceIte] at hx482_0)
             have qi482 : (5 < t457.length) = True := eq_true (by omega)
             (try rw [show ((5 : Int)).toNat = 5 from rfl] at hx482_0)
             replace p482 := eq_true p482
             replace q482 := eq_true q482
             have p483 : 0 ≤ (6 : Int) := (by omega)
             have q483 : 6 < (t457.length : Int) := dd_
             obtain ⟨ad483, e483, hx483_0⟩ := Kd.at_int (Kd.R_reads' HO_4.out).2.2 6 p483 q483
             obtain rfl : ad472 = ad483 := (by injection e483)
             (try simp only [show (6 : Int).toNat = 6 from rfl, Nat.reduceMul, Nat.reduceEqDiff, Go.Addr.add, ↓reduceIte] at hx483_0)
             have qi483 : (6 < t457.length) = True := eq_true (by omega)
             (try rw [show ((6 : Int)).toNat = 6 from rfl] at hx483_0)
             replace p483 := eq_true p483
             replace q483 := eq_true q483
             have p484 : 0 ≤ (1 : Int) := (by omega)
             have q484 : 1 < (t457.length : Int) := dd_
             obtain ⟨ad484, e484, hx484_0⟩ := Kd.at_int (Kd.R_reads' HO_4.out).2.2 1 p484 q484
             obtain rfl : ad472 = ad484 := (by injection e484)
             (try simp only [show (1 : Int).toNat = 1 from rfl, Nat.reduceMul, Nat.reduceEqDiff, Go.Addr.add, ↓reduceIte] at hx484_0)
             have qi484 : (1 < t457.length) = True := eq_true (by omega)
             (try rw [show ((1 : Int)).toNat = 1 from rfl] at hx484_0)
             replace p484 := eq_true p484
             replace q484 := eq_true q484
             have p485 : 0 ≤ (2 : Int) := (by omega)
             have q485 : 2 < (t457.length : Int) := dd_
             obtain ⟨ad485, e485, hx485_0⟩ := Kd.at_int (Kd.R_reads' HO_4.out).2.2 2 p485 q485
             obtain rfl : ad472 = ad485 := (by injection e485)
             (try simp only [show (2 : Int).toNat = 2 from rfl, Nat.reduceMul, Nat.reduceEqDiff, Go.Addr.add, ↓reduceIte] at hx485_0)
             have qi485 : (2 < t457.length) = True := eq_true (by omega)
             (try rw [show ((2 : Int)).toNat = 2 from rfl] at hx485_0)
             replace p485 := eq_true p485
             replace q485 := eq_true q485
             have p486 : 0 ≤ (3 : Int) := (by omega)
             have q486 : 3 < (t457.length : Int) := dd_
             obtain ⟨ad486, e486, hx486_0⟩ := Kd.at_int (Kd.R_reads' HO_4.out).2.2 3 p486 q486
             obtain rfl : ad472 = ad486 := (by injection e486)
             (try simp only [show (3 : Int).toNat = 3 from rfl, Nat.reduceMul, Nat.reduceEqDiff, Go.Addr.add, ↓reduceIte] at hx486_0)
             have qi486 : (3 < t457.length) = True := eq_true (by omega)
             (try rw [show ((3 : Int)).toNat = 3 from rfl] at hx486_0)
             replace p486 := eq_true p486
             replace q486 := eq_true q486
             refine start_ (n := 29) (S := fun w' => w'.cell? ad472 = some (.int .i64 (rd t457 0)) ∧ w'.cell? ⟨ad472.block, ad472.off + 4, none⟩ = some (.int .i64 (rd t457 4)) ∧ w'.cell? ⟨ad472.block, ad472.off + 5, none⟩ = some (.int .i64 (rd t457 5)) ∧ w'.cell? ⟨ad472.block, ad472.off + 6, none⟩ = some (.int .i64 (rd t457 6)) ∧ w'.cell? ⟨ad472.block, ad472.off + 1, none⟩ = some (.int .i64 (rd t457 1)) ∧ w'.cell? ⟨ad472.block, ad472.off + 2, none⟩ = some (.int .i64 (rd t457 2)) ∧ w'.cell? ⟨ad472.block, ad472.off + 3, none⟩ = some (.int .i64 (rd t457 3))) (ds := []) #[F_,F_,F_,F_,F_,F_,F_,F_,F_,F_,F_,F_,F_,F_,F_,F_,F_,F_,F_,F_,F_,F_,F_,F_,F_,F_,F_,F_,F_] (by kernel_rfl) rfl rfl ⟨hx480_0, hx481_0, hx482_0, hx483_0, hx484_0, hx485_0, hx486_0⟩ (fun hHeld => ?_); refine with_tabW laws_FnTwinPoints.tab10 laws_FnTwinPoints.bits10 (fun HT_ HW_ => ?_)
             generalize w100.drew = w101 at HO_3 HO_4 HO_5 HO_7 HB hx480_0 hx481_0 hx482_0 hx483_0 hx484_0 hx485_0 hx486_0 hHeld ⊢
             refine p_ 0 79 (m_ 29 1) HT_.out ?_
             refine p_ 1 80 (m_ 29 3) HT_.out ?_
             refine p_ 2 81 (m_ 29 7) HT_.out ?_
             refine p_ 4 83 (m_ 29 23) HT_.out ?_
             refine p_ 5 84 (m_ 29 55) HT_.out ?_
             refine p_ 7 86 (m_ 29 183) HT_.out ?_
             refine p_ 8 87 (m_ 29 439) HT_.out ?_
             refine p_ 10 89 (m_ 29 1463) HT_.out ?_
             refine p_ 11 90 (m_ 29 3511) HT_.out ?_
             refine p_ 13 92 (m_ 29 11703) HT_.out ?_
             refine p_ 14 93 (m_ 29 28087) HT_.out ?_
             refine p_ 16 95 (m_ 29 93623) HT_.out ?_
             refine p_ 17 96 (m_ 29 224695) HT_.out ?_
             refine p_ 19 98 (m_ 29 748983) HT_.out ?_
             refine p_ 20 99 (m_ 29 1797559) HT_.out ?_
             refine take_ (i := 3) (N := some 82) (v := ?_) (a' := ?_) (m_ 29 1797567) rfl rfl (take_ofW HT_.out HW_.out (by kernel_rfl)) (fun _ _ _ h => h) (Or.inl ⟨by rfl, ?_⟩) hHeld ?_ ?_; rotate_left; (rintro w' ⟨s0, s1, s2, s3, s4, s5, s6⟩; go_simp; with_reducible rfl); rotate_left; (simp only [Act.put, List.setIfInBounds_toArray, List.set_cons_zero, List.set_cons_succ, i64_w, i32_w]; rfl)
             refine take_ (i := 6) (N := some 85) (v := ?_) (a' := ?_) (m_ 29 1797631) rfl rfl (take_ofW HT_.out HW_.out (by kernel_rfl)) (fun _ _ _ h => h) (Or.inl ⟨by rfl, ?_⟩) hHeld ?_ ?_; rotate_left; (rintro w' ⟨s0, s1, s2, s3, s4, s5, s6⟩; go_simp; with_reducible rfl); rotate_left; (simp only [Act.put, List.setIfInBounds_toArray, List.set_cons_zero, List.set_cons_succ, i64_w, i32_w]; rfl)
             refine take_ (i := 9) (N := some 88) (v := ?_) (a' := ?_) (m_ 29 1798143) rfl rfl (take_ofW HT_.out HW_.out (by kernel_rfl)) (fun _ _ _ h => h) (Or.inl ⟨by rfl, ?_⟩) hHeld ?_ ?_; rotate_left; (rintro w' ⟨s0, s1, s2, s3, s4, s5, s6⟩; go_simp; with_reducible rfl); rotate_left; (simp only [Act.put, List.setIfInBounds_toArray, List.set_cons_zero, List.set_cons_succ, i64_w, i32_w]; rfl)
             refine take_ (i := 12) (N := some 91) (v := ?_) (a' := ?_) (m_ 29 1802239) rfl rfl (take_ofW HT_.out HW_.out (by kernel_rfl)) (fun _ _ _ h => h) (Or.inl ⟨by rfl, ?_⟩) hHeld ?_ ?_; rotate_left; (rintro w' ⟨s0, s1, s2, s3, s4, s5, s6⟩; go_simp; with_reducible rfl); rotate_left; (simp only [Act.put, List.setIfInBounds_toArray, List.set_cons_zero, List.set_cons_succ, i64_w, i32_w]; rfl)
             refine take_ (i := 15) (N := some 94) (v := ?_) (a' := ?_) (m_ 29 1835007) rfl rfl (take_ofW HT_.out HW_.out (by kernel_rfl)) (fun _ _ _ h => h) (Or.inl ⟨by rfl, ?_⟩) hHeld ?_ ?_; rotate_left; (rintro w' ⟨s0, s1, s2, s3, s4, s5, s6⟩; go_simp; with_reducible rfl); rotate_left; (simp only [Act.put, List.setIfInBounds_toArray, List.set_cons_zero, List.set_cons_succ, i64_w, i32_w]; rfl)
             refine take_ (i := 18) (N := some 97) (v := ?_) (a' := ?_) (m_ 29 2097151) rfl rfl (take_ofW HT_.out HW_.out (by kernel_rfl)) (fun _ _ _ h => h) (Or.inl ⟨by rfl, ?_⟩) hHeld ?_ ?_; rotate_left; (rintro w' ⟨s0, s1, s2, s3, s4, s5, s6⟩; go_simp; with_reducible rfl); rotate_left; (simp only [Act.put, List.setIfInBounds_toArray, List.set_cons_zero, List.set_cons_succ, i64_w, i32_w]; rfl)
             refine take_ (i := 21) (N := some 100) (v := ?_) (a' := ?_) (m_ 29 4194303) rfl rfl (take_ofW HT_.out HW_.out (by kernel_rfl)) (fun _ _ _ h => h) (Or.inl ⟨by rfl, ?_⟩) hHeld ?_ ?_; rotate_left; (rintro w' ⟨s0, s1, s2, s3, s4, s5, s6⟩; go_simp; with_reducible rfl); rotate_left; (simp only [Act.put, List.setIfInBounds_toArray, List.set_cons_zero, List.set_cons_succ, i64_w, i32_w]; rfl)
             refine one_ (i := 22) (N := some 101) (m_ 29 8388607) rfl rfl (one_of HT_.out (by kernel_rfl)) (by decide) (fun K hK => ?_)
             refine Kd.R_lit_step (Kd.int .i64) _ 3 ?hg (N := 101) ?hd (xs := ([rd t457 0, rd t457 4, rd t457 5, rd t457 6, rd t457 1, rd t457 2, rd t457 3] : List Int)) (inner := [.int .i64 (rd t457 0), .int .i64 (rd t457 4), .int .i64 (rd t457 5), .int .i64 (rd t457 6), .int .i64 (rd t457 1), .int .i64 (rd t457 2), .int .i64 (rd t457 3)]) (ok := fun _ => True) (okp := fun _ => True) ?hr ?hp (fun _ hk => hk) trivial (Below.refl _ _) (Nat.le_refl _) (by simp) ?_; (case hd => rfl); (case hg => rfl); (case hr => first | (go_simp; done) | (go_simp; rfl)); (case hp => exact (Reps.one (show Kd.M (Kd.int .i64) _ _ _ (rd t457 0) [.int .i64 (rd t457 0)] from rfl) (Reps.one (show Kd.M (Kd.int .i64) _ _ _ (rd t457 4) [.int .i64 (rd t457 4)] from rfl) (Reps.one (show Kd.M (Kd.int .i64) _ _ _ (rd t457 5) [.int .i64 (rd t457 5)] from rfl) (Reps.one (show Kd.M (Kd.int .i64) _ _ _ (rd t457 6) [.int .i64 (rd t457 6)] from rfl) (Reps.one (show Kd.M (Kd.int .i64) _ _ _ (rd t457 1) [.int .i64 (rd t457 1)] from rfl) (Reps.one (show Kd.M (Kd.int .i64) _ _ _ (rd t457 2) [.int .i64 (rd t457 2)] from rfl) (Reps.one (show Kd.M (Kd.int .i64) _ _ _ (rd t457 3) [.int .i64 (rd t457 3)] from rfl) (Reps.none _ _)))))))))
             intro v488 w102 ho103 hb hg_ hnew_
             have HS0_ := (hb.cell (World.block_lt_of_cell? _ _ (hHeld.1))).trans (hHeld.1)
             have HS1_ := (hb.cell (World.block_lt_of_cell? _ _ (hHeld.2.1))).trans (hHeld.2.1)
             have HS2_ := (hb.cell (World.block_lt_of_cell? _ _ (hHeld.2.2.1))).trans (hHeld.2.2.1)
             have HS3_ := (hb.cell (World.block_lt_of_cell? _ _ (hHeld.2.2.2.1))).trans (hHeld.2.2.2.1)
             have HS4_ := (hb.cell (World.block_lt_of_cell? _ _ (hHeld.2.2.2.2.1))).trans (hHeld.2.2.2.2.1)
             have HS5_ := (hb.cell (World.block_lt_of_cell? _ _ (hHeld.2.2.2.2.2.1))).trans (hHeld.2.2.2.2.2.1)
             have HS6_ := (hb.cell (World.block_lt_of_cell? _ _ (hHeld.2.2.2.2.2.2))).trans (hHeld.2.2.2.2.2.2)
             clear hg_ hnew_
             (first | rw [← Ny487.out] at ho103 | (simp only [Int.reduceToNat] at ho103; rw [← Ny487.out] at ho103))
             have n0_ := Aside0.mk (Kd.R_elder' (rr_ HO_3) (Kd.R_base ho103) hb)
             have n1_ := Aside0.mk (Kd.R_elder' (rr_ HO_4) (Kd.R_base ho103) hb)
             have n2_ := Aside0.mk (Kd.R_elder' (rr_ HO_5) (Kd.R_base ho103) hb)
             have n3_ := Aside0.mk (Kd.R_elder' (rr_ HO_7) (Kd.R_base ho103) hb)
             have n4_ := Aside0.mk (Kd.R_lower (Kd.R_new' (Kd.R_new' (Kd.R_new' (Kd.R_new' ho103 (Kd.R_lt (rr_ HO_3))) (Kd.R_lt (rr_ HO_4))) (Kd.R_lt (rr_ HO_5))) (Kd.R_lt (rr_ HO_7))) (below_size (bb_ HB)))
             have n5_ := Aside0.mk (below_step (bb_ HB) hb)
             clear HO_3
             clear HO_4
             clear HO_5
             clear HO_7
             clear HB
             have HO_3 := n0_
             have HO_4 := n1_
             have HO_5 := n2_
             have HO_7 := n3_
             have HO489 := n4_
             have HB := n5_
             clear n0_ n1_ n2_ n3_ n4_ n5_
             clear hb ho103
             obtain ⟨Ao104, co104, eo104⟩ := Kd.R_slice HO489.out
             (first | subst eo104 | (injection eo104 with f1_ f2_ f3_; have f4_ := f1_.symm; have f5_ := f3_.symm; clear f1_ f2_ f3_; subst f4_; subst f5_))
             refine hK.out _ _ ⟨HS0_, HS1_, HS2_, HS3_, HS4_, HS5_, HS6_⟩ (fun hHeld => ?_)
             clear hK K
             refine norm_ (a' := ?_) ?_ ?_; rotate_left; (show Act.put _ (some 101) _ = _; simp only [Act.put, List.setIfInBounds_toArray, List.set_cons_zero, List.set_cons_succ, i64_w, i32_w]; rfl)
             refine one_ (i := 23) (N := some 102) (m_ 29 16777215) rfl rfl (one_of HT_.out (by kernel_rfl)) (by decide) (fun K hK => ?_)
             refine goes_ Try.func18 (by kernel_rfl) rfl #[.slice Ao8 t456.length co8, .slice Ao104 y487.length co104] (by rfl) rfl rfl ll_ ?_
             with_reducible refine (impl_TwinPoints.calls kj5 _ _ t456 _ _ y487 t490 t491 _ ?side1 ?side2 ?side3 ?side4 A33.out).mono ?_
             (case side1 => exact cc_ HO_3)
             (case side2 => exact (Kd.R_reads' HO_3.out).2.1)
             (case side3 => exact cc_ HO489)
             (case side4 => exact (Kd.R_reads' HO489.out).2.1)
             rintro e w105 ⟨v492, rfl, ho0, hb⟩
             have HS0_ := (hb.cell (World.block_lt_of_cell? _ _ (hHeld.1))).trans (hHeld.1)
             have HS1_ := (hb.cell (World.block_lt_of_cell? _ _ (hHeld.2.1))).trans (hHeld.2.1)
             have HS2_ := (hb.cell (World.block_lt_of_cell? _ _ (hHeld.2.2.1))).trans (hHeld.2.2.1)
             have HS3_ := (hb.cell (World.block_lt_of_cell? _ _ (hHeld.2.2.2.1))).trans (hHeld.2.2.2.1)
             have HS4_ := (hb.cell (World.block_lt_of_cell? _ _ (hHeld.2.2.2.2.1))).trans (hHeld.2.2.2.2.1)
             have HS5_ := (hb.cell (World.block_lt_of_cell? _ _ (hHeld.2.2.2.2.2.1))).trans (hHeld.2.2.2.2.2.1)
             have HS6_ := (hb.cell (World.block_lt_of_cell? _ _ (hHeld.2.2.2.2.2.2))).trans (hHeld.2.2.2.2.2.2)
             refine ⟨_, rfl, ?_⟩
             have n0_ := Aside0.mk (Kd.R_elder' (rr_ HO_3) (Kd.R_base ho0) hb)
             have n1_ := Aside0.mk (Kd.R_elder' (rr_ HO_4) (Kd.R_base ho0) hb)
             have n2_ := Aside0.mk (Kd.R_elder' (rr_ HO_5) (Kd.R_base ho0) hb)
             have n3_ := Aside0.mk (Kd.R_elder' (rr_ HO_7) (Kd.R_base ho0) hb)
             have n4_ := Aside0.mk (Kd.R_elder' (rr_ HO489) (Kd.R_base ho0) hb)
             have n5_ := Aside0.mk (Kd.R_lower (Kd.R_new' (Kd.R_new' (Kd.R_new' (Kd.R_new' (Kd.R_new' ho0 (Kd.R_lt (rr_ HO_3))) (Kd.R_lt (rr_ HO_4))) (Kd.R_lt (rr_ HO_5))) (Kd.R_lt (rr_ HO_7))) (Kd.R_lt (rr_ HO489))) (below_size (bb_ HB)))
             have n6_ := Aside0.mk (below_step (bb_ HB) hb)
             clear HO_3
             clear HO_4
             clear HO_5
             clear HO_7
             clear HO489
             clear HB
             have HO_3 := n0_
             have HO_4 := n1_
             have HO_5 := n2_
             have HO_7 := n3_
             have HO489 := n4_
             have HO493 := n5_
             have HB := n6_
             clear n0_ n1_ n2_ n3_ n4_ n5_ n6_
             (try clear hb)
             (try clear hb2)
             (try clear hk)
             (try clear hi)
             (try clear ho0)
             refine hK.out _ _ ⟨HS0_, HS1_, HS2_, HS3_, HS4_, HS5_, HS6_⟩ (fun hHeld => ?_)
             clear hK K
             refine norm_ (a' := ?_) ?_ ?_; rotate_left; (show Act.put _ (some 102) _ = _; simp only [Act.put, List.setIfInBounds_toArray, List.set_cons_zero, List.set_cons_succ, i64_w, i32_w]; rfl)
             refine p_ 24 78 (m_ 29 33554431) HT_.out ?_
             refine p_ 25 103 (m_ 29 67108863) HT_.out ?_
             refine p_ 26 104 (m_ 29 134217727) HT_.out ?_
             refine p_ 27 13 (m_ 29 268435455) HT_.out ?_
             refine p_ 28 14 (m_ 29 536870911) HT_.out ?_
             refine done_ (done_of HT_.out (by kernel_rfl)) ?_
             try go_wp2
             go_ret
             exact ⟨ee_, bb_ HB⟩
           ·rw [if_neg c32] at H
            exact absurd H (by simp)
          ·rw [if_neg c31] at H
           exact absurd H (by simp)
         ·rw [if_neg c30] at H
          exact absurd H (by simp)
        ·rw [if_neg c28] at H
         exact absurd H (by simp)
       ·rw [if_neg c27] at H
        exact absurd H (by simp)
      ·rw [if_neg c25] at H
       exact absurd H (by simp)
     ·rw [if_neg c24] at H
      exact absurd H (by simp)
def laws_FnTwinPoints.Pure : Prop := ∀ (l0 : List Int), l0.length ≤ maxLen → l0.length * 1 ≤ 140737488351232 → (∀ x ∈ l0, (Lit.int .u8 x).wf = true) → ∃ k, laws_FnTwinPoints.f k l0 = some true
theorem laws_FnTwinPoints.walk (P : laws_FnTwinPoints.Pure) (a0 : Option Addr) (len0 cap0 : Nat) (z0 : List Int) (w : World) (w0 : (a0 = none ∧ len0 = 0 ∧ cap0 = 0 ∧ z0 = []) ∨ ∃ x, a0 = some x ∧ len0 ≤ cap0 ∧ cap0 ≤ maxLen ∧ z0.length = cap0 ∧ (∀ i, i < z0.length → w.cell? (x.add i) = some (.int .u8 (z0.getD i 0))) ∧ ∀ n ∈ z0, (Lit.int .u8 n).wf = true) (y0 : len0 * 1 ≤ 140737488351232) :
  Calls Try.prog 6 #[.slice a0 len0 cap0] w fun e w' => e = .returned (.bool true) ∧ Below w.heap.size w w' := by
 obtain ⟨l0, rfl, hr0, hm0, hw0, hc0⟩ := ReadsInt.ofRowC w0
 obtain ⟨k, h⟩ := P l0 hm0 y0 hw0
 refine (laws_FnTwinPoints.calls k _ _ l0 true w (Kd.C_of_reads (d := (0 : Int)) (h1 := fun _ => rfl) hr0) hc0 h).mono ?_
 rintro e w' ⟨rfl, hd⟩
 exact ⟨rfl, hd⟩
end Go.Proofs.Ytcbkoecanldlpaa.P

set_option linter.unusedVariables false
set_option linter.unusedSimpArgs false
namespace Go.Proofs.Ytcbkoecanldlpaa.X
open Go.RowKit Go.Proofs.YtcbkoecanldlpaaW.PrintWords Go.Proofs.YtcbkoecanldlpaaW.PrintLast Go.Proofs.Ytcbkoecanldlpaa.P

theorem l6In_eq (a b c : Int) : spec_l6In.f a b c = some (decide (b ≤ a) && decide (a ≤ c)) := by
  unfold spec_l6In.f
  by_cases h : a ≥ b
  · rw [if_pos h, decide_eq_true h]; simp
  · rw [if_neg h, decide_eq_false h]; simp
theorem l1In_eq (a : Int) : spec_l1In.f a = some (isN a) := by
  unfold spec_l1In.f isN
  rw [l6In_eq]
  show some _ = _
  rw [show decide (a ≤ 8) = decide (a < 9) from decide_eq_decide.2 (by omega)]
theorem l2Table_loop (l : List Int) (hl : l.length ≤ 1048576) (d : Nat) : ∀ (i : Int), 0 ≤ i → i + d = l.length → (∀ j : Nat, (j : Int) < i → isN (rd l j) = true) → Ev (fun k => spec_l2Table.l0 k l i) (ninesB l 81) := by
  induction d with
  | zero =>
    intro i h0 h1 h
    refine Ev.step (fun k => by rw [spec_l2Table.l0]) ?_
    refine Ev.neg (by omega) (Ev.done ?_)
    have ha : l.all isN = true := by
      rw [List.all_eq_true]
      intro x hx
      obtain ⟨j, hj, rfl⟩ := List.mem_iff_getElem.1 hx
      rw [← rd_cast l j hj]
      exact h j (by omega)
    unfold ninesB
    rw [ha, Bool.and_true]
    congr 1
    rw [Bool.eq_iff_iff]; simp; omega
  | succ d ih =>
    intro i h0 h1 h
    refine Ev.step (fun k => by rw [spec_l2Table.l0]) ?_
    simp (disch := omega) only [w64, l1In_eq, Option.bind_some]
    refine Ev.pos (by omega) (Ev.pos (by omega) ?_)
    by_cases e : isN (rd l i) = true
    · refine Ev.pos e (ih (i + 1) (by omega) (by omega) fun j hj => ?_)
      by_cases ej : (j : Int) = i
      · rw [ej]; exact e
      · exact h j (by omega)
    · refine Ev.neg e (Ev.done ?_)
      have : l.all isN = false := by
        rw [List.all_eq_false]
        exact ⟨rd l i, rd_mem (by omega) h0, e⟩
      unfold ninesB
      rw [this, Bool.and_false]
theorem l2Table_ev (l : List Int) (hl : l.length ≤ 1048576) : Ev (fun k => spec_l2Table.f k l) (ninesB l 81) :=
  l2Table_loop l hl l.length 0 (by omega) (by omega) (fun j h => by omega)
theorem l2Units_loop (t : List Int) (hl : t.length = 81) (d : Nat) : ∀ (i : Int), 0 ≤ i → i + d = 9 → (∀ x : Int, 0 ≤ x → x < i → unitB t x = true) → Ev (fun k => spec_l2Units.l0 k t i) (unitsB t) := by
  induction d with
  | zero =>
    intro i h0 h1 h
    refine Ev.step (fun k => by rw [spec_l2Units.l0]) ?_
    refine Ev.neg (by omega) (Ev.done ?_)
    rw [unitsB_iff.2 fun x x0 x1 => h x x0 (by omega)]
  | succ d ih =>
    intro i h0 h1 h
    have hu : unitB t i = (decide (rd t i = 0) && decide (rd t (9 * i) = 0) && decide (rd t (9 + i) = i) && decide (rd t (9 * i + 1) = i)) := rfl
    refine Ev.step (fun k => by rw [spec_l2Units.l0]) ?_
    have z1 : wrap64 (9 * i) = 9 * i := w64 (by omega) (by omega)
    have z2 : wrap64 (9 + i) = 9 + i := w64 (by omega) (by omega)
    have z3 : wrap64 (9 * i + 1) = 9 * i + 1 := w64 (by omega) (by omega)
    have z4 : wrap64 (i + 1) = i + 1 := w64 (by omega) (by omega)
    simp only [z1, z2, z3, z4]
    refine Ev.pos (by omega) (Ev.pos (by omega) (Ev.pos (by omega) ?_))
    by_cases e1 : rd t i = 0
    case neg => exact Ev.neg e1 (Ev.done (by rw [unitsB_hit h0 (by omega) (by rw [hu, decide_eq_false e1]; rfl)]))
    refine Ev.pos e1 (Ev.pos (by omega) (Ev.pos (by omega) ?_))
    by_cases e2 : rd t (9 * i) = 0
    case neg => exact Ev.neg e2 (Ev.done (by rw [unitsB_hit h0 (by omega) (by rw [hu, decide_eq_false e2, Bool.and_false]; rfl)]))
    refine Ev.pos e2 (Ev.pos (by omega) (Ev.pos (by omega) ?_))
    by_cases e3 : rd t (9 + i) = i
    case neg => exact Ev.neg e3 (Ev.done (by rw [unitsB_hit h0 (by omega) (by rw [hu, decide_eq_false e3, Bool.and_false]; rfl)]))
    refine Ev.pos e3 (Ev.pos (by omega) (Ev.pos (by omega) ?_))
    by_cases e4 : rd t (9 * i + 1) = i
    case neg => exact Ev.neg e4 (Ev.done (by rw [unitsB_hit h0 (by omega) (by rw [hu, decide_eq_false e4, Bool.and_false])]))
    refine Ev.pos e4 (ih (i + 1) (by omega) (by omega) fun x x0 x1 => ?_)
    by_cases e : x = i
    · rw [e, hu, decide_eq_true e1, decide_eq_true e2, decide_eq_true e3, decide_eq_true e4]; rfl
    · exact h x x0 (by omega)
theorem l2Units_ev (t : List Int) (hl : t.length = 81) : Ev (fun k => spec_l2Units.f k t) (unitsB t) :=
  l2Units_loop t hl 9 0 (by omega) (by omega) (fun x h0 h1 => by omega)
theorem SystemIn_l1 (t : List Int) (hn : ninesB t 81 = true) (c : Int) (hc : In9 c) (hr : (∀ d : Int, 0 ≤ d → d < c → gapsB t c d = true) → Ev (fun k => spec_SystemIn.l0 k t (c + 1)) (solvesB t)) (n : Nat) :
    ∀ (d : Int), 0 ≤ d → d + n = c → (∀ x : Int, 0 ≤ x → x < d → gapsB t c x = true) → Ev (fun k => spec_SystemIn.l1 k t c d) (solvesB t) := by
  obtain ⟨c0, c1⟩ := hc
  induction n with
  | zero =>
    intro d h0 h1 h
    refine Ev.step (fun k => by rw [spec_SystemIn.l1]) ?_
    simp (disch := omega) only [w64]
    exact Ev.neg (by omega) (hr fun x x0 x1 => h x x0 (by omega))
  | succ n ih =>
    intro d h0 h1 h
    refine Ev.step (fun k => by rw [spec_SystemIn.l1]) ?_
    have hs : spec_l2Solves.f t c d = some (gapsB t c d) := by unfold spec_l2Solves.f; exact if_pos ⟨hn, ⟨c0, c1⟩, ⟨h0, by omega⟩⟩
    simp (disch := omega) only [w64, hs, Option.bind_some]
    refine Ev.pos (by omega) ?_
    by_cases e : gapsB t c d = true
    · refine Ev.pos e (ih (d + 1) (by omega) (by omega) fun x x0 x1 => ?_)
      by_cases ex : x = d
      · rw [ex]; exact e
      · exact h x x0 (by omega)
    · refine Ev.neg e (Ev.done ?_)
      rw [solvesB_hit h0 (by omega) c1 (Bool.eq_false_iff.2 e)]
theorem SystemIn_l0 (t : List Int) (hn : ninesB t 81 = true) (n : Nat) : ∀ (c : Int), 0 ≤ c → c + n = 9 → (∀ x y : Int, 0 ≤ y → y < x → x < c → gapsB t x y = true) → Ev (fun k => spec_SystemIn.l0 k t c) (solvesB t) := by
  induction n with
  | zero =>
    intro c h0 h1 h
    refine Ev.step (fun k => by rw [spec_SystemIn.l0]) ?_
    refine Ev.neg (by omega) (Ev.done ?_)
    rw [solvesB_all fun x y y0 yx x9 => h x y y0 yx (by omega)]
  | succ n ih =>
    intro c h0 h1 h
    refine Ev.step (fun k => by rw [spec_SystemIn.l0]) ?_
    refine Ev.pos (by omega) ?_
    refine SystemIn_l1 t hn c ⟨h0, by omega⟩ (fun hg => ih (c + 1) (by omega) (by omega) fun x y y0 yx x1 => ?_) c.toNat 0 (by omega) (by omega) (fun x x0 x1 => by omega)
    by_cases e : x = c
    · subst e; exact hg y y0 yx
    · exact h x y y0 yx (by omega)
theorem SystemIn_ev (t : List Int) (hl : t.length ≤ 1048576) : Ev (fun k => spec_SystemIn.f k t) (sysB t) := by
  unfold spec_SystemIn.f
  refine Ev.bind (l2Table_ev t hl) ?_
  by_cases hn : ninesB t 81 = true
  case neg =>
    refine Ev.neg hn (Ev.step (fun k => by rw [spec_SystemIn.j0]) (Ev.pos rfl (Ev.done ?_)))
    unfold sysB; rw [Bool.eq_false_iff.2 hn]; rfl
  refine Ev.pos hn (Ev.bind (l2Units_ev t (ninesB_iff.1 hn).1) ?_)
  by_cases hu : unitsB t = true
  case neg =>
    refine Ev.neg hu (Ev.step (fun k => by rw [spec_SystemIn.j0]) (Ev.pos rfl (Ev.done ?_)))
    rw [sysB_of hn, Bool.eq_false_iff.2 hu]; rfl
  have hs : spec_l2Shares.f t = some (sharesB t) := by unfold spec_l2Shares.f; exact if_pos hn
  refine Ev.pos hu (Ev.fix hs ?_)
  rw [sysB_of hn, hu]
  by_cases h : sharesB t = true
  · rw [h]
    refine Ev.step (fun k => by rw [spec_SystemIn.j0]) ?_
    refine Ev.neg (by simp) ?_
    exact SystemIn_l0 t hn 9 0 (by omega) (by omega) (fun x y h0 h1 h2 => by omega)
  · rw [Bool.eq_false_iff.2 h]
    refine Ev.step (fun k => by rw [spec_SystemIn.j0]) ?_
    exact Ev.pos rfl (Ev.done rfl)
end Go.Proofs.Ytcbkoecanldlpaa.X

set_option linter.unusedVariables false
set_option linter.unusedSimpArgs false
namespace Go.Proofs.Ytcbkoecanldlpaa.X
open Go.RowKit Go.Proofs.YtcbkoecanldlpaaW.PrintWords Go.Proofs.YtcbkoecanldlpaaW.PrintLast Go.Proofs.Ytcbkoecanldlpaa.P

def RdS (s : List Int) : Prop := s.length ≤ 2000 ∧ ∀ x ∈ s, 0 ≤ x ∧ x ≤ 255
theorem u8_range {x : Int} (h : (Lit.int .u8 x).wf = true) : 0 ≤ x ∧ x ≤ 255 := by
  simp [Lit.wf, IntKind.min, IntKind.max, IntKind.signed, IntKind.bits] at h
  omega
theorem open_ev (l : List Int) (h : ∀ x ∈ l, (Lit.int .u8 x).wf = true) : ∃ s, RdS s ∧ spec_l6Open.f l = some (s, 0) := by
  unfold spec_l6Open.f
  by_cases hl : (l.length : Int) > 2000
  · rw [if_pos hl, if_pos (by omega)]
    exact ⟨_, ⟨by rw [List.length_take]; omega, fun x hx => u8_range (h x (List.mem_of_mem_take hx))⟩, rfl⟩
  · rw [if_neg hl]
    exact ⟨_, ⟨by omega, fun x hx => u8_range (h x hx)⟩, rfl⟩
theorem xor_nn {a b : Int} (h0 : 0 ≤ a) (h1 : a < 9223372036854775808) (h2 : 0 ≤ b) (h3 : b < 9223372036854775808) : 0 ≤ Go.bits .xor .i64 a b := by
  obtain ⟨x, rfl⟩ := Int.eq_ofNat_of_zero_le h0
  obtain ⟨y, rfl⟩ := Int.eq_ofNat_of_zero_le h2
  have hx : x ^^^ y < 2 ^ 63 := Nat.xor_lt_two_pow (by omega) (by omega)
  have e1 : (BitVec.ofInt 64 (x : Int)).toNat = x := by
    rw [BitVec.ofInt_natCast, BitVec.toNat_ofNat]; exact Nat.mod_eq_of_lt (by omega)
  have e2 : (BitVec.ofInt 64 (y : Int)).toNat = y := by
    rw [BitVec.ofInt_natCast, BitVec.toNat_ofNat]; exact Nat.mod_eq_of_lt (by omega)
  have e : Go.bits .xor .i64 (x : Int) (y : Int) = IntKind.i64.wrap ((BitVec.ofInt 64 (x : Int) ^^^ BitVec.ofInt 64 (y : Int)).toNat : Int) := rfl
  rw [e, BitVec.toNat_xor, e1, e2]
  generalize x ^^^ y = z at hx
  simp [IntKind.wrap, IntKind.bits, IntKind.signed]
  omega
theorem tmod_range {a n : Int} (h : 0 ≤ a) (hn : 1 ≤ n) : 0 ≤ Int.tmod a n ∧ Int.tmod a n < n := by
  rw [tmod_nn h]
  exact ⟨Int.emod_nonneg _ (by omega), Int.emod_lt_of_pos _ (by omega)⟩
theorem rd_byte {s : List Int} (hs : RdS s) {i : Int} (h0 : 0 ≤ i) (h1 : i < s.length) : 0 ≤ rd s i ∧ rd s i ≤ 255 := hs.2 _ (rd_mem h1 h0)
theorem pick_j0 (s : List Int) (hs : RdS s) (p : Int) (h0 : 0 ≤ p) (h1 : p ≤ 1099511627776) (n : Int) (n0 : 1 ≤ n) (n1 : n ≤ 1000000) :
    ∃ v, (0 ≤ v ∧ v < n) ∧ Ev (fun k => spec_l6Rd_pick.j0 k n ((s.length : Int) == 0) s (p + 1)) (v, p + 1) := by
  have hl := hs.1
  by_cases e : s.length = 0
  · refine ⟨0, by omega, ?_⟩
    refine Ev.step (fun k => by rw [spec_l6Rd_pick.j0]) ?_
    refine Ev.pos (by rw [e]; rfl) (Ev.done rfl)
  have ez : wrap64 (p + 1 - 1) = p := by rw [w64 (by omega) (by omega)]; omega
  have er : ∀ i : Int, 0 ≤ i → i < s.length → wrap64 (rd s i) = rd s i := fun i i0 i1 => by
    have := rd_byte hs i0 i1; exact w64 (by omega) (by omega)
  by_cases hp : p < s.length
  · obtain ⟨b0, b1⟩ := rd_byte hs h0 hp
    refine ⟨Int.tmod (rd s p) n, tmod_range b0 n0, ?_⟩
    refine Ev.step (fun k => by rw [spec_l6Rd_pick.j0]) ?_
    rw [ez]
    refine Ev.neg (by simp; intro hh; apply e; simp [hh]) (Ev.pos hp (Ev.pos h0 (Ev.neg (by omega) ?_)))
    rw [er p h0 hp]
    exact Ev.done rfl
  · have hL : (1 : Int) ≤ s.length := by omega
    have ha : 0 ≤ p % (s.length : Int) ∧ p % (s.length : Int) < s.length := ⟨Int.emod_nonneg _ (by omega), Int.emod_lt_of_pos _ (by omega)⟩
    have hb : 0 ≤ (p * 7 + 3) % (s.length : Int) ∧ (p * 7 + 3) % (s.length : Int) < s.length := ⟨Int.emod_nonneg _ (by omega), Int.emod_lt_of_pos _ (by omega)⟩
    have hd : 0 ≤ p / (s.length : Int) ∧ p / (s.length : Int) ≤ p := ⟨Int.ediv_nonneg h0 (by omega), Int.ediv_le_self _ h0⟩
    obtain ⟨a0, a1⟩ := rd_byte hs ha.1 ha.2
    obtain ⟨b0, b1⟩ := rd_byte hs hb.1 hb.2
    have ea := er _ ha.1 ha.2
    have eb := er _ hb.1 hb.2
    have e7 : wrap64 (wrap64 (p * 7) + 3) = p * 7 + 3 := by rw [w64 (x := p * 7) (by omega) (by omega), w64 (by omega) (by omega)]
    have em : Int.tmod p (s.length : Int) = p % (s.length : Int) := tmod_nn h0
    have en : Int.tmod (p * 7 + 3) (s.length : Int) = (p * 7 + 3) % (s.length : Int) := tmod_nn (by omega)
    have ed : Int.tdiv p (s.length : Int) = p / (s.length : Int) := tdiv_nn h0
    generalize hA : rd s (p % (s.length : Int)) = A at *
    generalize hB : rd s ((p * 7 + 3) % (s.length : Int)) = B at *
    generalize hD : p / (s.length : Int) = D at *
    have eX : wrap64 (wrap64 (wrap64 (wrap64 (A * 131) + wrap64 (B * 1117)) + wrap64 (p * 29)) + wrap64 (wrap64 D * 53)) = A * 131 + B * 1117 + p * 29 + D * 53 := by
      rw [w64 (x := A * 131) (by omega) (by omega), w64 (x := B * 1117) (by omega) (by omega), w64 (x := A * 131 + B * 1117) (by omega) (by omega), w64 (x := p * 29) (by omega) (by omega), w64 (x := D) (by omega) (by omega), w64 (x := D * 53) (by omega) (by omega), w64 (x := A * 131 + B * 1117 + p * 29) (by omega) (by omega), w64 (by omega) (by omega)]
    have hX0 : 0 ≤ A * 131 + B * 1117 + p * 29 + D * 53 := by omega
    have hX1 : A * 131 + B * 1117 + p * 29 + D * 53 ≤ 9223372036854775807 := by omega
    generalize A * 131 + B * 1117 + p * 29 + D * 53 = X at *
    have eY : wrap64 (Int.tdiv X 64) = X / 64 := by rw [tdiv_nn hX0]; exact w64 (by omega) (by omega)
    refine ⟨Int.tmod (Go.bits .xor .i64 X (X / 64)) n, tmod_range (xor_nn hX0 (by omega) (by omega) (by omega)) n0, ?_⟩
    refine Ev.step (fun k => by rw [spec_l6Rd_pick.j0]) ?_
    rw [ez]
    refine Ev.neg (by simp; intro hh; apply e; simp [hh]) (Ev.neg hp (Ev.neg (by omega) ?_))
    rw [e7, em, en, ed, hA, hB, ea, eb, eX, eY]
    exact Ev.pos ha.1 (Ev.pos ha.2 (Ev.pos hb.1 (Ev.pos hb.2 (Ev.neg (by omega) (Ev.done rfl)))))
theorem pick_ev {s : List Int} (hs : RdS s) {p : Int} (h0 : 0 ≤ p) (h1 : p ≤ 1099511627776) {n : Int} (n0 : 1 ≤ n) (n1 : n ≤ 1000000) :
    ∃ v, (0 ≤ v ∧ v < n) ∧ Ev (fun k => spec_l6Rd_pick.f k s p n) (v, p + 1) := by
  obtain ⟨v, hv, he⟩ := pick_j0 s hs p h0 h1 n n0 n1
  refine ⟨v, hv, ?_⟩
  unfold spec_l6Rd_pick.f
  rw [w64 (by omega) (by omega)]
  exact Ev.neg (by omega) he
def kindL (c : Int) : List Int := (spec_l2Of.f 300 c).getD []
theorem five {P : Int → Prop} (h : ∀ i : Fin 5, P (i.val : Int)) (a : Int) (h0 : 0 ≤ a) (h1 : a < 5) : P a := by
  have := h ⟨a.toNat, by omega⟩
  simpa [Int.toNat_of_nonneg h0] using this
theorem kindL_some : ∀ i : Fin 5, spec_l2Of.f 300 (i.val : Int) = some (kindL (i.val : Int)) := by decide +kernel
theorem kindL_nines : ∀ i : Fin 5, ninesB (kindL (i.val : Int)) 81 = true := by decide +kernel
theorem kind_ev (c : Int) (h0 : 0 ≤ c) (h1 : c < 5) : Ev (fun k => spec_l2Of.f k c) (kindL c) :=
  Ev.of (fun k => spec_l2Of.mono c k) (five (P := fun c => spec_l2Of.f 300 c = some (kindL c)) kindL_some c h0 h1)
theorem kind_nines (c : Int) (h0 : 0 ≤ c) (h1 : c < 5) : ninesB (kindL c) 81 = true := five (P := fun c => ninesB (kindL c) 81 = true) kindL_nines c h0 h1
def DrawnT (t : List Int) : Prop := ∃ c : Int, 0 ≤ c ∧ c < 5 ∧ (t = kindL c ∨ (∃ i v : Int, 0 ≤ i ∧ i < 81 ∧ 0 ≤ v ∧ v < 9 ∧ t = (kindL c).set i.toNat v) ∨ t = (kindL c).take 80)
theorem DrawnT.len {t : List Int} (h : DrawnT t) : t.length ≤ 81 := by
  obtain ⟨c, c0, c1, h⟩ := h
  have hl := (ninesB_iff.1 (kind_nines c c0 c1)).1
  rcases h with rfl | ⟨i, v, _, _, _, _, rfl⟩ | rfl
  · omega
  · rw [List.length_set]; omega
  · rw [List.length_take]; omega
theorem system_ev {s : List Int} (hs : RdS s) {p : Int} (h0 : 0 ≤ p) (h1 : p ≤ 1099511000000) : ∃ t q, DrawnT t ∧ (p ≤ q ∧ q ≤ p + 5) ∧ Ev (fun k => spec_l91System.f k s p) (t, q) := by
  obtain ⟨c, hc, ec⟩ := pick_ev hs h0 (by omega) (n := 5) (by omega) (by omega)
  obtain ⟨a, ha, ea⟩ := pick_ev hs (p := p + 1) (by omega) (by omega) (n := 30) (by omega) (by omega)
  obtain ⟨i, hi, ei⟩ := pick_ev hs (p := p + 1 + 1) (by omega) (by omega) (n := 9) (by omega) (by omega)
  obtain ⟨j, hj, ej⟩ := pick_ev hs (p := p + 1 + 1 + 1) (by omega) (by omega) (n := 9) (by omega) (by omega)
  obtain ⟨v, hv, ev⟩ := pick_ev hs (p := p + 1 + 1 + 1 + 1) (by omega) (by omega) (n := 9) (by omega) (by omega)
  have hl := (ninesB_iff.1 (kind_nines c hc.1 hc.2)).1
  have ew : wrap64 (wrap64 (9 * i) + j) = 9 * i + j := by rw [w64 (x := 9 * i) (by omega) (by omega), w64 (by omega) (by omega)]
  by_cases e : a = 0
  · refine ⟨(kindL c).set (9 * i + j).toNat v, p + 1 + 1 + 1 + 1 + 1, ⟨c, hc.1, hc.2, .inr (.inl ⟨9 * i + j, v, by omega, by omega, hv.1, hv.2, rfl⟩)⟩, by omega, ?_⟩
    unfold spec_l91System.f
    refine Ev.bind ec (Ev.bind (kind_ev c hc.1 hc.2) (Ev.bind ea (Ev.pos e (Ev.bind ei (Ev.bind ej (Ev.bind ev ?_))))))
    dsimp only
    rw [ew]
    exact Ev.pos (by omega) (Ev.pos (by omega) (Ev.done rfl))
  by_cases e1 : a = 1
  · refine ⟨(kindL c).take 80, p + 1 + 1, ⟨c, hc.1, hc.2, .inr (.inr rfl)⟩, by omega, ?_⟩
    unfold spec_l91System.f
    refine Ev.bind ec (Ev.bind (kind_ev c hc.1 hc.2) (Ev.bind ea (Ev.neg e (Ev.pos e1 (Ev.pos ?_ (Ev.done rfl))))))
    omega
  · refine ⟨kindL c, p + 1 + 1, ⟨c, hc.1, hc.2, .inl rfl⟩, by omega, ?_⟩
    unfold spec_l91System.f
    exact Ev.bind ec (Ev.bind (kind_ev c hc.1 hc.2) (Ev.bind ea (Ev.neg e (Ev.neg e1 (Ev.done rfl)))))
end Go.Proofs.Ytcbkoecanldlpaa.X

set_option linter.unusedVariables false
set_option linter.unusedSimpArgs false
namespace Go.Proofs.Ytcbkoecanldlpaa.X
open Go.RowKit Go.Proofs.YtcbkoecanldlpaaW.PrintWords Go.Proofs.YtcbkoecanldlpaaW.PrintLast Go.Proofs.Ytcbkoecanldlpaa.P

theorem point_ev {s : List Int} (hs : RdS s) {p : Int} (h0 : 0 ≤ p) (h1 : p ≤ 1099511000000) : ∃ v q, (-1 ≤ v ∧ v ≤ 91) ∧ (p ≤ q ∧ q ≤ p + 3) ∧ Ev (fun k => spec_l91Point.f k s p) (v, q) := by
  obtain ⟨a, ha, ea⟩ := pick_ev hs h0 (by omega) (n := 30) (by omega) (by omega)
  obtain ⟨b, hb, eb⟩ := pick_ev hs (p := p + 1) (by omega) (by omega) (n := 2) (by omega) (by omega)
  obtain ⟨c, hc, ec⟩ := pick_ev hs (p := p + 1) (by omega) (by omega) (n := 4) (by omega) (by omega)
  obtain ⟨d, hd, ed⟩ := pick_ev hs (p := p + 1 + 1) (by omega) (by omega) (n := 10) (by omega) (by omega)
  obtain ⟨e, he, ee⟩ := pick_ev hs (p := p + 1 + 1) (by omega) (by omega) (n := 81) (by omega) (by omega)
  by_cases h : a = 0
  · refine ⟨rd [-1, 91] b, p + 1 + 1, ?_, by omega, ?_⟩
    · have : b = 0 ∨ b = 1 := by omega
      rcases this with rfl | rfl <;> decide
    · unfold spec_l91Point.f
      refine Ev.bind ea (Ev.pos h (Ev.fix rfl (Ev.bind eb ?_)))
      exact Ev.pos hb.1 (Ev.pos hb.2 (Ev.done rfl))
  by_cases h' : c = 0
  · refine ⟨81 + d, p + 1 + 1 + 1, by omega, by omega, ?_⟩
    unfold spec_l91Point.f
    refine Ev.bind ea (Ev.neg h (Ev.bind ec (Ev.pos h' (Ev.bind ed ?_))))
    dsimp only
    rw [w64 (x := 81 + d) (by omega) (by omega)]
    exact Ev.done rfl
  · refine ⟨e, p + 1 + 1 + 1, by omega, by omega, ?_⟩
    unfold spec_l91Point.f
    exact Ev.bind ea (Ev.neg h (Ev.bind ec (Ev.neg h' (Ev.bind ee (Ev.done rfl)))))
theorem quad_l0 {s : List Int} (hs : RdS s) (d : Nat) : ∀ (i p : Int) (l : List Int), 0 ≤ i → i + d = 4 → 0 ≤ p → p ≤ 1099510000000 + 3 * i → (l.length : Int) = i → (∀ x ∈ l, -1 ≤ x ∧ x ≤ 91) → ∃ l' q, l'.length = 4 ∧ (∀ x ∈ l', -1 ≤ x ∧ x ≤ 91) ∧ (p ≤ q ∧ q ≤ p + 3 * d) ∧ Ev (fun k => spec_l91Quad.l0 k l i s p) (l', q) := by
  induction d with
  | zero =>
    intro i p l i0 i1 p0 p1 hl ha
    refine ⟨l, p, by omega, ha, by omega, ?_⟩
    refine Ev.step (fun k => by rw [spec_l91Quad.l0]) ?_
    exact Ev.neg (by omega) (Ev.done rfl)
  | succ d ih =>
    intro i p l i0 i1 p0 p1 hl ha
    obtain ⟨v, q, hv, hq, ev⟩ := point_ev hs p0 (by omega)
    obtain ⟨l', q', h1, h2, h3, h4⟩ := ih (i + 1) q (l ++ [v]) (by omega) (by omega) (by omega) (by omega) (by rw [List.length_append, List.length_singleton]; omega) (fun x hx => by
      rcases List.mem_append.1 hx with h | h
      · exact ha x h
      · rw [List.mem_singleton.1 h]; exact hv)
    refine ⟨l', q', h1, h2, by omega, ?_⟩
    refine Ev.step (fun k => by rw [spec_l91Quad.l0]) ?_
    rw [w64 (x := i + 1) (by omega) (by omega)]
    exact Ev.pos (by omega) (Ev.bind ev (Ev.pos (by omega) h4))
theorem quad_ev {s : List Int} (hs : RdS s) {p : Int} (h0 : 0 ≤ p) (h1 : p ≤ 1099510000000) : ∃ l q, l.length = 4 ∧ (∀ x ∈ l, -1 ≤ x ∧ x ≤ 91) ∧ (p ≤ q ∧ q ≤ p + 12) ∧ Ev (fun k => spec_l91Quad.f k s p) (l, q) := by
  obtain ⟨l, q, a, b, c, d⟩ := quad_l0 hs 4 0 p [] (by omega) (by omega) h0 (by omega) rfl (fun x hx => by cases hx)
  exact ⟨l, q, a, b, by omega, d⟩
end Go.Proofs.Ytcbkoecanldlpaa.X

set_option linter.unusedVariables false
set_option linter.unusedSimpArgs false
namespace Go.Proofs.Ytcbkoecanldlpaa.X
open Go.RowKit Go.Proofs.YtcbkoecanldlpaaW.PrintWords Go.Proofs.YtcbkoecanldlpaaW.PrintLast Go.Proofs.Ytcbkoecanldlpaa.P

theorem l3In_eq (p : Int) : spec_l3In.f p = some (ptB p) := by
  unfold spec_l3In.f ptB
  rw [l6In_eq]
  show some _ = _
  rw [show decide (p ≤ 90) = decide (p < 91) from decide_eq_decide.2 (by omega)]
theorem l3On_eq {t : List Int} (hn : ninesB t 81 = true) {p l : Int} (hp : In91 p) (hl : In91 l) : spec_l3On.f t p l = some (onB t p l) := by
  obtain ⟨p0, p1⟩ := hp
  obtain ⟨l0, l1⟩ := hl
  have hlen := (ninesB_iff.1 hn).1
  unfold spec_l3On.f onB
  by_cases h90 : l = 90
  · rw [if_pos h90, if_pos h90]
  rw [if_neg h90, if_neg h90]
  by_cases h81 : l ≥ 81
  · rw [if_pos h81, if_pos h81]
    by_cases hp90 : p = 90
    · rw [if_pos hp90, decide_eq_true hp90]; rfl
    · rw [if_neg hp90, decide_eq_false hp90, Bool.false_or]
      by_cases hpn : p < 81
      · rw [if_pos hpn, decide_eq_true hpn, Bool.true_and]
        simp (disch := omega) only [w64, tdiv_nn]
        rfl
      · rw [if_neg hpn, decide_eq_false hpn, Bool.false_and]
  · rw [if_neg h81, if_neg h81]
    by_cases hpf : p ≥ 81
    · rw [if_pos hpf, if_pos hpf]
      simp (disch := omega) only [w64, tdiv_nn]
      refine congrArg some ?_
      rw [show decide (p = 81 + l / 9) = decide (p - 81 = l / 9) from decide_eq_decide.2 (by omega)]
      rfl
    · rw [if_neg hpf, if_neg hpf]
      have hr := nines_rd hn (i := 9 * (p / 9) + l / 9) (by omega) (by omega)
      have ha := spec_l1Add_eq (rd t (9 * (p / 9) + l / 9)) (l % 9) hr ⟨by omega, by omega⟩
      simp (disch := omega) only [w64, tdiv_nn, tmod_nn]
      rw [show p / 9 * 9 = 9 * (p / 9) by omega, if_pos (by omega), if_pos (by omega), ha]
      rfl
theorem l3Points_loop {t : List Int} (hn : ninesB t 81 = true) {l : Int} (hl : In91 l) (d : Nat) : ∀ (i : Nat), i + d = 91 → Ev (fun k => spec_l3Points.l0 k t l (filI i fun p => onB t p l) (i : Int)) (pointsL t l) := by
  induction d with
  | zero =>
    intro i h1
    have e : i = 91 := by omega
    subst e
    refine Ev.step (fun k => by rw [spec_l3Points.l0]) ?_
    exact Ev.neg (by omega) (Ev.done rfl)
  | succ d ih =>
    intro i h1
    have hlen := filI_length_le i fun p => onB t p l
    have e1 := l3On_eq hn (p := (i : Int)) ⟨by omega, by omega⟩ hl
    have nx := ih (i + 1) (by omega)
    rw [filI_succ] at nx
    have z : wrap64 ((i : Int) + 1) = ((i + 1 : Nat) : Int) := by rw [w64 (by omega) (by omega)]; rfl
    refine Ev.step (fun k => by rw [spec_l3Points.l0]) ?_
    rw [z]
    refine Ev.pos (by omega) (Ev.fix e1 ?_)
    by_cases a : onB t (i : Int) l = true
    · rw [if_pos a] at nx
      exact Ev.pos a (Ev.pos (by omega) nx)
    · rw [if_neg a, List.append_nil] at nx
      exact Ev.neg a nx
theorem l3Points_ev {t : List Int} (hn : ninesB t 81 = true) {l : Int} (hl : In91 l) : Ev (fun k => spec_l3Points.f k t l) (pointsL t l) :=
  l3Points_loop hn hl 91 0 (by omega)
theorem l3Join_loop {t : List Int} (hn : ninesB t 81 = true) {p q : Int} (hp : In91 p) (hq : In91 q) (hj : ∃ l : Int, 0 ≤ l ∧ l < 91 ∧ onB t p l = true ∧ onB t q l = true) (d : Nat) : ∀ (i : Int), 0 ≤ i → i + d = 91 → (∀ l : Int, 0 ≤ l → l < i → (onB t p l && onB t q l) = false) → Ev (fun k => spec_l3Join.l0 k t p q i) (joinI t p q) := by
  induction d with
  | zero =>
    intro i h0 h1 h
    obtain ⟨l, l0, l1, a, b⟩ := hj
    have := h l l0 (by omega)
    rw [a, b] at this; exact absurd this (by decide)
  | succ d ih =>
    intro i h0 h1 h
    have e1 := l3On_eq hn hp (l := i) ⟨h0, by omega⟩
    have e2 := l3On_eq hn hq (l := i) ⟨h0, by omega⟩
    refine Ev.step (fun k => by rw [spec_l3Join.l0]) ?_
    simp (disch := omega) only [w64, e1, e2, Option.bind_some]
    refine Ev.pos (by omega) ?_
    have next : (onB t p i && onB t q i) = false → Ev (fun k => spec_l3Join.l0 k t p q (i + 1)) (joinI t p q) := fun hb => ih (i + 1) (by omega) (by omega) fun l l0 l1 => by
      by_cases e : l = i
      · rw [e]; exact hb
      · exact h l l0 (by omega)
    by_cases a : onB t p i = true
    · refine Ev.pos a ?_
      by_cases b : onB t q i = true
      · refine Ev.pos b (Ev.done ?_)
        unfold joinI
        rw [firstI_some i h0 (by omega) (by rw [a, b]; rfl) h]
      · exact Ev.neg b (next (by rw [Bool.eq_false_iff.2 b, Bool.and_false]))
    · exact Ev.neg a (next (by rw [Bool.eq_false_iff.2 a, Bool.false_and]))
theorem l3Join_ev {t : List Int} (h : sysB t = true) {p q : Int} (hp : In91 p) (hq : In91 q) (hne : p ≠ q) : Ev (fun k => spec_l3Join.f k t p q) (joinI t p q) :=
  l3Join_loop (sysB_parts h).1 hp hq (join_ex h hp.1 hp.2 hq.1 hq.2 hne) 91 0 (by omega) (by omega) (fun l h0 h1 => by omega)
end Go.Proofs.Ytcbkoecanldlpaa.X

set_option linter.unusedVariables false
set_option linter.unusedSimpArgs false
namespace Go.Proofs.Ytcbkoecanldlpaa.X
open Go.RowKit Go.Proofs.YtcbkoecanldlpaaW.PrintWords Go.Proofs.YtcbkoecanldlpaaW.PrintLast Go.Proofs.Ytcbkoecanldlpaa.P

def pjoinR (t : List Int) (p q : Int) : Int × Bool := if jokB t p q = true then (joinI t p q, true) else (0, false)
theorem planeJoin_ev {t : List Int} (ht : t.length ≤ 1048576) (p q : Int) : Ev (fun k => spec_PlaneJoin.f k t p q) (pjoinR t p q) := by
  unfold spec_PlaneJoin.f pjoinR
  refine Ev.bind (SystemIn_ev t ht) ?_
  by_cases hs : sysB t = true
  case neg => rw [if_neg (fun h => hs (jokB_iff.1 h).1)]; exact Ev.neg hs (Ev.done rfl)
  refine Ev.pos hs (Ev.fix (l3In_eq p) ?_)
  by_cases hp : ptB p = true
  case neg => rw [if_neg (fun h => hp (ptB_iff.2 (jokB_iff.1 h).2.1))]; exact Ev.neg hp (Ev.done rfl)
  refine Ev.pos hp (Ev.fix (l3In_eq q) ?_)
  by_cases hq : ptB q = true
  case neg => rw [if_neg (fun h => hq (ptB_iff.2 (jokB_iff.1 h).2.2.1))]; exact Ev.neg hq (Ev.done rfl)
  refine Ev.pos hq ?_
  by_cases e : p = q
  case pos => rw [if_neg (fun h => (jokB_iff.1 h).2.2.2 e)]; exact Ev.pos e (Ev.done rfl)
  rw [if_pos (jokB_iff.2 ⟨hs, ptB_iff.1 hp, ptB_iff.1 hq, e⟩)]
  exact Ev.neg e (Ev.bind (l3Join_ev hs (ptB_iff.1 hp) (ptB_iff.1 hq) e) (Ev.done rfl))
theorem on_ev {s : List Int} (hs : RdS s) {p : Int} (h0 : 0 ≤ p) (h1 : p ≤ 1099511000000) {t : List Int} (ht : sysB t = true) {l : Int} (hl : In91 l) : ∃ v q, (p ≤ q ∧ q ≤ p + 1) ∧ Ev (fun k => spec_l91On.f k s p t l) (v, q) := by
  have h2 := pointsL_two ht hl.1 hl.2
  have h3 : (pointsL t l).length ≤ 91 := filI_length_le _ _
  obtain ⟨a, ha, ea⟩ := pick_ev hs h0 (by omega) (n := ((pointsL t l).length : Int)) (by omega) (by omega)
  refine ⟨rd (pointsL t l) a, p + 1, by omega, ?_⟩
  unfold spec_l91On.f
  exact Ev.bind (l3Points_ev (sysB_parts ht).1 hl) (Ev.neg (by omega) (Ev.bind ea (Ev.pos ha.1 (Ev.pos ha.2 (Ev.done rfl)))))
theorem dtwin_l0 {s : List Int} (hs : RdS s) {t : List Int} (ht : t.length ≤ 1048576) (d : Nat) : ∀ (i p : Int) (l : List Int), 1 ≤ i → i + d = 4 → 0 ≤ p → p ≤ 1099510000000 + 4 * i → (l.length : Int) = i + 3 → ∃ l', l'.length = 7 ∧ Ev (fun k => spec_l91Twin.l0 k t l i s p) (t, l') := by
  induction d with
  | zero =>
    intro i p l i0 i1 p0 p1 hl
    refine ⟨l, by omega, ?_⟩
    refine Ev.step (fun k => by rw [spec_l91Twin.l0]) ?_
    exact Ev.neg (by omega) (Ev.done rfl)
  | succ d ih =>
    intro i p l i0 i1 p0 p1 hl
    have pre : ∀ r, Ev (fun k => (spec_PlaneJoin.f k t (rd l 0) (rd l i)).bind fun bt669 => ((spec_l6Rd_pick.f k s p 91).bind fun bt671 => (if bt669.2 = true then ((spec_l6Rd_pick.f k s bt671.2 20).bind fun bt673 => (if bt673.1 > 0 then ((spec_l91On.f k s bt673.2 t bt669.1).bind fun bt675 => (if l.length < 17592186044416 then (spec_l91Twin.l0 k t (l ++ [bt675.1]) (i + 1) s bt675.2) else (none))) else (if l.length < 17592186044416 then (spec_l91Twin.l0 k t (l ++ [bt671.1]) (i + 1) s bt673.2) else (none)))) else (if l.length < 17592186044416 then (spec_l91Twin.l0 k t (l ++ [bt671.1]) (i + 1) s bt671.2) else (none))))) r → Ev (fun k => spec_l91Twin.l0 k t l i s p) r := by
      intro r h
      refine Ev.step (fun k => by rw [spec_l91Twin.l0]) ?_
      rw [w64 (x := i + 1) (by omega) (by omega)]
      exact Ev.pos (by omega) (Ev.pos (by omega) (Ev.pos (by omega) (Ev.pos (by omega) h)))
    obtain ⟨a, ha, ea⟩ := pick_ev hs p0 (by omega) (n := 91) (by omega) (by omega)
    obtain ⟨b, hb, eb⟩ := pick_ev hs (p := p + 1) (by omega) (by omega) (n := 20) (by omega) (by omega)
    have hj := planeJoin_ev ht (rd l 0) (rd l i)
    unfold pjoinR at hj
    have hlen : ∀ v : Int, (((l ++ [v]).length : Nat) : Int) = i + 1 + 3 := fun v => by rw [List.length_append, List.length_singleton]; omega
    by_cases c : jokB t (rd l 0) (rd l i) = true
    case neg =>
      rw [if_neg c] at hj
      obtain ⟨l', h7, h⟩ := ih (i + 1) (p + 1) (l ++ [a]) (by omega) (by omega) (by omega) (by omega) (hlen a)
      exact ⟨l', h7, pre _ (Ev.bind hj (Ev.bind ea (Ev.neg (by decide) (Ev.pos (by omega) h))))⟩
    rw [if_pos c] at hj
    have c := jokB_iff.1 c
    by_cases e : b > 0
    · have hjs := joinI_spec c.1 c.2.1.1 c.2.1.2 c.2.2.1.1 c.2.2.1.2 c.2.2.2
      obtain ⟨v, q, hq, eo⟩ := on_ev hs (p := p + 1 + 1) (by omega) (by omega) c.1 (l := joinI t (rd l 0) (rd l i)) ⟨hjs.1, hjs.2.1⟩
      obtain ⟨l', h7, h⟩ := ih (i + 1) q (l ++ [v]) (by omega) (by omega) (by omega) (by omega) (hlen v)
      exact ⟨l', h7, pre _ (Ev.bind hj (Ev.bind ea (Ev.pos rfl (Ev.bind eb (Ev.pos e (Ev.bind eo (Ev.pos (by omega) h)))))))⟩
    · obtain ⟨l', h7, h⟩ := ih (i + 1) (p + 1 + 1) (l ++ [a]) (by omega) (by omega) (by omega) (by omega) (hlen a)
      exact ⟨l', h7, pre _ (Ev.bind hj (Ev.bind ea (Ev.pos rfl (Ev.bind eb (Ev.neg e (Ev.pos (by omega) h))))))⟩
theorem dtwin_ev (l0 : List Int) (hu : ∀ x ∈ l0, (Lit.int .u8 x).wf = true) : ∃ t x, DrawnT t ∧ x.length = 7 ∧ Ev (fun k => spec_l91Twin.f k l0) (t, x) := by
  obtain ⟨s, hs, eo⟩ := open_ev l0 hu
  obtain ⟨t, q, ht, hq, et⟩ := system_ev hs (p := 0) (by omega) (by omega)
  obtain ⟨l, q1, hl, _, hq1, el⟩ := quad_ev hs (p := q) (by omega) (by omega)
  obtain ⟨a, ha, ea⟩ := pick_ev hs (p := q1) (by omega) (by omega) (n := 4) (by omega) (by omega)
  obtain ⟨b, hb, eb⟩ := pick_ev hs (p := q1 + 1) (by omega) (by omega) (n := 10) (by omega) (by omega)
  have htl := ht.len
  by_cases e : a = 0
  · obtain ⟨x, hx, hev⟩ := dtwin_l0 hs (t := t) (by omega) 3 1 (q1 + 1 + 1) (l.set (0 : Int).toNat (81 + b)) (by omega) (by omega) (by omega) (by omega) (by rw [List.length_set]; omega)
    refine ⟨t, x, ht, hx, ?_⟩
    unfold spec_l91Twin.f
    refine Ev.fix eo (Ev.bind et (Ev.bind el (Ev.bind ea (Ev.pos e (Ev.bind eb (Ev.pos (by dsimp only; omega) ?_))))))
    dsimp only
    rw [w64 (x := 81 + b) (by omega) (by omega)]
    refine Ev.step (fun k => by rw [spec_l91Twin.j0]) ?_
    exact hev
  · obtain ⟨x, hx, hev⟩ := dtwin_l0 hs (t := t) (by omega) 3 1 (q1 + 1) l (by omega) (by omega) (by omega) (by omega) (by omega)
    refine ⟨t, x, ht, hx, ?_⟩
    unfold spec_l91Twin.f
    refine Ev.fix eo (Ev.bind et (Ev.bind el (Ev.bind ea (Ev.neg e ?_))))
    refine Ev.step (fun k => by rw [spec_l91Twin.j0]) ?_
    exact hev
end Go.Proofs.Ytcbkoecanldlpaa.X

set_option linter.unusedVariables false
set_option linter.unusedSimpArgs false
namespace Go.Proofs.Ytcbkoecanldlpaa.X
open Go.RowKit Go.Proofs.YtcbkoecanldlpaaW.PrintWords

def threeB (t : List Int) (p q r : Int) : Bool := onB t r (joinI t p q)
def crossI (t : List Int) (p q r s : Int) : Int := meetI t (joinI t p q) (joinI t r s)
def lnI (t x : List Int) (i : Int) : Int := joinI t (rd x 0) (rd x i)
def twinC (t x : List Int) : Bool := onB t (rd x 4) (lnI t x 1) && (onB t (rd x 5) (lnI t x 2) && onB t (rd x 6) (lnI t x 3))
def twinD (t x : List Int) : Bool := !decide (lnI t x 1 = lnI t x 2) && (!decide (lnI t x 1 = lnI t x 3) && !decide (lnI t x 2 = lnI t x 3))
def twinE (t x : List Int) : Bool := !threeB t (rd x 1) (rd x 2) (rd x 3) && !threeB t (rd x 4) (rd x 5) (rd x 6)
def twinB (t x : List Int) : Bool := sysB t && (decide (x.length = 7) && (diffB x && (twinC t x && (twinD t x && twinE t x))))
def twinP (t x : List Int) : List Int := [crossI t (rd x 1) (rd x 2) (rd x 4) (rd x 5), crossI t (rd x 1) (rd x 3) (rd x 4) (rd x 6), crossI t (rd x 2) (rd x 3) (rd x 5) (rd x 6)]
structure Twin (t x : List Int) : Prop where
  sys : sysB t = true
  len : x.length = 7
  df : diffB x = true
  c : ∀ i : Int, 1 ≤ i → i ≤ 3 → onB t (rd x (i + 3)) (lnI t x i) = true
  d : ∀ i j : Int, 1 ≤ i → i < j → j ≤ 3 → lnI t x i ≠ lnI t x j
  e1 : threeB t (rd x 1) (rd x 2) (rd x 3) = false
  e2 : threeB t (rd x 4) (rd x 5) (rd x 6) = false
theorem twinB_iff {t x : List Int} : twinB t x = true ↔ Twin t x := by
  unfold twinB twinC twinD twinE
  simp only [Bool.and_eq_true, Bool.not_eq_true', decide_eq_true_eq, decide_eq_false_iff_not]
  constructor
  · rintro ⟨h1, h2, h3, ⟨h4, h5, h6⟩, ⟨h7, h8, h9⟩, h10, h11⟩
    refine ⟨h1, h2, h3, fun i i0 i1 => ?_, fun i j i0 ij j1 => ?_, h10, h11⟩
    · have : i = 1 ∨ i = 2 ∨ i = 3 := by omega
      rcases this with rfl | rfl | rfl
      · exact h4
      · exact h5
      · exact h6
    · have : (i = 1 ∧ j = 2) ∨ (i = 1 ∧ j = 3) ∨ (i = 2 ∧ j = 3) := by omega
      rcases this with ⟨rfl, rfl⟩ | ⟨rfl, rfl⟩ | ⟨rfl, rfl⟩
      · exact h7
      · exact h8
      · exact h9
  · intro T
    exact ⟨T.sys, T.len, T.df, ⟨T.c 1 (by omega) (by omega), T.c 2 (by omega) (by omega), T.c 3 (by omega) (by omega)⟩, ⟨T.d 1 2 (by omega) (by omega) (by omega), T.d 1 3 (by omega) (by omega) (by omega), T.d 2 3 (by omega) (by omega) (by omega)⟩, T.e1, T.e2⟩
namespace Twin
variable {t x : List Int} (T : Twin t x)
include T
theorem pt {i : Int} (i0 : 0 ≤ i) (i1 : i < 7) : In91 (rd x i) := diffB_pt T.df i0 (by have := T.len; omega)
theorem ne {i j : Int} (i0 : 0 ≤ i) (i1 : i < 7) (j0 : 0 ≤ j) (j1 : j < 7) (h : i ≠ j) : rd x i ≠ rd x j := fun e => h (diffB_inj T.df i0 (by have := T.len; omega) j0 (by have := T.len; omega) e)
theorem ln {i : Int} (i0 : 1 ≤ i) (i1 : i < 7) : In91 (lnI t x i) ∧ onB t (rd x 0) (lnI t x i) = true ∧ onB t (rd x i) (lnI t x i) = true := by
  have a := T.pt (i := 0) (by omega) (by omega)
  have b := T.pt (i := i) (by omega) i1
  have h := joinI_spec T.sys a.1 a.2 b.1 b.2 (T.ne (by omega) (by omega) (by omega) i1 (by omega))
  exact ⟨⟨h.1, h.2.1⟩, h.2.2.1, h.2.2.2⟩
theorem jn {i j : Int} (i0 : 0 ≤ i) (i1 : i < 7) (j0 : 0 ≤ j) (j1 : j < 7) (h : i ≠ j) : In91 (joinI t (rd x i) (rd x j)) ∧ onB t (rd x i) (joinI t (rd x i) (rd x j)) = true ∧ onB t (rd x j) (joinI t (rd x i) (rd x j)) = true := by
  have a := T.pt i0 i1
  have b := T.pt j0 j1
  have h := joinI_spec T.sys a.1 a.2 b.1 b.2 (T.ne i0 i1 j0 j1 h)
  exact ⟨⟨h.1, h.2.1⟩, h.2.2.1, h.2.2.2⟩
theorem ln2 {i : Int} (i0 : 1 ≤ i) (i1 : i ≤ 3) : lnI t x (i + 3) = lnI t x i := by
  have a := T.pt (i := 0) (by omega) (by omega)
  have b := T.pt (i := i + 3) (by omega) (by omega)
  obtain ⟨l, h1, h2⟩ := T.ln i0 (by omega)
  exact joinI_eq T.sys a.1 a.2 b.1 b.2 (T.ne (by omega) (by omega) (by omega) (by omega) (by omega)) l.1 l.2 h1 (T.c i i0 i1)
theorem apart {i j : Int} (i0 : 1 ≤ i) (ij : i < j) (j1 : j ≤ 3) : joinI t (rd x i) (rd x j) ≠ joinI t (rd x (i + 3)) (rd x (j + 3)) := by
  intro e
  obtain ⟨l, h1, h2⟩ := T.jn (i := i) (j := j) (by omega) (by omega) (by omega) (by omega) (by omega)
  obtain ⟨_, h3, h4⟩ := T.jn (i := i + 3) (j := j + 3) (by omega) (by omega) (by omega) (by omega) (by omega)
  rw [← e] at h3 h4
  have key : ∀ k : Int, 1 ≤ k → k ≤ 3 → onB t (rd x k) (joinI t (rd x i) (rd x j)) = true → onB t (rd x (k + 3)) (joinI t (rd x i) (rd x j)) = true → joinI t (rd x i) (rd x j) = lnI t x k := by
    intro k k0 k1 a b
    obtain ⟨m, g1, g2⟩ := T.ln k0 (by omega)
    have p := T.pt (i := k) (by omega) (by omega)
    have q := T.pt (i := k + 3) (by omega) (by omega)
    exact join_uniq T.sys p.1 p.2 q.1 q.2 (T.ne (by omega) (by omega) (by omega) (by omega) (by omega)) l.1 l.2 m.1 m.2 a b g2 (T.c k k0 k1)
  exact T.d i j i0 ij j1 ((key i i0 (by omega) h1 h3).symm.trans (key j (by omega) j1 h2 h4))
theorem cr {i j : Int} (i0 : 1 ≤ i) (ij : i < j) (j1 : j ≤ 3) : In91 (crossI t (rd x i) (rd x j) (rd x (i + 3)) (rd x (j + 3))) ∧ onB t (crossI t (rd x i) (rd x j) (rd x (i + 3)) (rd x (j + 3))) (joinI t (rd x i) (rd x j)) = true ∧ onB t (crossI t (rd x i) (rd x j) (rd x (i + 3)) (rd x (j + 3))) (joinI t (rd x (i + 3)) (rd x (j + 3))) = true := by
  have a := (T.jn (i := i) (j := j) (by omega) (by omega) (by omega) (by omega) (by omega)).1
  have b := (T.jn (i := i + 3) (j := j + 3) (by omega) (by omega) (by omega) (by omega) (by omega)).1
  have h := meetI_spec T.sys a.1 a.2 b.1 b.2 (T.apart i0 ij j1)
  exact ⟨⟨h.1, h.2.1⟩, h.2.2⟩
end Twin
def swapL (x : List Int) : List Int := [rd x 0, rd x 4, rd x 5, rd x 6, rd x 1, rd x 2, rd x 3]
def swapI (i : Int) : Int := if i = 0 then 0 else if i < 4 then i + 3 else i - 3
theorem swapL_rd (x : List Int) {i : Int} (i0 : 0 ≤ i) (i1 : i < 7) : rd (swapL x) i = rd x (swapI i) := by
  have : i = 0 ∨ i = 1 ∨ i = 2 ∨ i = 3 ∨ i = 4 ∨ i = 5 ∨ i = 6 := by omega
  rcases this with rfl | rfl | rfl | rfl | rfl | rfl | rfl <;> rfl
theorem swapI_in {i : Int} (i0 : 0 ≤ i) (i1 : i < 7) : 0 ≤ swapI i ∧ swapI i < 7 := by unfold swapI; split <;> (try split) <;> omega
theorem swapI_ne {i j : Int} (i0 : 0 ≤ i) (ij : i < j) (j1 : j < 7) : swapI i ≠ swapI j := by unfold swapI; split <;> split <;> (try split) <;> (try split) <;> omega
theorem Twin.swap {t x : List Int} (T : Twin t x) : Twin t (swapL x) := by
  have hl : ∀ i : Int, 1 ≤ i → i ≤ 3 → lnI t (swapL x) i = lnI t x i := fun i i0 i1 => by
    have h := T.ln2 i0 i1
    unfold lnI at h ⊢
    rw [swapL_rd x (i := i) (by omega) (by omega), show rd (swapL x) 0 = rd x 0 from rfl]
    have : swapI i = i + 3 := by unfold swapI; rw [if_neg (by omega), if_pos (by omega)]
    rw [this, h]
  refine ⟨T.sys, rfl, ?_, fun i i0 i1 => ?_, fun i j i0 ij j1 => ?_, T.e2, T.e1⟩
  · refine diffB_of (fun i i0 i1 => ?_) fun i j i0 ij j1 => ?_
    · have i1 : i < 7 := i1
      rw [swapL_rd x i0 i1]
      have := swapI_in i0 i1
      exact T.pt this.1 this.2
    · have j1 : j < 7 := j1
      rw [swapL_rd x i0 (by omega), swapL_rd x (by omega) j1]
      have a := swapI_in i0 (by omega)
      have b := swapI_in (i := j) (by omega) j1
      exact T.ne a.1 a.2 b.1 b.2 (swapI_ne i0 ij j1)
  · rw [hl i i0 i1, swapL_rd x (i := i + 3) (by omega) (by omega)]
    have : swapI (i + 3) = i := by unfold swapI; rw [if_neg (by omega), if_neg (by omega)]; omega
    rw [this]
    exact (T.ln i0 (by omega)).2.2
  · rw [hl i i0 (by omega), hl j (by omega) j1]
    exact T.d i j i0 ij j1
theorem crossI_comm (t : List Int) (p q r s : Int) : crossI t p q r s = crossI t r s p q := meetI_comm _ _ _
theorem twinP_swap (t x : List Int) : twinP t (swapL x) = twinP t x := by
  unfold twinP
  show [crossI t (rd x 4) (rd x 5) (rd x 1) (rd x 2), crossI t (rd x 4) (rd x 6) (rd x 1) (rd x 3), crossI t (rd x 5) (rd x 6) (rd x 2) (rd x 3)] = _
  rw [crossI_comm t (rd x 4) (rd x 5), crossI_comm t (rd x 4) (rd x 6), crossI_comm t (rd x 5) (rd x 6)]
end Go.Proofs.Ytcbkoecanldlpaa.X

set_option linter.unusedVariables false
set_option linter.unusedSimpArgs false
namespace Go.Proofs.Ytcbkoecanldlpaa.X
open Go.RowKit Go.Proofs.YtcbkoecanldlpaaW.PrintWords Go.Proofs.YtcbkoecanldlpaaW.PrintLast Go.Proofs.Ytcbkoecanldlpaa.P

theorem l3Meet_loop {t : List Int} (hn : ninesB t 81 = true) {l m : Int} (hl : In91 l) (hm : In91 m) (hj : ∃ p : Int, 0 ≤ p ∧ p < 91 ∧ onB t p l = true ∧ onB t p m = true) (d : Nat) : ∀ (i : Int), 0 ≤ i → i + d = 91 → (∀ p : Int, 0 ≤ p → p < i → (onB t p l && onB t p m) = false) → Ev (fun k => spec_l3Meet.l0 k t l m i) (meetI t l m) := by
  induction d with
  | zero =>
    intro i h0 h1 h
    obtain ⟨p, p0, p1, a, b⟩ := hj
    have := h p p0 (by omega)
    rw [a, b] at this; exact absurd this (by decide)
  | succ d ih =>
    intro i h0 h1 h
    have e1 := l3On_eq hn (p := i) ⟨h0, by omega⟩ hl
    have e2 := l3On_eq hn (p := i) ⟨h0, by omega⟩ hm
    refine Ev.step (fun k => by rw [spec_l3Meet.l0]) ?_
    simp (disch := omega) only [w64, e1, e2, Option.bind_some]
    refine Ev.pos (by omega) ?_
    have next : (onB t i l && onB t i m) = false → Ev (fun k => spec_l3Meet.l0 k t l m (i + 1)) (meetI t l m) := fun hb => ih (i + 1) (by omega) (by omega) fun p p0 p1 => by
      by_cases e : p = i
      · rw [e]; exact hb
      · exact h p p0 (by omega)
    by_cases a : onB t i l = true
    · refine Ev.pos a ?_
      by_cases b : onB t i m = true
      · refine Ev.pos b (Ev.done ?_)
        unfold meetI
        rw [firstI_some i h0 (by omega) (by rw [a, b]; rfl) h]
      · exact Ev.neg b (next (by rw [Bool.eq_false_iff.2 b, Bool.and_false]))
    · exact Ev.neg a (next (by rw [Bool.eq_false_iff.2 a, Bool.false_and]))
theorem l3Meet_ev {t : List Int} (h : sysB t = true) {l m : Int} (hl : In91 l) (hm : In91 m) (hne : l ≠ m) : Ev (fun k => spec_l3Meet.f k t l m) (meetI t l m) :=
  l3Meet_loop (sysB_parts h).1 hl hm (meet_ex h hl.1 hl.2 hm.1 hm.2 hne) 91 0 (by omega) (by omega) (fun p h0 h1 => by omega)
end Go.Proofs.Ytcbkoecanldlpaa.X

set_option linter.unusedVariables false
set_option linter.unusedSimpArgs false
namespace Go.Proofs.Ytcbkoecanldlpaa.X
open Go.RowKit Go.Proofs.YtcbkoecanldlpaaW.PrintWords Go.Proofs.YtcbkoecanldlpaaW.PrintLast Go.Proofs.Ytcbkoecanldlpaa.P

theorem meet_loop {t : List Int} (hn : ninesB t 81 = true) {l m : Int} (hl : In91 l) (hm : In91 m) (d : Nat) : ∀ (i : Int), 0 ≤ i → i + d = 91 → (∀ p : Int, 0 ≤ p → p < i → (onB t p l && onB t p m) = false) → Ev (fun k => impl_plane_meet.l0 k t l m i) (meetI t l m) := by
  induction d with
  | zero =>
    intro i h0 h1 h
    refine Ev.step (fun k => by rw [impl_plane_meet.l0]) ?_
    refine Ev.neg (by omega) (Ev.done ?_)
    unfold meetI
    rw [firstI_none fun p p0 p1 => h p p0 (by omega)]
  | succ d ih =>
    intro i h0 h1 h
    have e1 := plane_on_eq hn (p := i) ⟨h0, by omega⟩ hl
    have e2 := plane_on_eq hn (p := i) ⟨h0, by omega⟩ hm
    refine Ev.step (fun k => by rw [impl_plane_meet.l0]) ?_
    simp (disch := omega) only [w64, e1, e2, Option.bind_some]
    refine Ev.pos (by omega) ?_
    have next : (onB t i l && onB t i m) = false → Ev (fun k => impl_plane_meet.l0 k t l m (i + 1)) (meetI t l m) := fun hb => ih (i + 1) (by omega) (by omega) fun p p0 p1 => by
      by_cases e : p = i
      · rw [e]; exact hb
      · exact h p p0 (by omega)
    by_cases a : onB t i l = true
    · refine Ev.pos a ?_
      by_cases b : onB t i m = true
      · refine Ev.pos b (Ev.done ?_)
        unfold meetI
        rw [firstI_some i h0 (by omega) (by rw [a, b]; rfl) h]
      · exact Ev.neg b (next (by rw [Bool.eq_false_iff.2 b, Bool.and_false]))
    · exact Ev.neg a (next (by rw [Bool.eq_false_iff.2 a, Bool.false_and]))
theorem meet_ev {t : List Int} (hn : ninesB t 81 = true) {l m : Int} (hl : In91 l) (hm : In91 m) : Ev (fun k => impl_plane_meet.f k t l m) (meetI t l m) :=
  meet_loop hn hl hm 91 0 (by omega) (by omega) (fun p h0 h1 => by omega)
end Go.Proofs.Ytcbkoecanldlpaa.X

set_option linter.unusedVariables false
set_option linter.unusedSimpArgs false
namespace Go.Proofs.Ytcbkoecanldlpaa.X
open Go.RowKit Go.Proofs.YtcbkoecanldlpaaW.PrintWords Go.Proofs.YtcbkoecanldlpaaW.PrintLast Go.Proofs.Ytcbkoecanldlpaa.P

theorem crossing_ev {t : List Int} (hs : sysB t = true) {p q r s : Int} (hp : In91 p) (hq : In91 q) (hr : In91 r) (hz : In91 s) (h1 : p ≠ q) (h2 : r ≠ s) : Ev (fun k => impl_plane_crossing.f k t p q r s) (crossI t p q r s) := by
  have hn := (sysB_parts hs).1
  have a := joinI_spec hs hp.1 hp.2 hq.1 hq.2 h1
  have b := joinI_spec hs hr.1 hr.2 hz.1 hz.2 h2
  unfold impl_plane_crossing.f
  exact Ev.bind (join_ev hn hp hq) (Ev.bind (join_ev hn hr hz) (Ev.bind (meet_ev hn ⟨a.1, a.2.1⟩ ⟨b.1, b.2.1⟩) (Ev.done rfl)))
end Go.Proofs.Ytcbkoecanldlpaa.X

namespace Go.Proofs.Ytcbkoecanldlpaa.P
open Go.RowKit Go.Proofs.YtcbkoecanldlpaaW.PrintWords Go.Proofs.YtcbkoecanldlpaaW.PrintLast
set_option linter.unusedVariables false
set_option linter.unusedSimpArgs false

def impl_TwinIn.f (k : Nat) (l0 : List Int) (l1 : List Int) : Option (Bool) := (impl_isSystem.f l0).bind fun t269 => (if t269 = true then ((impl_plane_isTwin.f k l0 l1).bind fun t270 => (some t270)) else (some false))
set_option maxHeartbeats 8000000 in
set_option maxRecDepth 100000 in
theorem impl_TwinIn.calls (k : Nat) (A0 : Option Addr) (c0 : Nat) (l0 : List Int) (A1 : Option Addr) (c1 : Nat) (l1 : List Int) (r : Bool) (w : World) (hr0 : Kd.C (Kd.int .i64) w A0 l0.length l0) (hc0 : l0.length ≤ c0) (hr1 : Kd.C (Kd.int .i64) w A1 l1.length l1) (hc1 : l1.length ≤ c1) (h : impl_TwinIn.f k l0 l1 = some r) :
  Calls Try.prog 16 #[.slice A0 l0.length c0, .slice A1 l1.length c1] w fun e w' => e = .returned (.bool r) ∧ Below w.heap.size w w' := by
 have HR0 := Aside0.mk hr0
 have HC0 := Aside0.mk hc0
 clear hr0 hc0
 have HR1 := Aside0.mk hr1
 have HC1 := Aside0.mk hc1
 clear hr1 hc1
 have HB := Aside0.mk (Below.refl w.heap.size w)
 have H : ((impl_isSystem.f l0).bind fun t269 => (if t269 = true then ((impl_plane_isTwin.f k l0 l1).bind fun t270 => (some t270)) else (some false))) = some r := h
 clear h
 replace H := Option.bind_eq_some_iff.mp H
 obtain ⟨t269, A30, H⟩ := H
 replace H : (if t269 = true then ((impl_plane_isTwin.f k l0 l1).bind fun t270 => (some t270)) else (some false)) = some r := H
 have A3 := Aside0.mk A30
 clear A30
 by_cases c4 : t269 = true
 ·subst c4
  have H1 : ((impl_plane_isTwin.f k l0 l1).bind fun t270 => (some t270)) = some r := by rw [if_pos rfl] at H; exact H
  clear H
  have H := H1
  clear H1
  replace H := Option.bind_eq_some_iff.mp H
  obtain ⟨t270, A50, H⟩ := H
  replace H : (some t270) = some r := H
  have A5 := Aside0.mk A50
  clear A50
  obtain rfl := Option.some.inj H
  go_enter Try.func16, Try.ntmps16
  go_wp2_with (first | (refine goesL_ (some 6) rfl rfl Try.func61 (by kernel_rfl) rfl #[.slice A0 l0.length c0] rfl ll_ ?_; (with_reducible refine (impl_isSystem.calls _ _ l0 true _ ?side1 ?side2 A3.out).mono ?_); (case side1 => exact ss_ HR0); (case side2 => exact HC0.out); rintro e w6 ⟨rfl, hb⟩; refine ⟨_, rfl, ?_⟩; have n0_ := Aside0.mk (below_step (bb_ HB) hb); clear HB; have HB := n0_; clear n0_; (try clear hb); (try clear hb2); (try clear hk); (try clear hi)) | (go_at_call 62; (with_reducible refine (impl_plane_isTwin.calls k _ _ l0 _ _ l1 t270 _ ?side1 ?side2 ?side3 ?side4 A5.out).mono ?_); (case side1 => exact sb_ HR0 HB); (case side2 => exact HC0.out); (case side3 => exact sb_ HR1 HB); (case side4 => exact HC1.out); rintro e w7 ⟨rfl, hb⟩; have n0_ := Aside0.mk (below_step (bb_ HB) hb); clear HB; have HB := n0_; clear n0_; (try clear hb); (try clear hb2); (try clear hk); (try clear hi)))
  go_ret
  exact ⟨ee_, bb_ HB⟩
 ·replace c4 := Bool.eq_false_iff.mpr c4
  subst c4
  have H1 : (some false) = some r := by rw [if_neg (show ¬ (false = true) by decide)] at H; exact H
  clear H
  have H := H1
  clear H1
  obtain rfl := Option.some.inj H
  go_enter Try.func16, Try.ntmps16
  go_wp2_with (first | (refine goesL_ (some 6) rfl rfl Try.func61 (by kernel_rfl) rfl #[.slice A0 l0.length c0] rfl ll_ ?_; (with_reducible refine (impl_isSystem.calls _ _ l0 false _ ?side1 ?side2 A3.out).mono ?_); (case side1 => exact ss_ HR0); (case side2 => exact HC0.out); rintro e w8 ⟨rfl, hb⟩; refine ⟨_, rfl, ?_⟩; have n0_ := Aside0.mk (below_step (bb_ HB) hb); clear HB; have HB := n0_; clear n0_; (try clear hb); (try clear hb2); (try clear hk); (try clear hi)))
  go_ret
  exact ⟨ee_, bb_ HB⟩
end Go.Proofs.Ytcbkoecanldlpaa.P
