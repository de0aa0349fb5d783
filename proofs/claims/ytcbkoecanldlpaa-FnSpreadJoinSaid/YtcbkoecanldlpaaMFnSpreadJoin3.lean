/- The law FnSpreadJoin of the given program: for every input the call returns true, and each argument reads afterwards as it read before. No conditions. (Part 4 of 5; the last part holds the theorem.) -/
import Derived.Test.YtcbkoecanldlpaaMFnSpreadJoin0
import Derived.Test.YtcbkoecanldlpaaMFnSpreadJoin1
import Derived.Test.YtcbkoecanldlpaaMFnSpreadJoin2
namespace Go.Proofs.Ytcbkoecanldlpaa.P
open Go.RowKit Go.Proofs.YtcbkoecanldlpaaW.PrintWords Go.Proofs.YtcbkoecanldlpaaW.PrintLast Go.Proofs.YtcbkoecanldlpaaW.PrintMore
set_option linter.unusedVariables false
set_option linter.unusedSimpArgs false

def spec_l91Spread.j0 : Nat → List (List Int) → List Int → Int → Option ((List (List Int)) × Int)
 | 0, _, _, _ => none
 | k + 1, x3, x1000, x1001 => (spec_l6Rd_pick.f k x1000 x1001 24).bind fun bt1083 => (if bt1083.1 = 0 then ((spec_l91Leaf.f k x1000 bt1083.2).bind fun bt1085 => (if 3 < (x3.length : Int) then (some ((x3.set (3 : Int).toNat bt1085.1), bt1085.2)) else (none))) else (some (x3, bt1083.2)))
def spec_l91Spread.f (k : Nat) (s0_0 : List Int) (s0_1 : Int) : Option ((List (List Int)) × Int) := (spec_l91System.f k s0_0 s0_1).bind fun bt1069 => ((spec_SpreadOf.f k bt1069.1).bind fun bt1073 => (if bt1073.2 = true then ((spec_l6Rd_pick.f k s0_0 bt1069.2 3).bind fun bt1077 => (if bt1077.1 = 0 then ((spec_SpreadDerive.f k bt1073.1).bind fun bt1079 => (if bt1079.2 = true then (spec_l91Spread.j0 k bt1079.1 s0_0 bt1077.2) else (spec_l91Spread.j0 k bt1073.1 s0_0 bt1077.2))) else (spec_l91Spread.j0 k bt1073.1 s0_0 bt1077.2))) else (some (bt1073.1, bt1069.2))))
set_option maxHeartbeats 8000000 in
set_option maxRecDepth 100000 in
theorem spec_l91Spread.calls (k : Nat) (g : Nat) (s0_0 : List Int) (s0_1 : Int) (r1 : List (List Int)) (r2 : Int) (w0 w : World) (hI : IsS76 w0 w g s0_0 s0_1) (hB : Below w0.heap.size w0 w) (h : spec_l91Spread.f k s0_0 s0_1 = some (r1, r2)) :
  Calls Try.prog 95 #[.pointer (some ⟨g, 0, none⟩)] w fun e w' => ∃ v0_ : Value, e = .returned (v0_) ∧ Kd.N (Kd.slice 3 (Kd.int .i64)) 23 w' w.heap.size (fun k_ => (w.heap.size ≤ k_)) v0_ r1 ∧ IsS76 w0 w' g s0_0 r2 ∧ Below w0.heap.size w0 w' ∧ KeepBut w w' g none := by
 have HI0 := Aside0.mk hI
 have HK := Aside0.mk (KeepBut.refl w g none)
 have HL := Aside0.mk hB.size
 clear hI
 have HW0 := Aside0.mk hB.size
 have HB := Aside0.mk hB
 clear hB
 have H : ((spec_l91System.f k s0_0 s0_1).bind fun bt1069 => ((spec_SpreadOf.f k bt1069.1).bind fun bt1073 => (if bt1073.2 = true then ((spec_l6Rd_pick.f k s0_0 bt1069.2 3).bind fun bt1077 => (if bt1077.1 = 0 then ((spec_SpreadDerive.f k bt1073.1).bind fun bt1079 => (if bt1079.2 = true then (spec_l91Spread.j0 k bt1079.1 s0_0 bt1077.2) else (spec_l91Spread.j0 k bt1073.1 s0_0 bt1077.2))) else (spec_l91Spread.j0 k bt1073.1 s0_0 bt1077.2))) else (some (bt1073.1, bt1069.2))))) = some (r1, r2) := h
 clear h
 replace H := Option.bind_eq_some_iff.mp H
 obtain ⟨⟨t1069, t1072⟩, A20, H⟩ := H
 replace H : ((spec_SpreadOf.f k t1069).bind fun bt1073 => (if bt1073.2 = true then ((spec_l6Rd_pick.f k s0_0 t1072 3).bind fun bt1077 => (if bt1077.1 = 0 then ((spec_SpreadDerive.f k bt1073.1).bind fun bt1079 => (if bt1079.2 = true then (spec_l91Spread.j0 k bt1079.1 s0_0 bt1077.2) else (spec_l91Spread.j0 k bt1073.1 s0_0 bt1077.2))) else (spec_l91Spread.j0 k bt1073.1 s0_0 bt1077.2))) else (some (bt1073.1, t1072)))) = some (r1, r2) := H
 have A2 := Aside0.mk A20
 clear A20
 replace H := Option.bind_eq_some_iff.mp H
 obtain ⟨⟨t1073, t1076⟩, A30, H⟩ := H
 replace H : (if t1076 = true then ((spec_l6Rd_pick.f k s0_0 t1072 3).bind fun bt1077 => (if bt1077.1 = 0 then ((spec_SpreadDerive.f k t1073).bind fun bt1079 => (if bt1079.2 = true then (spec_l91Spread.j0 k bt1079.1 s0_0 bt1077.2) else (spec_l91Spread.j0 k t1073 s0_0 bt1077.2))) else (spec_l91Spread.j0 k t1073 s0_0 bt1077.2))) else (some (t1073, t1072))) = some (r1, r2) := H
 have A3 := Aside0.mk A30
 clear A30
 by_cases c4 : t1076 = true
 ·subst c4
  have H1 : ((spec_l6Rd_pick.f k s0_0 t1072 3).bind fun bt1077 => (if bt1077.1 = 0 then ((spec_SpreadDerive.f k t1073).bind fun bt1079 => (if bt1079.2 = true then (spec_l91Spread.j0 k bt1079.1 s0_0 bt1077.2) else (spec_l91Spread.j0 k t1073 s0_0 bt1077.2))) else (spec_l91Spread.j0 k t1073 s0_0 bt1077.2))) = some (r1, r2) := by rw [if_pos rfl] at H; exact H
  clear H
  have H := H1
  clear H1
  replace H := Option.bind_eq_some_iff.mp H
  obtain ⟨⟨t1077, t1078⟩, A50, H⟩ := H
  replace H : (if t1077 = 0 then ((spec_SpreadDerive.f k t1073).bind fun bt1079 => (if bt1079.2 = true then (spec_l91Spread.j0 k bt1079.1 s0_0 t1078) else (spec_l91Spread.j0 k t1073 s0_0 t1078))) else (spec_l91Spread.j0 k t1073 s0_0 t1078)) = some (r1, r2) := H
  have A5 := Aside0.mk A50
  clear A50
  have HC6 := Aside0.mk H
  clear H
  go_enter Try.func95, Try.ntmps95
  go_upto_if 18 with (first | ((with_reducible refine gate_callee (f := 77) rfl ?_); refine goesL_ (some 9) rfl rfl Try.func77 (by kernel_rfl) rfl #[.pointer (some ⟨g, 0, none⟩)] rfl ll_ ?_; (with_reducible refine (spec_l91System.calls k g s0_0 s0_1 t1069 t1072 w0 _ ?side1 ?side2 A2.out).mono ?_); (case side1 => repeat (first | (with_reducible first | exact HI0.out | apply IsS76.alloc | apply IsS76.drewN | apply IsS76.drew | apply IsS76.set_1) | exact HI0.out)); (case side2 => repeat (first | (with_reducible first | exact HB.out | apply below_alloc | apply pw_below_drewN | apply below_drew1 | refine below_set ?_ (IsS76.ge HI0.out)) | exact HB.out)); rintro e w7 ⟨v1070, rfl, ho0, hi, hb, hk⟩; refine ⟨_, rfl, ?_⟩; have n0_ := Aside0.mk (Kd.R_lower (Kd.R_newM (M := fun k_ => (w.heap.size ≤ k_)) ho0 (keep_size (w := w) (g := g) (row := none) (by repeat (first | (with_reducible first | exact HK.out | apply KeepBut.set_ | apply keep_drewN | apply keep_drew | apply keep_alloc) | exact HK.out))) (fun k_ h_ => h_)) (keep_size (w := w) (g := g) (row := none) (by repeat (first | (with_reducible first | exact HK.out | apply KeepBut.set_ | apply keep_drewN | apply keep_drew | apply keep_alloc) | exact HK.out)))); have n1_ := Aside0.mk (KeepBut.trans (by repeat (first | (with_reducible first | exact HK.out | apply KeepBut.set_ | apply keep_drewN | apply keep_drew | apply keep_alloc) | exact HK.out)) hk (.inl rfl)); have n2_ := Aside0.mk (hb); have n3_ := Aside0.mk (hi); clear HK; clear HB; clear HI0; have HO1071 := n0_; have HK := n1_; have HB := n2_; have HI0 := n3_; clear n0_ n1_ n2_ n3_; (try clear hb); (try clear hb2); (try clear hk); (try clear hi); (try clear ho0); obtain ⟨Ao8, co8, eo8⟩ := Kd.R_slice HO1071.out; subst eo8) | ((with_reducible refine gate_callee (f := 151) rfl ?_); refine goesL_ (some 10) rfl rfl Try.func151 (by kernel_rfl) rfl #[.slice Ao8 t1069.length co8] rfl ll_ ?_; (with_reducible refine (spec_SpreadOf.calls k _ _ t1069 t1073 true _ ?side1 ?side2 A3.out).mono ?_); (case side1 => exact cc_ HO1071); (case side2 => exact (Kd.R_reads' HO1071.out).2.1); rintro e w9 ⟨v1074, rfl, ho0, hb⟩; refine ⟨_, rfl, ?_⟩; have n0_ := Aside0.mk (Kd.R_below (rr_ HO1071) hb); have n1_ := Aside0.mk (Kd.N_lower (Kd.N_mono (ok' := fun k_ => (w.heap.size ≤ k_) ∧ some k_ ≠ (.slice Ao8 t1069.length co8 : Value).ownBlock ∧ k_ ≠ g) ho0 (fun k_ hk_ => ⟨(Nat.le_trans (keep_size (w := w) (g := g) (row := none) (by repeat (first | (with_reducible first | exact HK.out | apply KeepBut.set_ | apply keep_drewN | apply keep_drew | apply keep_alloc) | exact HK.out))) hk_), (Kd.fresh' (Kd.R_lt (rr_ HO1071)) k_ hk_), (IsS76.fresh (by repeat (first | (with_reducible first | exact HI0.out | apply IsS76.alloc | apply IsS76.drewN | apply IsS76.drew | apply IsS76.set_1) | exact HI0.out)) k_ hk_)⟩)) (keep_size (w := w) (g := g) (row := none) (by repeat (first | (with_reducible first | exact HK.out | apply KeepBut.set_ | apply keep_drewN | apply keep_drew | apply keep_alloc) | exact HK.out)))); have n2_ := Aside0.mk (IsS76.below (by repeat (first | (with_reducible first | exact HI0.out | apply IsS76.alloc | apply IsS76.drewN | apply IsS76.drew | apply IsS76.set_1) | exact HI0.out)) hb); have n3_ := Aside0.mk (KeepBut.trans (by repeat (first | (with_reducible first | exact HK.out | apply KeepBut.set_ | apply keep_drewN | apply keep_drew | apply keep_alloc) | exact HK.out)) (KeepBut.of_below hb g none) (.inl rfl)); have n4_ := Aside0.mk (below_step (by repeat (first | (with_reducible first | exact HB.out | apply below_alloc | apply pw_below_drewN | apply below_drew1 | refine below_set ?_ (IsS76.ge HI0.out)) | exact HB.out)) hb); clear HO1071; clear HI0; clear HK; clear HB; have HO1071 := n0_; have HO1075 := n1_; have HI0 := n2_; have HK := n3_; have HB := n4_; clear n0_ n1_ n2_ n3_ n4_; (try clear hb); (try clear hb2); (try clear hk); (try clear hi); (try clear ho0)) | ((with_reducible refine gate_callee (f := 79) rfl ?_); refine goesL_ (some 17) rfl rfl Try.func79 (by kernel_rfl) rfl #[.pointer (some ⟨g, 0, none⟩), .int .i64 3] rfl ll_ ?_; (with_reducible refine (spec_l6Rd_pick.calls k g s0_0 t1072 3 t1077 t1078 w0 _ ?side1 ?side2 A5.out).mono ?_); (case side1 => repeat (first | (with_reducible first | exact HI0.out | apply IsS76.alloc | apply IsS76.drewN | apply IsS76.drew | apply IsS76.set_1) | exact HI0.out)); (case side2 => repeat (first | (with_reducible first | exact HB.out | apply below_alloc | apply pw_below_drewN | apply below_drew1 | refine below_set ?_ (IsS76.ge HI0.out)) | exact HB.out)); rintro e w10 ⟨rfl, hi, hb, hk⟩; refine ⟨_, rfl, ?_⟩; have n0_ := Aside0.mk (Kd.R_mono (Kd.R_keep (IsS76.apart (show IsS76 w0 _ g s0_0 t1072 from by repeat (first | (with_reducible first | exact HI0.out | apply IsS76.alloc | apply IsS76.drewN | apply IsS76.drew | apply IsS76.set_1) | exact HI0.out)) (rr_ HO1071) (by decide)) hk (fun _ h => h.2)) (fun _ h => h.1)); have n1_ := Aside0.mk (Kd.N_mono (Kd.N_keep (Kd.N_mono (ok := fun k_ => (((w.heap.size ≤ k_)) ∧ (some k_ ≠ (.slice Ao8 t1069.length co8 : Value).ownBlock ∧ k_ ≠ g))) (by (with_reducible repeat (first | apply Kd.N_alloc | apply Kd.N_drewN | apply Kd.N_drew)); exact HO1075.out) (fun k_ hk_ => (⟨hk_, hk_.2.2⟩ : _ ∧ k_ ≠ g))) hk (fun _ h => h.2)) (fun _ h => h.1)); have n2_ := Aside0.mk (KeepBut.trans (by repeat (first | (with_reducible first | exact HK.out | apply KeepBut.set_ | apply keep_drewN | apply keep_drew | apply keep_alloc) | exact HK.out)) hk (.inl rfl)); have n3_ := Aside0.mk (hb); have n4_ := Aside0.mk (hi); clear HO1071; clear HO1075; clear HK; clear HB; clear HI0; have HO1071 := n0_; have HO1075 := n1_; have HK := n2_; have HB := n3_; have HI0 := n4_; clear n0_ n1_ n2_ n3_ n4_; (try clear hb); (try clear hb2); (try clear hk); (try clear hi)))
  (try simp only [Act.put, List.setIfInBounds_toArray, List.set_cons_zero, List.set_cons_succ])
  go_cut [3] (fun v3 wc => ∃ (kq : Nat) (x3_5 : List (List Int)), Aside0 (spec_l91Spread.j0 kq x3_5 s0_0 t1078 = some (r1, r2)) ∧ Aside0 (kq ≤ k) ∧ Aside0 (Kd.N (Kd.slice 3 (Kd.int .i64)) 23 wc w.heap.size (fun k_ => (w.heap.size ≤ k_) ∧ k_ ≠ g) v3 x3_5) ∧ Aside0 (IsS76 w0 wc g s0_0 t1078) ∧ Aside0 (KeepBut w wc g none) ∧ Aside0 (Below w0.heap.size w0 wc))
  case first =>
   have H := HC6.out
   clear HC6
   by_cases c11 : t1077 = 0
   ·rw [if_pos c11] at H
    have c11b0 : (t1077 == 0) = true := beq_iff_eq.mpr c11
    have c11b1 : (t1077 != 0) = false := bne_eq_false_iff_eq.mpr c11
    clear c11
    (first | rw [c11b0] | (simp only [i64_w, i32_w]; rw [c11b0]) | skip)
    replace H := Option.bind_eq_some_iff.mp H
    obtain ⟨⟨t1079, t1082⟩, A120, H⟩ := H
    replace H : (if t1082 = true then (spec_l91Spread.j0 k t1079 s0_0 t1078) else (spec_l91Spread.j0 k t1073 s0_0 t1078)) = some (r1, r2) := H
    have A12 := Aside0.mk A120
    clear A120
    by_cases c13 : t1082 = true
    ·subst c13
     have H1 : (spec_l91Spread.j0 k t1079 s0_0 t1078) = some (r1, r2) := by rw [if_pos rfl] at H; exact H
     clear H
     have H := H1
     clear H1
     have H' := Aside0.mk H
     clear H
     obtain ⟨Ao14, co14, eo14⟩ := Kd.N_slice HO1075.out
     subst eo14
     go_wp2_with (first | ((with_reducible refine gate_callee (f := 152) rfl ?_); refine goesL_ (some 21) rfl rfl Try.func152 (by kernel_rfl) rfl #[.slice Ao14 t1073.length co14] rfl ll_ ?_; (with_reducible refine (spec_SpreadDerive.calls k _ _ t1073 t1079 true _ ?side1 ?side2 A12.out).mono ?_); (case side1 => repeat (first | exact (Kd.N_reads' HO1075.out).2.2 | (with_reducible refine Kd.C_alloc ?_ _) | (with_reducible refine Kd.C_drewN ?_ _) | (with_reducible refine Kd.C_drew ?_))); (case side2 => exact (Kd.N_reads' HO1075.out).2.1); rintro e w15 ⟨v1080, rfl, ho0, hb⟩; refine ⟨_, rfl, ?_⟩; have n0_ := Aside0.mk (Kd.R_below (rr_ HO1071) hb); have n1_ := Aside0.mk (Kd.N_elder' (by (with_reducible repeat (first | apply Kd.N_alloc | apply Kd.N_drewN | apply Kd.N_drew)); exact HO1075.out) (Kd.N_base ho0) hb); have n2_ := Aside0.mk (Kd.N_lower (Kd.N_mono (ok' := fun k_ => (w.heap.size ≤ k_) ∧ some k_ ≠ (.slice Ao8 t1069.length co8 : Value).ownBlock ∧ some k_ ≠ (.slice Ao14 t1073.length co14 : Value).ownBlock ∧ k_ ≠ g) ho0 (fun k_ hk_ => ⟨(Nat.le_trans (keep_size (w := w) (g := g) (row := none) (by repeat (first | (with_reducible first | exact HK.out | apply KeepBut.set_ | apply keep_drewN | apply keep_drew | apply keep_alloc) | exact HK.out))) hk_), (Kd.fresh' (Kd.R_lt (rr_ HO1071)) k_ hk_), (Kd.fresh' (Kd.N_lt (by (with_reducible repeat (first | apply Kd.N_alloc | apply Kd.N_drewN | apply Kd.N_drew)); exact HO1075.out)) k_ hk_), (IsS76.fresh (by repeat (first | (with_reducible first | exact HI0.out | apply IsS76.alloc | apply IsS76.drewN | apply IsS76.drew | apply IsS76.set_1) | exact HI0.out)) k_ hk_)⟩)) (keep_size (w := w) (g := g) (row := none) (by repeat (first | (with_reducible first | exact HK.out | apply KeepBut.set_ | apply keep_drewN | apply keep_drew | apply keep_alloc) | exact HK.out)))); have n3_ := Aside0.mk (IsS76.below (by repeat (first | (with_reducible first | exact HI0.out | apply IsS76.alloc | apply IsS76.drewN | apply IsS76.drew | apply IsS76.set_1) | exact HI0.out)) hb); have n4_ := Aside0.mk (KeepBut.trans (by repeat (first | (with_reducible first | exact HK.out | apply KeepBut.set_ | apply keep_drewN | apply keep_drew | apply keep_alloc) | exact HK.out)) (KeepBut.of_below hb g none) (.inl rfl)); have n5_ := Aside0.mk (below_step (by repeat (first | (with_reducible first | exact HB.out | apply below_alloc | apply pw_below_drewN | apply below_drew1 | refine below_set ?_ (IsS76.ge HI0.out)) | exact HB.out)) hb); clear HO1071; clear HO1075; clear HI0; clear HK; clear HB; have HO1071 := n0_; have HO1075 := n1_; have HO1081 := n2_; have HI0 := n3_; have HK := n4_; have HB := n5_; clear n0_ n1_ n2_ n3_ n4_ n5_; (try clear hb); (try clear hb2); (try clear hk); (try clear hi); (try clear ho0)))
     go_meet
     case rel => exact ⟨_, (t1079), H', ⟨by first | omega | exact Nat.le_refl _⟩, ⟨by (with_reducible repeat (first | apply Kd.N_alloc | apply Kd.N_drewN | apply Kd.N_drew)); exact Kd.N_mono HO1081.out (fun _ hk => ⟨hk.1, hk.2.2.2⟩)⟩, ⟨by repeat (first | (with_reducible first | exact HI0.out | apply IsS76.alloc | apply IsS76.drewN | apply IsS76.drew | apply IsS76.set_1) | exact HI0.out)⟩, ⟨by repeat (first | (with_reducible first | exact HK.out | apply KeepBut.set_ | apply keep_drewN | apply keep_drew | apply keep_alloc) | exact HK.out)⟩, ⟨by repeat (first | (with_reducible first | exact HB.out | apply below_alloc | apply pw_below_drewN | apply below_drew1 | refine below_set ?_ (IsS76.ge HI0.out)) | exact HB.out)⟩⟩
    ·replace c13 := Bool.eq_false_iff.mpr c13
     subst c13
     have H1 : (spec_l91Spread.j0 k t1073 s0_0 t1078) = some (r1, r2) := by rw [if_neg (show ¬ (false = true) by decide)] at H; exact H
     clear H
     have H := H1
     clear H1
     have H' := Aside0.mk H
     clear H
     obtain ⟨Ao16, co16, eo16⟩ := Kd.N_slice HO1075.out
     subst eo16
     go_wp2_with (first | ((with_reducible refine gate_callee (f := 152) rfl ?_); refine goesL_ (some 21) rfl rfl Try.func152 (by kernel_rfl) rfl #[.slice Ao16 t1073.length co16] rfl ll_ ?_; (with_reducible refine (spec_SpreadDerive.calls k _ _ t1073 t1079 false _ ?side1 ?side2 A12.out).mono ?_); (case side1 => repeat (first | exact (Kd.N_reads' HO1075.out).2.2 | (with_reducible refine Kd.C_alloc ?_ _) | (with_reducible refine Kd.C_drewN ?_ _) | (with_reducible refine Kd.C_drew ?_))); (case side2 => exact (Kd.N_reads' HO1075.out).2.1); rintro e w17 ⟨v1080, rfl, ho0, hb⟩; refine ⟨_, rfl, ?_⟩; have n0_ := Aside0.mk (Kd.R_below (rr_ HO1071) hb); have n1_ := Aside0.mk (Kd.N_elder' (by (with_reducible repeat (first | apply Kd.N_alloc | apply Kd.N_drewN | apply Kd.N_drew)); exact HO1075.out) (Kd.N_base ho0) hb); have n2_ := Aside0.mk (Kd.N_lower (Kd.N_mono (ok' := fun k_ => (w.heap.size ≤ k_) ∧ some k_ ≠ (.slice Ao8 t1069.length co8 : Value).ownBlock ∧ some k_ ≠ (.slice Ao16 t1073.length co16 : Value).ownBlock ∧ k_ ≠ g) ho0 (fun k_ hk_ => ⟨(Nat.le_trans (keep_size (w := w) (g := g) (row := none) (by repeat (first | (with_reducible first | exact HK.out | apply KeepBut.set_ | apply keep_drewN | apply keep_drew | apply keep_alloc) | exact HK.out))) hk_), (Kd.fresh' (Kd.R_lt (rr_ HO1071)) k_ hk_), (Kd.fresh' (Kd.N_lt (by (with_reducible repeat (first | apply Kd.N_alloc | apply Kd.N_drewN | apply Kd.N_drew)); exact HO1075.out)) k_ hk_), (IsS76.fresh (by repeat (first | (with_reducible first | exact HI0.out | apply IsS76.alloc | apply IsS76.drewN | apply IsS76.drew | apply IsS76.set_1) | exact HI0.out)) k_ hk_)⟩)) (keep_size (w := w) (g := g) (row := none) (by repeat (first | (with_reducible first | exact HK.out | apply KeepBut.set_ | apply keep_drewN | apply keep_drew | apply keep_alloc) | exact HK.out)))); have n3_ := Aside0.mk (IsS76.below (by repeat (first | (with_reducible first | exact HI0.out | apply IsS76.alloc | apply IsS76.drewN | apply IsS76.drew | apply IsS76.set_1) | exact HI0.out)) hb); have n4_ := Aside0.mk (KeepBut.trans (by repeat (first | (with_reducible first | exact HK.out | apply KeepBut.set_ | apply keep_drewN | apply keep_drew | apply keep_alloc) | exact HK.out)) (KeepBut.of_below hb g none) (.inl rfl)); have n5_ := Aside0.mk (below_step (by repeat (first | (with_reducible first | exact HB.out | apply below_alloc | apply pw_below_drewN | apply below_drew1 | refine below_set ?_ (IsS76.ge HI0.out)) | exact HB.out)) hb); clear HO1071; clear HO1075; clear HI0; clear HK; clear HB; have HO1071 := n0_; have HO1075 := n1_; have HO1081 := n2_; have HI0 := n3_; have HK := n4_; have HB := n5_; clear n0_ n1_ n2_ n3_ n4_ n5_; (try clear hb); (try clear hb2); (try clear hk); (try clear hi); (try clear ho0)))
     go_meet
     case rel => exact ⟨_, (t1073), H', ⟨by first | omega | exact Nat.le_refl _⟩, ⟨by (with_reducible repeat (first | apply Kd.N_alloc | apply Kd.N_drewN | apply Kd.N_drew)); exact Kd.N_mono HO1075.out (fun _ hk => ⟨hk.1.1, hk.1.2.2⟩)⟩, ⟨by repeat (first | (with_reducible first | exact HI0.out | apply IsS76.alloc | apply IsS76.drewN | apply IsS76.drew | apply IsS76.set_1) | exact HI0.out)⟩, ⟨by repeat (first | (with_reducible first | exact HK.out | apply KeepBut.set_ | apply keep_drewN | apply keep_drew | apply keep_alloc) | exact HK.out)⟩, ⟨by repeat (first | (with_reducible first | exact HB.out | apply below_alloc | apply pw_below_drewN | apply below_drew1 | refine below_set ?_ (IsS76.ge HI0.out)) | exact HB.out)⟩⟩
   ·rw [if_neg c11] at H
    have c11b0 : (t1077 == 0) = false := beq_eq_false_iff_ne.mpr c11
    have c11b1 : (t1077 != 0) = true := bne_iff_ne.mpr c11
    (first | rw [c11b0] | (simp only [i64_w, i32_w]; rw [c11b0]) | skip)
    have H' := Aside0.mk H
    clear H
    go_wp2
    go_meet
    case rel => exact ⟨_, (t1073), H', ⟨by first | omega | exact Nat.le_refl _⟩, ⟨by (with_reducible repeat (first | apply Kd.N_alloc | apply Kd.N_drewN | apply Kd.N_drew)); exact Kd.N_mono HO1075.out (fun _ hk => ⟨hk.1, hk.2.2⟩)⟩, ⟨by repeat (first | (with_reducible first | exact HI0.out | apply IsS76.alloc | apply IsS76.drewN | apply IsS76.drew | apply IsS76.set_1) | exact HI0.out)⟩, ⟨by repeat (first | (with_reducible first | exact HK.out | apply KeepBut.set_ | apply keep_drewN | apply keep_drew | apply keep_alloc) | exact HK.out)⟩, ⟨by repeat (first | (with_reducible first | exact HB.out | apply below_alloc | apply pw_below_drewN | apply below_drew1 | refine below_set ?_ (IsS76.ge HI0.out)) | exact HB.out)⟩⟩
  case rest =>
   clear HC6
   try clear c1
   try clear p2
   try clear c4
   try clear c7
   try clear c9
   try clear c11
   try clear c11b0
   try clear c11b1
   try clear c13
   try clear c15
   obtain ⟨kq, x3_5, HA, HJ5, HO_3, HI0, HK, HB⟩ := hcut
   cases kq with
   | zero => exact absurd HA.out (by simp [spec_l91Spread.j0])
   | succ kj5 =>
    have H := HA.out
    clear HA
    simp only [spec_l91Spread.j0] at H
    replace H := Option.bind_eq_some_iff.mp H
    obtain ⟨⟨t1083, t1084⟩, A180, H⟩ := H
    replace H : (if t1083 = 0 then ((spec_l91Leaf.f kj5 s0_0 t1084).bind fun bt1085 => (if 3 < (x3_5.length : Int) then (some ((x3_5.set (3 : Int).toNat bt1085.1), bt1085.2)) else (none))) else (some (x3_5, t1084))) = some (r1, r2) := H
    have A18 := Aside0.mk A180
    clear A180
    by_cases c19 : t1083 = 0
    ·rw [if_pos c19] at H
     have c19b0 : (t1083 == 0) = true := beq_iff_eq.mpr c19
     have c19b1 : (t1083 != 0) = false := bne_eq_false_iff_eq.mpr c19
     clear c19
     replace H := Option.bind_eq_some_iff.mp H
     obtain ⟨⟨t1085, t1088⟩, A200, H⟩ := H
     replace H : (if 3 < (x3_5.length : Int) then (some ((x3_5.set (3 : Int).toNat t1085), t1088)) else (none)) = some (r1, r2) := H
     have A20 := Aside0.mk A200
     clear A200
     by_cases c21 : 3 < (x3_5.length : Int)
     ·rw [if_pos c21] at H
      have c21b0 : decide (3 < (x3_5.length : Int)) = true := decide_eq_true c21
      have c21b1 : decide (3 < x3_5.length) = true := decide_eq_true (by omega)
      clear c21
      obtain ⟨y1089, hy1089⟩ : ∃ y_ : List (List Int), y_ = (x3_5.set (3 : Int).toNat t1085) := ⟨_, rfl⟩
      replace H : (some (y1089, t1088)) = some (r1, r2) := by first | (rw [hy1089]; with_reducible exact H) | (have H2_ := (Option.bind_some _ _).symm.trans H; rw [hy1089]; with_reducible exact H2_) | (have H2_ := (Option.bind_some _ _).symm.trans H; with_reducible exact H2_) | with_reducible exact H | (rw [hy1089]; exact H) | exact H
      have Ny1089 := Aside0.mk hy1089
      clear hy1089
      simp only [Option.some.injEq, Prod.mk.injEq] at H
      obtain ⟨rfl, rfl⟩ := H
      go_wp2_with (first | ((with_reducible refine gate_callee (f := 79) rfl ?_); refine goesL_ (some 27) rfl rfl Try.func79 (by kernel_rfl) rfl #[.pointer (some ⟨g, 0, none⟩), .int .i64 24] rfl ll_ ?_; (with_reducible refine (spec_l6Rd_pick.calls kj5 g s0_0 t1078 24 t1083 t1084 w0 _ ?side1 ?side2 A18.out).mono ?_); (case side1 => repeat (first | (with_reducible first | exact HI0.out | apply IsS76.alloc | apply IsS76.drewN | apply IsS76.drew | apply IsS76.set_1) | exact HI0.out)); (case side2 => repeat (first | (with_reducible first | exact HB.out | apply below_alloc | apply pw_below_drewN | apply below_drew1 | refine below_set ?_ (IsS76.ge HI0.out)) | exact HB.out)); rintro e w23 ⟨rfl, hi, hb, hk⟩; refine ⟨_, rfl, ?_⟩; have n0_ := Aside0.mk (Kd.N_mono (Kd.N_keep (Kd.N_mono (ok := fun k_ => (((w.heap.size ≤ k_)) ∧ k_ ≠ g)) (by (with_reducible repeat (first | apply Kd.N_alloc | apply Kd.N_drewN | apply Kd.N_drew)); exact HO_3.out) (fun k_ hk_ => (⟨hk_, hk_.2⟩ : _ ∧ k_ ≠ g))) hk (fun _ h => h.2)) (fun _ h => h.1)); have n1_ := Aside0.mk (KeepBut.trans (by repeat (first | (with_reducible first | exact HK.out | apply KeepBut.set_ | apply keep_drewN | apply keep_drew | apply keep_alloc) | exact HK.out)) hk (.inl rfl)); have n2_ := Aside0.mk (hb); have n3_ := Aside0.mk (hi); clear HO_3; clear HK; clear HB; clear HI0; have HO_3 := n0_; have HK := n1_; have HB := n2_; have HI0 := n3_; clear n0_ n1_ n2_ n3_; (try clear hb); (try clear hb2); (try clear hk); (try clear hi)) | ((with_reducible refine gate_callee (f := 153) rfl ?_); refine goesL_ (some 31) rfl rfl Try.func153 (by kernel_rfl) rfl #[.pointer (some ⟨g, 0, none⟩)] rfl ll_ ?_; (with_reducible refine (spec_l91Leaf.calls kj5 g s0_0 t1084 t1085 t1088 w0 _ ?side1 ?side2 A20.out).mono ?_); (case side1 => repeat (first | (with_reducible first | exact HI0.out | apply IsS76.alloc | apply IsS76.drewN | apply IsS76.drew | apply IsS76.set_1) | exact HI0.out)); (case side2 => repeat (first | (with_reducible first | exact HB.out | apply below_alloc | apply pw_below_drewN | apply below_drew1 | refine below_set ?_ (IsS76.ge HI0.out)) | exact HB.out)); rintro e w24 ⟨v1086, rfl, ho0, hi, hb, hk⟩; refine ⟨_, rfl, ?_⟩; have n0_ := Aside0.mk (Kd.N_mono (Kd.N_told (Kd.N_oldK (Kd.N_mono (ok := fun k_ => (((w.heap.size ≤ k_)) ∧ k_ ≠ g)) (by (with_reducible repeat (first | apply Kd.N_alloc | apply Kd.N_drewN | apply Kd.N_drew)); exact HO_3.out) (fun k_ hk_ => (⟨hk_, hk_.2⟩ : _ ∧ k_ ≠ g))) hk) (Kd.R_base ho0)) (fun _ h_ => h_.1)); have n1_ := Aside0.mk (Kd.R_lower (Kd.R_newM (M := fun k_ => (w.heap.size ≤ k_)) ho0 (keep_size (w := w) (g := g) (row := none) (by repeat (first | (with_reducible first | exact HK.out | apply KeepBut.set_ | apply keep_drewN | apply keep_drew | apply keep_alloc) | exact HK.out))) (fun k_ h_ => h_)) (keep_size (w := w) (g := g) (row := none) (by repeat (first | (with_reducible first | exact HK.out | apply KeepBut.set_ | apply keep_drewN | apply keep_drew | apply keep_alloc) | exact HK.out)))); have n2_ := Aside0.mk (KeepBut.trans (by repeat (first | (with_reducible first | exact HK.out | apply KeepBut.set_ | apply keep_drewN | apply keep_drew | apply keep_alloc) | exact HK.out)) hk (.inl rfl)); have n3_ := Aside0.mk (hb); have n4_ := Aside0.mk (hi); clear HO_3; clear HK; clear HB; clear HI0; have HO_3 := n0_; have HO1087 := n1_; have HK := n2_; have HB := n3_; have HI0 := n4_; clear n0_ n1_ n2_ n3_ n4_; (try clear hb); (try clear hb2); (try clear hk); (try clear hi); (try clear ho0); have p22 : 0 ≤ (3 : Int) := (by omega); have q22 : (3 : Int) < ((x3_5.length : Int) : Int) := dd_; have qi22 : (3 < x3_5.length) = True := eq_true (by omega); obtain ⟨go22, co22, eo22, gb22, gl22, cl22, HG22⟩ := Kd.N_form HO_3.out (by omega); (first | cases eo22 | (injection eo22 with ea_ en_ ec_; (first | subst ea_ | (injection ea_ with ea_; subst ea_)); subst ec_; clear en_)); have GB22 := Aside0.mk gb22; have GG22 := Aside0.mk HG22; clear gb22 gl22 HG22; obtain ⟨ce22, hcl22, hM22, hcc22, hfr22⟩ := Kd.N_elem HO_3.out [] (3 : Int) p22 q22; obtain ⟨ua22_0, uc22_0, rfl, ul22_0, ge22_0⟩ := Kd.FK_slice_open hM22; have hx22_0 := hcc22 0 _ rfl; have hf22_0 := hfr22 0; (try simp only [show ((Kd.slice 3 (Kd.int .i64))).sz = 1 from rfl, Nat.mul_one, Nat.add_zero] at hx22_0); (try simp only [show ((Kd.slice 3 (Kd.int .i64))).sz = 1 from rfl, Nat.mul_one, Nat.add_zero] at hf22_0); (try clear hM22); clear hcl22 hcc22 hfr22; (try rw [show ((3 : Int)).toNat = 3 from rfl] at hx22_0); (try simp only [Nat.reduceMul, Nat.zero_mul, Nat.zero_add, Nat.reduceAdd] at hx22_0); (try rw [show ((3 : Int)).toNat = 3 from rfl] at hf22_0); (try simp only [Nat.reduceMul, Nat.zero_mul, Nat.zero_add, Nat.reduceAdd] at hf22_0); replace p22 := eq_true p22; replace q22 := eq_true q22; have n_ := Aside0.mk (Kd.N_mono (ok' := (fun k_ => (w.heap.size ≤ k_) ∧ some k_ ≠ (v1086 : Value).ownBlock)) HO_3.out (fun k_ hk => ⟨hk.1.1, hk.2⟩)); clear HO_3; have HO_3 := n_; clear n_; have HX25 := Aside0.mk (show Kd.N (Kd.slice 3 (Kd.int .i64)) 23 w24 w.heap.size (fun k_ => (w.heap.size ≤ k_)) (.slice (some ⟨go22, 0, none⟩) x3_5.length co22) x3_5 from (by (with_reducible repeat (first | apply Kd.N_alloc | apply Kd.N_drewN | apply Kd.N_drew)); exact Kd.N_mono HO_3.out (fun _ hk => hk.1))); obtain ⟨ce25, hcl25, hM25, hcc25, hfr25⟩ := Kd.N_elem HX25.out [] (3 : Int) (by omega) (by have h_ : (3 : Int) < ((x3_5.length : Int) : Int) := dd_; first | exact h_ | (have e_ := (Kd.N_reads' HO_3.out).1; omega) | simpa using h_); obtain ⟨ua25_0, uc25_0, rfl, ul25_0, ge25_0⟩ := Kd.FK_slice_open hM25; have HP25 := Kd.N_seg HX25.out (3 : Int) (by omega) (by have h_ : (3 : Int) < ((x3_5.length : Int) : Int) := dd_; first | exact h_ | (have e_ := (Kd.N_reads' HO_3.out).1; omega) | simpa using h_) (seg := [v1086]) (j := 0) hcl25 hcc25 (show 1 ≤ 1 from by decide) (x' := t1085) (by obtain ⟨A_, c_, e_⟩ := Kd.R_slice HO1087.out; subst e_; exact Kd.FK_slice_mk (Kd.R_reads' (Kd.R_mono (ok' := (fun k_ => ((fun k_ => (w.heap.size ≤ k_))) k_ ∧ k_ ≠ go22)) (Kd.R_apart' (HO1087.out) (Kd.N_typed HO_3.out) (by decide)) (fun k_ hk => ⟨hk.1.1, fun e_ => (hk.2) (by rw [e_]; rfl)⟩))).2.1 (Kd.R_F (Kd.R_mono (ok' := (fun k_ => ((fun k_ => (w.heap.size ≤ k_))) k_ ∧ k_ ≠ go22)) (Kd.R_apart' (HO1087.out) (Kd.N_typed HO_3.out) (by decide)) (fun k_ hk => ⟨hk.1.1, fun e_ => (hk.2) (by rw [e_]; rfl)⟩)))) (fun _ hk => hk); have hx25_0 := hcc25 0 _ rfl; (try simp only [show ((Kd.slice 3 (Kd.int .i64))).sz = 1 from rfl, Nat.mul_one, Nat.add_zero] at hx25_0); (try rw [show ((3 : Int)).toNat = 3 from rfl] at hx25_0); (try simp only [Nat.reduceMul, Nat.zero_mul, Nat.zero_add, Nat.reduceAdd] at hx25_0); have hf25_0 := hfr25 0; (try simp only [show ((Kd.slice 3 (Kd.int .i64))).sz = 1 from rfl, Nat.mul_one, Nat.add_zero] at hf25_0); (try rw [show ((3 : Int)).toNat = 3 from rfl] at hf25_0); (try simp only [Nat.reduceMul, Nat.zero_mul, Nat.zero_add, Nat.reduceAdd] at hf25_0); (try clear hM25); clear hcl25 hcc25 hfr25; (try simp only [show ((Kd.slice 3 (Kd.int .i64))).sz = 1 from rfl, Nat.mul_one, Nat.add_zero] at HP25); (try simp only [show ((Kd.slice 3 (Kd.int .i64))).sz = 1 from rfl, Nat.mul_one, Nat.add_zero] at HP25)) | ((with_reducible refine gate_store (t := 23) (p := 32) rfl ?_); refine store_event (t := 23) (p := 32) (v := ?vo_w26) (w1 := (w24.setCell ⟨go22, 3, none⟩ (v1086))) ?hg ?ho ?hn ?hr ?_; (case ho => rfl); (case hg => rfl); (case hn => rfl); (case hr => first | (go_simp; done) | (go_simp; rfl) | (obtain ⟨a_, c_, e_⟩ := Kd.R_slice HO1087.out; rw [e_]; first | (go_simp; done) | (go_simp; rfl)) | (obtain ⟨a_, c_, e_⟩ := Kd.N_slice HO1087.out; rw [e_]; first | (go_simp; done) | (go_simp; rfl))); intro w26 hw; have hg : w24.grownBy w26 (some go22) := (by rw [hw]; exact HP25.2); have hp_ : Kd.N (Kd.slice 3 (Kd.int .i64)) 23 w26 w.heap.size (fun k_ => (w.heap.size ≤ k_)) (.slice (some ⟨go22, 0, none⟩) x3_5.length co22) y1089 := (by rw [hw, Ny1089.out]; exact HP25.1); clear HP25; have n0_ := Aside0.mk (hp_); have n1_ := Aside0.mk (IsS76.grown (by repeat (first | (with_reducible first | exact HI0.out | apply IsS76.alloc | apply IsS76.drewN | apply IsS76.drew | apply IsS76.set_1) | exact HI0.out)) hg (IsS76.own_neN HI0.out HO_3.out (by decide))); have n2_ := Aside0.mk ((by rw [hw]; exact below_set (HB.out) (Nat.le_trans HL.out GB22.out) : Below w0.heap.size w0 w26)); have n3_ := Aside0.mk (KeepBut.trans (by repeat (first | (with_reducible first | exact HK.out | apply KeepBut.set_ | apply keep_drewN | apply keep_drew | apply keep_alloc) | exact HK.out)) (KeepBut.of_grown hg g) (Kd.N_base2 HO_3.out)); clear HO_3; clear HI0; clear HB; clear HK; clear HO1087; have HO_3 := n0_; have HI0 := n1_; have HB := n2_; have HK := n3_; clear n0_ n1_ n2_ n3_; clear hg hw hp_))
      go_ret
      exact ⟨_, ee_, by (with_reducible repeat (first | apply Kd.N_alloc | apply Kd.N_drewN | apply Kd.N_drew)); exact HO_3.out, by repeat (first | (with_reducible first | exact HI0.out | apply IsS76.alloc | apply IsS76.drewN | apply IsS76.drew | apply IsS76.set_1) | exact HI0.out), by repeat (first | (with_reducible first | exact HB.out | apply below_alloc | apply pw_below_drewN | apply below_drew1 | refine below_set ?_ (IsS76.ge HI0.out)) | exact HB.out), by repeat (first | (with_reducible first | exact HK.out | apply KeepBut.set_ | apply keep_drewN | apply keep_drew | apply keep_alloc) | exact HK.out)⟩
     ·rw [if_neg c21] at H
      exact absurd H (by simp)
    ·rw [if_neg c19] at H
     have c19b0 : (t1083 == 0) = false := beq_eq_false_iff_ne.mpr c19
     have c19b1 : (t1083 != 0) = true := bne_iff_ne.mpr c19
     simp only [Option.some.injEq, Prod.mk.injEq] at H
     obtain ⟨rfl, rfl⟩ := H
     go_wp2_with (first | ((with_reducible refine gate_callee (f := 79) rfl ?_); refine goesL_ (some 27) rfl rfl Try.func79 (by kernel_rfl) rfl #[.pointer (some ⟨g, 0, none⟩), .int .i64 24] rfl ll_ ?_; (with_reducible refine (spec_l6Rd_pick.calls kj5 g s0_0 t1078 24 t1083 t1084 w0 _ ?side1 ?side2 A18.out).mono ?_); (case side1 => repeat (first | (with_reducible first | exact HI0.out | apply IsS76.alloc | apply IsS76.drewN | apply IsS76.drew | apply IsS76.set_1) | exact HI0.out)); (case side2 => repeat (first | (with_reducible first | exact HB.out | apply below_alloc | apply pw_below_drewN | apply below_drew1 | refine below_set ?_ (IsS76.ge HI0.out)) | exact HB.out)); rintro e w27 ⟨rfl, hi, hb, hk⟩; refine ⟨_, rfl, ?_⟩; have n0_ := Aside0.mk (Kd.N_mono (Kd.N_keep (Kd.N_mono (ok := fun k_ => (((w.heap.size ≤ k_)) ∧ k_ ≠ g)) (by (with_reducible repeat (first | apply Kd.N_alloc | apply Kd.N_drewN | apply Kd.N_drew)); exact HO_3.out) (fun k_ hk_ => (⟨hk_, hk_.2⟩ : _ ∧ k_ ≠ g))) hk (fun _ h => h.2)) (fun _ h => h.1)); have n1_ := Aside0.mk (KeepBut.trans (by repeat (first | (with_reducible first | exact HK.out | apply KeepBut.set_ | apply keep_drewN | apply keep_drew | apply keep_alloc) | exact HK.out)) hk (.inl rfl)); have n2_ := Aside0.mk (hb); have n3_ := Aside0.mk (hi); clear HO_3; clear HK; clear HB; clear HI0; have HO_3 := n0_; have HK := n1_; have HB := n2_; have HI0 := n3_; clear n0_ n1_ n2_ n3_; (try clear hb); (try clear hb2); (try clear hk); (try clear hi)))
     go_ret
     exact ⟨_, ee_, by (with_reducible repeat (first | apply Kd.N_alloc | apply Kd.N_drewN | apply Kd.N_drew)); exact Kd.N_mono HO_3.out (fun _ hk => hk.1), by repeat (first | (with_reducible first | exact HI0.out | apply IsS76.alloc | apply IsS76.drewN | apply IsS76.drew | apply IsS76.set_1) | exact HI0.out), by repeat (first | (with_reducible first | exact HB.out | apply below_alloc | apply pw_below_drewN | apply below_drew1 | refine below_set ?_ (IsS76.ge HI0.out)) | exact HB.out), by repeat (first | (with_reducible first | exact HK.out | apply KeepBut.set_ | apply keep_drewN | apply keep_drew | apply keep_alloc) | exact HK.out)⟩
 ·replace c4 := Bool.eq_false_iff.mpr c4
  subst c4
  have H1 : (some (t1073, t1072)) = some (r1, r2) := by rw [if_neg (show ¬ (false = true) by decide)] at H; exact H
  clear H
  have H := H1
  clear H1
  simp only [Option.some.injEq, Prod.mk.injEq] at H
  obtain ⟨rfl, rfl⟩ := H
  go_enter Try.func95, Try.ntmps95
  go_wp2_with (first | ((with_reducible refine gate_callee (f := 77) rfl ?_); refine goesL_ (some 9) rfl rfl Try.func77 (by kernel_rfl) rfl #[.pointer (some ⟨g, 0, none⟩)] rfl ll_ ?_; (with_reducible refine (spec_l91System.calls k g s0_0 s0_1 t1069 t1072 w0 _ ?side1 ?side2 A2.out).mono ?_); (case side1 => repeat (first | (with_reducible first | exact HI0.out | apply IsS76.alloc | apply IsS76.drewN | apply IsS76.drew | apply IsS76.set_1) | exact HI0.out)); (case side2 => repeat (first | (with_reducible first | exact HB.out | apply below_alloc | apply pw_below_drewN | apply below_drew1 | refine below_set ?_ (IsS76.ge HI0.out)) | exact HB.out)); rintro e w28 ⟨v1070, rfl, ho0, hi, hb, hk⟩; refine ⟨_, rfl, ?_⟩; have n0_ := Aside0.mk (Kd.R_lower (Kd.R_newM (M := fun k_ => (w.heap.size ≤ k_)) ho0 (keep_size (w := w) (g := g) (row := none) (by repeat (first | (with_reducible first | exact HK.out | apply KeepBut.set_ | apply keep_drewN | apply keep_drew | apply keep_alloc) | exact HK.out))) (fun k_ h_ => h_)) (keep_size (w := w) (g := g) (row := none) (by repeat (first | (with_reducible first | exact HK.out | apply KeepBut.set_ | apply keep_drewN | apply keep_drew | apply keep_alloc) | exact HK.out)))); have n1_ := Aside0.mk (KeepBut.trans (by repeat (first | (with_reducible first | exact HK.out | apply KeepBut.set_ | apply keep_drewN | apply keep_drew | apply keep_alloc) | exact HK.out)) hk (.inl rfl)); have n2_ := Aside0.mk (hb); have n3_ := Aside0.mk (hi); clear HK; clear HB; clear HI0; have HO1071 := n0_; have HK := n1_; have HB := n2_; have HI0 := n3_; clear n0_ n1_ n2_ n3_; (try clear hb); (try clear hb2); (try clear hk); (try clear hi); (try clear ho0); obtain ⟨Ao29, co29, eo29⟩ := Kd.R_slice HO1071.out; subst eo29) | ((with_reducible refine gate_callee (f := 151) rfl ?_); refine goesL_ (some 10) rfl rfl Try.func151 (by kernel_rfl) rfl #[.slice Ao29 t1069.length co29] rfl ll_ ?_; (with_reducible refine (spec_SpreadOf.calls k _ _ t1069 t1073 false _ ?side1 ?side2 A3.out).mono ?_); (case side1 => exact cc_ HO1071); (case side2 => exact (Kd.R_reads' HO1071.out).2.1); rintro e w30 ⟨v1074, rfl, ho0, hb⟩; refine ⟨_, rfl, ?_⟩; have n0_ := Aside0.mk (Kd.R_below (rr_ HO1071) hb); have n1_ := Aside0.mk (Kd.N_lower (Kd.N_mono (ok' := fun k_ => (w.heap.size ≤ k_) ∧ some k_ ≠ (.slice Ao29 t1069.length co29 : Value).ownBlock ∧ k_ ≠ g) ho0 (fun k_ hk_ => ⟨(Nat.le_trans (keep_size (w := w) (g := g) (row := none) (by repeat (first | (with_reducible first | exact HK.out | apply KeepBut.set_ | apply keep_drewN | apply keep_drew | apply keep_alloc) | exact HK.out))) hk_), (Kd.fresh' (Kd.R_lt (rr_ HO1071)) k_ hk_), (IsS76.fresh (by repeat (first | (with_reducible first | exact HI0.out | apply IsS76.alloc | apply IsS76.drewN | apply IsS76.drew | apply IsS76.set_1) | exact HI0.out)) k_ hk_)⟩)) (keep_size (w := w) (g := g) (row := none) (by repeat (first | (with_reducible first | exact HK.out | apply KeepBut.set_ | apply keep_drewN | apply keep_drew | apply keep_alloc) | exact HK.out)))); have n2_ := Aside0.mk (IsS76.below (by repeat (first | (with_reducible first | exact HI0.out | apply IsS76.alloc | apply IsS76.drewN | apply IsS76.drew | apply IsS76.set_1) | exact HI0.out)) hb); have n3_ := Aside0.mk (KeepBut.trans (by repeat (first | (with_reducible first | exact HK.out | apply KeepBut.set_ | apply keep_drewN | apply keep_drew | apply keep_alloc) | exact HK.out)) (KeepBut.of_below hb g none) (.inl rfl)); have n4_ := Aside0.mk (below_step (by repeat (first | (with_reducible first | exact HB.out | apply below_alloc | apply pw_below_drewN | apply below_drew1 | refine below_set ?_ (IsS76.ge HI0.out)) | exact HB.out)) hb); clear HO1071; clear HI0; clear HK; clear HB; have HO1071 := n0_; have HO1075 := n1_; have HI0 := n2_; have HK := n3_; have HB := n4_; clear n0_ n1_ n2_ n3_ n4_; (try clear hb); (try clear hb2); (try clear hk); (try clear hi); (try clear ho0)))
  go_ret
  exact ⟨_, ee_, by (with_reducible repeat (first | apply Kd.N_alloc | apply Kd.N_drewN | apply Kd.N_drew)); exact Kd.N_mono HO1075.out (fun _ hk => hk.1), by repeat (first | (with_reducible first | exact HI0.out | apply IsS76.alloc | apply IsS76.drewN | apply IsS76.drew | apply IsS76.set_1) | exact HI0.out), by repeat (first | (with_reducible first | exact HB.out | apply below_alloc | apply pw_below_drewN | apply below_drew1 | refine below_set ?_ (IsS76.ge HI0.out)) | exact HB.out), by repeat (first | (with_reducible first | exact HK.out | apply KeepBut.set_ | apply keep_drewN | apply keep_drew | apply keep_alloc) | exact HK.out)⟩
end Go.Proofs.Ytcbkoecanldlpaa.P

namespace Go.Proofs.Ytcbkoecanldlpaa.P
open Go.RowKit Go.Proofs.YtcbkoecanldlpaaW.PrintWords Go.Proofs.YtcbkoecanldlpaaW.PrintLast
set_option linter.unusedVariables false
set_option linter.unusedSimpArgs false

def spec_DrawSpreadJoin.f (k : Nat) (l0 : List Int) : Option ((List (List Int)) × Int × Int) := (spec_l6Open.f l0).bind fun bt1090 => ((spec_l91Spread.f k bt1090.1 bt1090.2).bind fun bt1093 => ((spec_l6Rd_pick.f k bt1090.1 bt1093.2 82).bind fun bt1097 => ((spec_l6Rd_pick.f k bt1090.1 bt1097.2 81).bind fun bt1099 => (some (bt1093.1, bt1097.1, bt1099.1)))))
set_option maxHeartbeats 8000000 in
set_option maxRecDepth 100000 in
theorem spec_DrawSpreadJoin.calls (k : Nat) (A0 : Option Addr) (c0 : Nat) (l0 : List Int) (r1 : List (List Int)) (r2 : Int) (r3 : Int) (w : World) (hr0 : Kd.C (Kd.int .u8) w A0 l0.length l0) (hc0 : l0.length ≤ c0) (h : spec_DrawSpreadJoin.f k l0 = some (r1, r2, r3)) :
  Calls Try.prog 41 #[.slice A0 l0.length c0] w fun e w' => ∃ v0_ : Value, e = .returned (.tuple #[v0_, .int .i64 r2, .int .i64 r3]) ∧ Kd.N (Kd.slice 3 (Kd.int .i64)) 23 w' w.heap.size (fun k_ => (w.heap.size ≤ k_)) v0_ r1 ∧ Below w.heap.size w w' := by
 have HR0 := Aside0.mk hr0
 have HC0 := Aside0.mk hc0
 clear hr0 hc0
 have HB := Aside0.mk (Below.refl w.heap.size w)
 have H : ((spec_l6Open.f l0).bind fun bt1090 => ((spec_l91Spread.f k bt1090.1 bt1090.2).bind fun bt1093 => ((spec_l6Rd_pick.f k bt1090.1 bt1093.2 82).bind fun bt1097 => ((spec_l6Rd_pick.f k bt1090.1 bt1097.2 81).bind fun bt1099 => (some (bt1093.1, bt1097.1, bt1099.1)))))) = some (r1, r2, r3) := h
 clear h
 replace H := Option.bind_eq_some_iff.mp H
 obtain ⟨⟨t1090, t1091⟩, A20, H⟩ := H
 replace H : ((spec_l91Spread.f k t1090 t1091).bind fun bt1093 => ((spec_l6Rd_pick.f k t1090 bt1093.2 82).bind fun bt1097 => ((spec_l6Rd_pick.f k t1090 bt1097.2 81).bind fun bt1099 => (some (bt1093.1, bt1097.1, bt1099.1))))) = some (r1, r2, r3) := H
 have A2 := Aside0.mk A20
 clear A20
 replace H := Option.bind_eq_some_iff.mp H
 obtain ⟨⟨t1093, t1096⟩, A30, H⟩ := H
 replace H : ((spec_l6Rd_pick.f k t1090 t1096 82).bind fun bt1097 => ((spec_l6Rd_pick.f k t1090 bt1097.2 81).bind fun bt1099 => (some (t1093, bt1097.1, bt1099.1)))) = some (r1, r2, r3) := H
 have A3 := Aside0.mk A30
 clear A30
 replace H := Option.bind_eq_some_iff.mp H
 obtain ⟨⟨t1097, t1098⟩, A40, H⟩ := H
 replace H : ((spec_l6Rd_pick.f k t1090 t1098 81).bind fun bt1099 => (some (t1093, t1097, bt1099.1))) = some (r1, r2, r3) := H
 have A4 := Aside0.mk A40
 clear A40
 replace H := Option.bind_eq_some_iff.mp H
 obtain ⟨⟨t1099, t1100⟩, A50, H⟩ := H
 replace H : (some (t1093, t1097, t1099)) = some (r1, r2, r3) := H
 have A5 := Aside0.mk A50
 clear A50
 simp only [Option.some.injEq, Prod.mk.injEq] at H
 obtain ⟨rfl, rfl, rfl⟩ := H
 go_enter Try.func41, Try.ntmps41
 go_wp2_with (first | (refine goesL_ (some 9) rfl rfl Try.func76 (by kernel_rfl) rfl #[.slice A0 l0.length c0] rfl ll_ ?_; (with_reducible refine (spec_l6Open.calls _ _ l0 t1090 t1091 w _ ?side1 ?side2 ?side3 A2.out).mono ?_); (case side1 => repeat (first | (with_reducible first | exact HB.out | apply below_alloc | apply pw_below_drewN | apply below_drew1) | exact HB.out)); (case side2 => exact HR0.out); (case side3 => exact HC0.out); rintro e w6 ⟨g1092, rfl, hi, hb, hb2⟩; refine ⟨_, rfl, ?_⟩; have n0_ := Aside0.mk (hb); have n1_ := Aside0.mk (hi); clear HB; have HB := n0_; have HI1092 := n1_; clear n0_ n1_; (try clear hb); (try clear hb2); (try clear hk); (try clear hi)) | (refine goesL_ (some 11) rfl rfl Try.func95 (by kernel_rfl) rfl #[.pointer (some ⟨g1092, 0, none⟩)] rfl ll_ ?_; (with_reducible refine (spec_l91Spread.calls k g1092 t1090 t1091 t1093 t1096 w _ ?side1 ?side2 A3.out).mono ?_); (case side1 => repeat (first | (with_reducible first | exact HI1092.out | apply IsS76.alloc | apply IsS76.drewN | apply IsS76.drew | apply IsS76.set_1) | exact HI1092.out)); (case side2 => repeat (first | (with_reducible first | exact HB.out | apply below_alloc | apply pw_below_drewN | apply below_drew1 | refine below_set ?_ (IsS76.ge HI1092.out)) | exact HB.out)); rintro e w7 ⟨v1094, rfl, ho0, hi, hb, hk⟩; refine ⟨_, rfl, ?_⟩; have n0_ := Aside0.mk (Kd.N_lower (Kd.N_mono (ok' := fun k_ => (w.heap.size ≤ k_) ∧ k_ ≠ g1092) ho0 (fun k_ hk_ => ⟨(Nat.le_trans (below_size (by repeat (first | (with_reducible first | exact HB.out | apply below_alloc | apply pw_below_drewN | apply below_drew1 | refine below_set ?_ (IsS76.ge HI1092.out)) | exact HB.out))) hk_), (IsS76.fresh (by repeat (first | (with_reducible first | exact HI1092.out | apply IsS76.alloc | apply IsS76.drewN | apply IsS76.drew | apply IsS76.set_1) | exact HI1092.out)) k_ hk_)⟩)) (below_size (by repeat (first | (with_reducible first | exact HB.out | apply below_alloc | apply pw_below_drewN | apply below_drew1 | refine below_set ?_ (IsS76.ge HI1092.out)) | exact HB.out)))); have n1_ := Aside0.mk (hb); have n2_ := Aside0.mk (hi); clear HB; clear HI1092; have HO1095 := n0_; have HB := n1_; have HI1092 := n2_; clear n0_ n1_ n2_; (try clear hb); (try clear hb2); (try clear hk); (try clear hi); (try clear ho0)) | (refine goesL_ (some 13) rfl rfl Try.func79 (by kernel_rfl) rfl #[.pointer (some ⟨g1092, 0, none⟩), .int .i64 82] rfl ll_ ?_; (with_reducible refine (spec_l6Rd_pick.calls k g1092 t1090 t1096 82 t1097 t1098 w _ ?side1 ?side2 A4.out).mono ?_); (case side1 => repeat (first | (with_reducible first | exact HI1092.out | apply IsS76.alloc | apply IsS76.drewN | apply IsS76.drew | apply IsS76.set_1) | exact HI1092.out)); (case side2 => repeat (first | (with_reducible first | exact HB.out | apply below_alloc | apply pw_below_drewN | apply below_drew1 | refine below_set ?_ (IsS76.ge HI1092.out)) | exact HB.out)); rintro e w8 ⟨rfl, hi, hb, hk⟩; refine ⟨_, rfl, ?_⟩; have n0_ := Aside0.mk (Kd.N_mono (Kd.N_keep (Kd.N_mono (ok := fun k_ => (((w.heap.size ≤ k_)) ∧ k_ ≠ g1092)) (by (with_reducible repeat (first | apply Kd.N_alloc | apply Kd.N_drewN | apply Kd.N_drew)); exact HO1095.out) (fun k_ hk_ => (⟨hk_, hk_.2⟩ : _ ∧ k_ ≠ g1092))) hk (fun _ h => h.2)) (fun _ h => h.1)); have n1_ := Aside0.mk (hb); have n2_ := Aside0.mk (hi); clear HO1095; clear HB; clear HI1092; have HO1095 := n0_; have HB := n1_; have HI1092 := n2_; clear n0_ n1_ n2_; (try clear hb); (try clear hb2); (try clear hk); (try clear hi)) | (refine goesL_ (some 17) rfl rfl Try.func79 (by kernel_rfl) rfl #[.pointer (some ⟨g1092, 0, none⟩), .int .i64 81] rfl ll_ ?_; (with_reducible refine (spec_l6Rd_pick.calls k g1092 t1090 t1098 81 t1099 t1100 w _ ?side1 ?side2 A5.out).mono ?_); (case side1 => repeat (first | (with_reducible first | exact HI1092.out | apply IsS76.alloc | apply IsS76.drewN | apply IsS76.drew | apply IsS76.set_1) | exact HI1092.out)); (case side2 => repeat (first | (with_reducible first | exact HB.out | apply below_alloc | apply pw_below_drewN | apply below_drew1 | refine below_set ?_ (IsS76.ge HI1092.out)) | exact HB.out)); rintro e w9 ⟨rfl, hi, hb, hk⟩; refine ⟨_, rfl, ?_⟩; have n0_ := Aside0.mk (Kd.N_mono (Kd.N_keep (Kd.N_mono (ok := fun k_ => (((w.heap.size ≤ k_)) ∧ k_ ≠ g1092)) (by (with_reducible repeat (first | apply Kd.N_alloc | apply Kd.N_drewN | apply Kd.N_drew)); exact HO1095.out) (fun k_ hk_ => (⟨hk_, hk_.2⟩ : _ ∧ k_ ≠ g1092))) hk (fun _ h => h.2)) (fun _ h => h.1)); have n1_ := Aside0.mk (hb); have n2_ := Aside0.mk (hi); clear HO1095; clear HB; clear HI1092; have HO1095 := n0_; have HB := n1_; have HI1092 := n2_; clear n0_ n1_ n2_; (try clear hb); (try clear hb2); (try clear hk); (try clear hi)))
 go_ret3
 exact ⟨_, ee_, by (with_reducible repeat (first | apply Kd.N_alloc | apply Kd.N_drewN | apply Kd.N_drew)); exact Kd.N_mono HO1095.out (fun _ hk => hk.1), by repeat (first | (with_reducible first | exact HB.out | apply below_alloc | apply pw_below_drewN | apply below_drew1 | refine below_set ?_ (IsS76.ge HI1092.out)) | exact HB.out)⟩
end Go.Proofs.Ytcbkoecanldlpaa.P

namespace Go.Proofs.Ytcbkoecanldlpaa.P
open Go.RowKit Go.Proofs.YtcbkoecanldlpaaW.PrintWords Go.Proofs.YtcbkoecanldlpaaW.PrintLast
set_option linter.unusedVariables false
set_option linter.unusedSimpArgs false

mutual
def spec_SpreadJoin.j0 : Nat → List (List Int) → Int → Int → Bool → Option (Int × Bool)
 | 0, _, _, _, _ => none
 | k + 1, x0, x1, x2, x27 => if x27 = true then (some (0, false)) else ((spec_l1Minus.f (wrap64 (Int.tdiv x2 9))).bind fun t1117 => ((spec_l1Minus.f (Int.tmod x2 9)).bind fun t1118 => ((spec_l6lAdd.f x1 (wrap64 ((wrap64 (9 * t1117)) + t1118))).bind fun t1119 => (spec_SpreadJoin.l0 k x0 t1119 0))))
def spec_SpreadJoin.l0 : Nat → List (List Int) → Int → Int → Option (Int × Bool)
 | 0, _, _, _ => none
 | k + 1, x0, x8, x9 => if x9 < 10 then (if 0 ≤ x9 then (if x9 < (x0.length : Int) then ((spec_l6lHas.f k (rd_LI x0 x9) x8).bind fun t1121 => (if t1121 = true then (some (x9, true)) else (spec_SpreadJoin.l0 k x0 x8 (wrap64 (x9 + 1))))) else (none)) else (none)) else (some (0, false))
end
def spec_SpreadJoin.f (k : Nat) (l0 : List (List Int)) (a1 : Int) (a2 : Int) : Option (Int × Bool) := (spec_SpreadIn.f k l0).bind fun t1114 => (if t1114 = true then ((spec_l6In.f a1 0 80).bind fun t1115 => (if t1115 = true then ((spec_l6In.f a2 0 80).bind fun t1116 => (if t1116 = true then (spec_SpreadJoin.j0 k l0 a1 a2 (a1 == a2)) else (spec_SpreadJoin.j0 k l0 a1 a2 true))) else (spec_SpreadJoin.j0 k l0 a1 a2 true))) else (spec_SpreadJoin.j0 k l0 a1 a2 true))
set_option maxHeartbeats 8000000 in
set_option maxRecDepth 100000 in
theorem spec_SpreadJoin.calls (k : Nat) (A0 : Option Addr) (c0 : Nat) (l0 : List (List Int)) (a1 : Int) (a2 : Int) (r1 : Int) (r2 : Bool) (w : World) (hr0 : Kd.C (Kd.slice 3 (Kd.int .i64)) w A0 l0.length l0) (hc0 : l0.length ≤ c0) (h : spec_SpreadJoin.f k l0 a1 a2 = some (r1, r2)) :
  Calls Try.prog 43 #[.slice A0 l0.length c0, .int .i64 a1, .int .i64 a2] w fun e w' => e = .returned (.tuple #[.int .i64 r1, .bool r2]) ∧ Below w.heap.size w w' := by
 have HR0 := Aside0.mk hr0
 have HC0 := Aside0.mk hc0
 clear hr0 hc0
 have HB := Aside0.mk (Below.refl w.heap.size w)
 have H : ((spec_SpreadIn.f k l0).bind fun t1114 => (if t1114 = true then ((spec_l6In.f a1 0 80).bind fun t1115 => (if t1115 = true then ((spec_l6In.f a2 0 80).bind fun t1116 => (if t1116 = true then (spec_SpreadJoin.j0 k l0 a1 a2 (a1 == a2)) else (spec_SpreadJoin.j0 k l0 a1 a2 true))) else (spec_SpreadJoin.j0 k l0 a1 a2 true))) else (spec_SpreadJoin.j0 k l0 a1 a2 true))) = some (r1, r2) := h
 clear h
 have HC4 := Aside0.mk H
 clear H
 go_enter Try.func43, Try.ntmps43
 go_upto_region 1 with (fail)
 go_cut [27] (fun v27 wc => ∃ (kq : Nat) (x27_3 : Bool), v27 = .bool x27_3 ∧ Aside0 (spec_SpreadJoin.j0 kq l0 a1 a2 x27_3 = some (r1, r2)) ∧ Aside0 (kq ≤ k) ∧ Aside0 (Below w.heap.size w wc))
 case first =>
  have H := HC4.out
  clear HC4
  replace H := Option.bind_eq_some_iff.mp H
  obtain ⟨t1114, A50, H⟩ := H
  replace H : (if t1114 = true then ((spec_l6In.f a1 0 80).bind fun t1115 => (if t1115 = true then ((spec_l6In.f a2 0 80).bind fun t1116 => (if t1116 = true then (spec_SpreadJoin.j0 k l0 a1 a2 (a1 == a2)) else (spec_SpreadJoin.j0 k l0 a1 a2 true))) else (spec_SpreadJoin.j0 k l0 a1 a2 true))) else (spec_SpreadJoin.j0 k l0 a1 a2 true)) = some (r1, r2) := H
  have A5 := Aside0.mk A50
  clear A50
  by_cases c6 : t1114 = true
  ·subst c6
   have H1 : ((spec_l6In.f a1 0 80).bind fun t1115 => (if t1115 = true then ((spec_l6In.f a2 0 80).bind fun t1116 => (if t1116 = true then (spec_SpreadJoin.j0 k l0 a1 a2 (a1 == a2)) else (spec_SpreadJoin.j0 k l0 a1 a2 true))) else (spec_SpreadJoin.j0 k l0 a1 a2 true))) = some (r1, r2) := by rw [if_pos rfl] at H; exact H
   clear H
   have H := H1
   clear H1
   replace H := Option.bind_eq_some_iff.mp H
   obtain ⟨t1115, A70, H⟩ := H
   replace H : (if t1115 = true then ((spec_l6In.f a2 0 80).bind fun t1116 => (if t1116 = true then (spec_SpreadJoin.j0 k l0 a1 a2 (a1 == a2)) else (spec_SpreadJoin.j0 k l0 a1 a2 true))) else (spec_SpreadJoin.j0 k l0 a1 a2 true)) = some (r1, r2) := H
   have A7 := Aside0.mk A70
   clear A70
   by_cases c8 : t1115 = true
   ·subst c8
    have H1 : ((spec_l6In.f a2 0 80).bind fun t1116 => (if t1116 = true then (spec_SpreadJoin.j0 k l0 a1 a2 (a1 == a2)) else (spec_SpreadJoin.j0 k l0 a1 a2 true))) = some (r1, r2) := by rw [if_pos rfl] at H; exact H
    clear H
    have H := H1
    clear H1
    replace H := Option.bind_eq_some_iff.mp H
    obtain ⟨t1116, A90, H⟩ := H
    replace H : (if t1116 = true then (spec_SpreadJoin.j0 k l0 a1 a2 (a1 == a2)) else (spec_SpreadJoin.j0 k l0 a1 a2 true)) = some (r1, r2) := H
    have A9 := Aside0.mk A90
    clear A90
    by_cases c10 : t1116 = true
    ·subst c10
     have H1 : (spec_SpreadJoin.j0 k l0 a1 a2 (a1 == a2)) = some (r1, r2) := by rw [if_pos rfl] at H; exact H
     clear H
     have H := H1
     clear H1
     have H' := Aside0.mk H
     clear H
     go_wp2_with (first | (refine goesL_ (some 11) rfl rfl Try.func46 (by kernel_rfl) rfl #[.slice A0 l0.length c0] rfl ll_ ?_; (with_reducible refine (spec_SpreadIn.calls k _ _ l0 true _ ?side1 ?side2 A5.out).mono ?_); (case side1 => exact sb_ HR0 HB); (case side2 => exact HC0.out); rintro e w11 ⟨rfl, hb⟩; refine ⟨_, rfl, ?_⟩; have n0_ := Aside0.mk (below_step (bb_ HB) hb); clear HB; have HB := n0_; clear n0_; (try clear hb); (try clear hb2); (try clear hk); (try clear hi)) | (go_at_call 87; (with_reducible refine (spec_l6In.calls a1 0 80 true _ A7.out).mono ?_); rintro e w' ⟨rfl, ⟨nd, rfl⟩⟩) | (go_at_call 87; (with_reducible refine (spec_l6In.calls a2 0 80 true _ A9.out).mono ?_); rintro e w' ⟨rfl, ⟨nd, rfl⟩⟩))
     go_meet
     case rel => exact ⟨_, ((a1 == a2)), (by first | rfl | (simp; done) | (simp [*]; done)), H', ⟨by first | omega | exact Nat.le_refl _⟩, ⟨by repeat (first | (with_reducible first | exact HB.out | apply below_alloc | apply pw_below_drewN | apply below_drew1) | exact HB.out)⟩⟩
    ·replace c10 := Bool.eq_false_iff.mpr c10
     subst c10
     have H1 : (spec_SpreadJoin.j0 k l0 a1 a2 true) = some (r1, r2) := by rw [if_neg (show ¬ (false = true) by decide)] at H; exact H
     clear H
     have H := H1
     clear H1
     have H' := Aside0.mk H
     clear H
     go_wp2_with (first | (refine goesL_ (some 11) rfl rfl Try.func46 (by kernel_rfl) rfl #[.slice A0 l0.length c0] rfl ll_ ?_; (with_reducible refine (spec_SpreadIn.calls k _ _ l0 true _ ?side1 ?side2 A5.out).mono ?_); (case side1 => exact sb_ HR0 HB); (case side2 => exact HC0.out); rintro e w12 ⟨rfl, hb⟩; refine ⟨_, rfl, ?_⟩; have n0_ := Aside0.mk (below_step (bb_ HB) hb); clear HB; have HB := n0_; clear n0_; (try clear hb); (try clear hb2); (try clear hk); (try clear hi)) | (go_at_call 87; (with_reducible refine (spec_l6In.calls a1 0 80 true _ A7.out).mono ?_); rintro e w' ⟨rfl, ⟨nd, rfl⟩⟩) | (go_at_call 87; (with_reducible refine (spec_l6In.calls a2 0 80 false _ A9.out).mono ?_); rintro e w' ⟨rfl, ⟨nd, rfl⟩⟩))
     go_meet
     case rel => exact ⟨_, (true), (by first | rfl | (simp; done) | (simp [*]; done)), H', ⟨by first | omega | exact Nat.le_refl _⟩, ⟨by repeat (first | (with_reducible first | exact HB.out | apply below_alloc | apply pw_below_drewN | apply below_drew1) | exact HB.out)⟩⟩
   ·replace c8 := Bool.eq_false_iff.mpr c8
    subst c8
    have H1 : (spec_SpreadJoin.j0 k l0 a1 a2 true) = some (r1, r2) := by rw [if_neg (show ¬ (false = true) by decide)] at H; exact H
    clear H
    have H := H1
    clear H1
    have H' := Aside0.mk H
    clear H
    go_wp2_with (first | (refine goesL_ (some 11) rfl rfl Try.func46 (by kernel_rfl) rfl #[.slice A0 l0.length c0] rfl ll_ ?_; (with_reducible refine (spec_SpreadIn.calls k _ _ l0 true _ ?side1 ?side2 A5.out).mono ?_); (case side1 => exact sb_ HR0 HB); (case side2 => exact HC0.out); rintro e w13 ⟨rfl, hb⟩; refine ⟨_, rfl, ?_⟩; have n0_ := Aside0.mk (below_step (bb_ HB) hb); clear HB; have HB := n0_; clear n0_; (try clear hb); (try clear hb2); (try clear hk); (try clear hi)) | (go_at_call 87; (with_reducible refine (spec_l6In.calls a1 0 80 false _ A7.out).mono ?_); rintro e w' ⟨rfl, ⟨nd, rfl⟩⟩))
    go_meet
    case rel => exact ⟨_, (true), (by first | rfl | (simp; done) | (simp [*]; done)), H', ⟨by first | omega | exact Nat.le_refl _⟩, ⟨by repeat (first | (with_reducible first | exact HB.out | apply below_alloc | apply pw_below_drewN | apply below_drew1) | exact HB.out)⟩⟩
  ·replace c6 := Bool.eq_false_iff.mpr c6
   subst c6
   have H1 : (spec_SpreadJoin.j0 k l0 a1 a2 true) = some (r1, r2) := by rw [if_neg (show ¬ (false = true) by decide)] at H; exact H
   clear H
   have H := H1
   clear H1
   have H' := Aside0.mk H
   clear H
   go_wp2_with (first | (refine goesL_ (some 11) rfl rfl Try.func46 (by kernel_rfl) rfl #[.slice A0 l0.length c0] rfl ll_ ?_; (with_reducible refine (spec_SpreadIn.calls k _ _ l0 false _ ?side1 ?side2 A5.out).mono ?_); (case side1 => exact sb_ HR0 HB); (case side2 => exact HC0.out); rintro e w14 ⟨rfl, hb⟩; refine ⟨_, rfl, ?_⟩; have n0_ := Aside0.mk (below_step (bb_ HB) hb); clear HB; have HB := n0_; clear n0_; (try clear hb); (try clear hb2); (try clear hk); (try clear hi)))
   go_meet
   case rel => exact ⟨_, (true), (by first | rfl | (simp; done) | (simp [*]; done)), H', ⟨by first | omega | exact Nat.le_refl _⟩, ⟨by repeat (first | (with_reducible first | exact HB.out | apply below_alloc | apply pw_below_drewN | apply below_drew1) | exact HB.out)⟩⟩
 case rest =>
  clear HC4
  try clear c1
  try clear p2
  try clear c4
  try clear c6
  try clear c8
  try clear c10
  obtain ⟨kq, x27_3, rfl, HA, HJ3, HB⟩ := hcut
  cases kq with
  | zero => exact absurd HA.out (by simp [spec_SpreadJoin.j0])
  | succ kj3 =>
   have H := HA.out
   clear HA
   simp only [spec_SpreadJoin.j0] at H
   by_cases c15 : x27_3 = true
   ·subst c15
    have H1 : (some (0, false)) = some (r1, r2) := by rw [if_pos rfl] at H; exact H
    clear H
    have H := H1
    clear H1
    simp only [Option.some.injEq, Prod.mk.injEq] at H
    obtain ⟨rfl, rfl⟩ := H
    go_wp2
    go_ret2
    exact ⟨ee_, bb_ HB⟩
   ·replace c15 := Bool.eq_false_iff.mpr c15
    subst c15
    have H1 : ((spec_l1Minus.f (wrap64 (Int.tdiv a2 9))).bind fun t1117 => ((spec_l1Minus.f (Int.tmod a2 9)).bind fun t1118 => ((spec_l6lAdd.f a1 (wrap64 ((wrap64 (9 * t1117)) + t1118))).bind fun t1119 => (spec_SpreadJoin.l0 kj3 l0 t1119 0)))) = some (r1, r2) := by rw [if_neg (show ¬ (false = true) by decide)] at H; exact H
    clear H
    have H := H1
    clear H1
    replace H := Option.bind_eq_some_iff.mp H
    obtain ⟨t1117, A160, H⟩ := H
    replace H : ((spec_l1Minus.f (Int.tmod a2 9)).bind fun t1118 => ((spec_l6lAdd.f a1 (wrap64 ((wrap64 (9 * t1117)) + t1118))).bind fun t1119 => (spec_SpreadJoin.l0 kj3 l0 t1119 0))) = some (r1, r2) := H
    have A16 := Aside0.mk A160
    clear A160
    replace H := Option.bind_eq_some_iff.mp H
    obtain ⟨t1118, A170, H⟩ := H
    replace H : ((spec_l6lAdd.f a1 (wrap64 ((wrap64 (9 * t1117)) + t1118))).bind fun t1119 => (spec_SpreadJoin.l0 kj3 l0 t1119 0)) = some (r1, r2) := H
    have A17 := Aside0.mk A170
    clear A170
    replace H := Option.bind_eq_some_iff.mp H
    obtain ⟨t1119, A180, H⟩ := H
    replace H : (spec_SpreadJoin.l0 kj3 l0 t1119 0) = some (r1, r2) := H
    have A18 := Aside0.mk A180
    clear A180
    have H' := Aside0.mk H
    clear H
    go_wp2_with (first | (refine goesL_ (some 31) rfl rfl Try.func100 (by kernel_rfl) rfl #[.int .i64 (wrap64 (Int.tdiv a2 9))] rfl ll_ ?_; (with_reducible refine (spec_l1Minus.calls (wrap64 (Int.tdiv a2 9)) t1117 _ A16.out).mono ?_); rintro e w' ⟨rfl, ⟨nd, rfl⟩⟩; refine ⟨_, rfl, ?_⟩) | (refine goesL_ (some 35) rfl rfl Try.func100 (by kernel_rfl) rfl #[.int .i64 (Int.tmod a2 9)] rfl ll_ ?_; (with_reducible refine (spec_l1Minus.calls (Int.tmod a2 9) t1118 _ A17.out).mono ?_); rintro e w' ⟨rfl, ⟨nd, rfl⟩⟩; refine ⟨_, rfl, ?_⟩) | (refine goesL_ (some 37) rfl rfl Try.func88 (by kernel_rfl) rfl #[.int .i64 a1, .int .i64 (wrap64 ((wrap64 (9 * t1117)) + t1118))] rfl ll_ ?_; (with_reducible refine (spec_l6lAdd.calls a1 (wrap64 ((wrap64 (9 * t1117)) + t1118)) t1119 _ A18.out).mono ?_); rintro e w' ⟨rfl, ⟨nd, rfl⟩⟩; refine ⟨_, rfl, ?_⟩))
    go_loopg [9] kj3 (fun kq v9 w' => ∃ (x9_2 : Int), v9 = .int .i64 x9_2 ∧ Aside0 (spec_SpreadJoin.l0 kq l0 t1119 x9_2 = some (r1, r2)) ∧ Aside0 (kq ≤ kj3) ∧ Aside0 (Below w.heap.size w w'))
    case atStart => exact ⟨(0), (by first | rfl | (simp; done) | (simp [*]; done)), H', ⟨Nat.le_refl _⟩, ⟨by repeat (first | (with_reducible first | exact HB.out | apply below_alloc | apply pw_below_drewN | apply below_drew1) | exact HB.out)⟩⟩
    case round =>
     clear H'
     try clear c1
     try clear p2
     try clear c4
     try clear c6
     try clear p6
     try clear c8
     try clear c10
     try clear c15
     try clear p2
     obtain ⟨x9_2, rfl, HA, HK2, HB⟩ := hrel
     cases gk with
     | zero => exact absurd HA.out (by simp [spec_SpreadJoin.l0])
     | succ k2 =>
      have H := HA.out
      clear HA
      simp only [spec_SpreadJoin.l0] at H
      by_cases c19 : x9_2 < 10
      ·rw [if_pos c19] at H
       have c19b0 : decide (x9_2 < 10) = true := decide_eq_true c19
       clear c19
       by_cases c20 : 0 ≤ x9_2
       ·rw [if_pos c20] at H
        have c20b0 : decide (0 ≤ x9_2) = true := decide_eq_true c20
        clear c20
        by_cases c21 : x9_2 < (l0.length : Int)
        ·rw [if_pos c21] at H
         have c21b0 : decide (x9_2 < (l0.length : Int)) = true := decide_eq_true c21
         clear c21
         replace H := Option.bind_eq_some_iff.mp H
         obtain ⟨t1121, A220, H⟩ := H
         replace H : (if t1121 = true then (some (x9_2, true)) else (spec_SpreadJoin.l0 k2 l0 t1119 (wrap64 (x9_2 + 1)))) = some (r1, r2) := H
         have A22 := Aside0.mk A220
         clear A220
         by_cases c23 : t1121 = true
         ·subst c23
          have H1 : (some (x9_2, true)) = some (r1, r2) := by rw [if_pos rfl] at H; exact H
          clear H
          have H := H1
          clear H1
          simp only [Option.some.injEq, Prod.mk.injEq] at H
          obtain ⟨rfl, rfl⟩ := H
          have p1120 : 0 ≤ (x9_2 : Int) := dd_
          have q1120 : x9_2 < (l0.length : Int) := dd_
          obtain ⟨ad1120, A1120_0, c1120_0, e1120, hx1120_0, hl1120_0, hi1120_0⟩ := at_LI HR0.out x9_2 p1120 q1120
          cases e1120
          replace hx1120_0 := hc_ HB hx1120_0
          have HR1120_0 := Aside0.mk hi1120_0
          have HC1120_0 := Aside0.mk hl1120_0
          clear hi1120_0 hl1120_0
          replace p1120 := eq_true p1120
          replace q1120 := eq_true q1120
          go_wp2_with (first | (refine goesL_ (some 47) rfl rfl Try.func101 (by kernel_rfl) rfl #[.slice A1120_0 (rd_LI l0 x9_2).length c1120_0, .int .i64 t1119] rfl ll_ ?_; (with_reducible refine (spec_l6lHas.calls k2 _ _ (rd_LI l0 x9_2) t1119 true _ ?side1 ?side2 A22.out).mono ?_); (case side1 => exact sb_ HR1120_0 HB); (case side2 => exact HC1120_0.out); rintro e w' ⟨rfl, ⟨nd, rfl⟩⟩; refine ⟨_, rfl, ?_⟩))
          go_ret2
          exact ⟨ee_, bb_ HB⟩
         ·replace c23 := Bool.eq_false_iff.mpr c23
          subst c23
          have H1 : (spec_SpreadJoin.l0 k2 l0 t1119 (wrap64 (x9_2 + 1))) = some (r1, r2) := by rw [if_neg (show ¬ (false = true) by decide)] at H; exact H
          clear H
          have H := H1
          clear H1
          have H' := Aside0.mk H
          clear H
          have p1120 : 0 ≤ (x9_2 : Int) := dd_
          have q1120 : x9_2 < (l0.length : Int) := dd_
          obtain ⟨ad1120, A1120_0, c1120_0, e1120, hx1120_0, hl1120_0, hi1120_0⟩ := at_LI HR0.out x9_2 p1120 q1120
          cases e1120
          replace hx1120_0 := hc_ HB hx1120_0
          have HR1120_0 := Aside0.mk hi1120_0
          have HC1120_0 := Aside0.mk hl1120_0
          clear hi1120_0 hl1120_0
          replace p1120 := eq_true p1120
          replace q1120 := eq_true q1120
          go_wp2_with (first | (refine goesL_ (some 47) rfl rfl Try.func101 (by kernel_rfl) rfl #[.slice A1120_0 (rd_LI l0 x9_2).length c1120_0, .int .i64 t1119] rfl ll_ ?_; (with_reducible refine (spec_l6lHas.calls k2 _ _ (rd_LI l0 x9_2) t1119 false _ ?side1 ?side2 A22.out).mono ?_); (case side1 => exact sb_ HR1120_0 HB); (case side2 => exact HC1120_0.out); rintro e w' ⟨rfl, ⟨nd, rfl⟩⟩; refine ⟨_, rfl, ?_⟩))
          go_roundg k2
          case measure => have := HJ3.out; have := HK2.out; omega
          case rel => exact ⟨(wrap64 (x9_2 + 1)), (by first | rfl | (simp; done) | (simp [*]; done)), H', ⟨by have := HJ3.out; have := HK2.out; omega⟩, ⟨by repeat (first | (with_reducible first | exact HB.out | apply below_alloc | apply pw_below_drewN | apply below_drew1) | exact HB.out)⟩⟩
        ·rw [if_neg c21] at H
         exact absurd H (by simp)
       ·rw [if_neg c20] at H
        exact absurd H (by simp)
      ·rw [if_neg c19] at H
       have c19b0 : decide (x9_2 < 10) = false := decide_eq_false c19
       clear c19
       simp only [Option.some.injEq, Prod.mk.injEq] at H
       obtain ⟨rfl, rfl⟩ := H
       go_wp2
       go_ret2
       exact ⟨ee_, bb_ HB⟩
end Go.Proofs.Ytcbkoecanldlpaa.P

namespace Go.Proofs.Ytcbkoecanldlpaa.P
open Go.RowKit Go.Proofs.YtcbkoecanldlpaaW.PrintWords Go.Proofs.YtcbkoecanldlpaaW.PrintLast
set_option linter.unusedVariables false
set_option linter.unusedSimpArgs false

def laws_toIntS.l0 : Nat → List Int → List Int → Int → Option (List Int)
 | 0, _, _, _ => none
 | k + 1, x0, x3, x4 => if x4 < (x0.length : Int) then (if 0 ≤ x4 then (if x4 < (x3.length : Int) then (laws_toIntS.l0 k x0 (x3.set (x4 : Int).toNat (rd x0 x4)) (wrap64 (x4 + 1))) else (none)) else (none)) else (some x3)
def laws_toIntS.f (k : Nat) (l0 : List Int) : Option (List Int) := if 0 ≤ (l0.length : Int) then (if ((l0.length : Int) : Int).toNat ≤ 35184372088832 then (laws_toIntS.l0 k l0 (List.replicate ((l0.length : Int) : Int).toNat 0) 0) else (none)) else (none)
set_option maxHeartbeats 8000000 in
set_option maxRecDepth 100000 in
theorem laws_toIntS.calls (k : Nat) (A0 : Option Addr) (c0 : Nat) (l0 : List Int) (r : List Int) (w : World) (hr0 : Kd.C (Kd.int .i64) w A0 l0.length l0) (hc0 : l0.length ≤ c0) (h : laws_toIntS.f k l0 = some r) :
  Calls Try.prog 33 #[.slice A0 l0.length c0] w fun e w' => ∃ v0_ : Value, e = .returned (v0_) ∧ Kd.R (Kd.int .i64) 3 w' w.heap.size (fun _ => True) v0_ r ∧ Below w.heap.size w w' := by
 have HR0 := Aside0.mk hr0
 have HC0 := Aside0.mk hc0
 clear hr0 hc0
 have HB := Aside0.mk (Below.refl w.heap.size w)
 have H : (if 0 ≤ (l0.length : Int) then (if ((l0.length : Int) : Int).toNat ≤ 35184372088832 then (laws_toIntS.l0 k l0 (List.replicate ((l0.length : Int) : Int).toNat 0) 0) else (none)) else (none)) = some r := h
 clear h
 by_cases c2 : 0 ≤ (l0.length : Int)
 ·rw [if_pos c2] at H
  have c2b0 := eq_true c2
  have c2b1 : decide (0 ≤ (l0.length : Int)) = true := decide_eq_true c2
  clear c2
  by_cases c3 : ((l0.length : Int) : Int).toNat ≤ 35184372088832
  ·rw [if_pos c3] at H
   have c3b0 := eq_true c3
   have c3b1 : decide (((l0.length : Int) : Int).toNat ≤ 35184372088832) = true := decide_eq_true c3
   clear c3
   obtain ⟨y644, hy644⟩ : ∃ y_ : List Int, y_ = (List.replicate ((l0.length : Int) : Int).toNat 0) := ⟨_, rfl⟩
   replace H : (laws_toIntS.l0 k l0 y644 0) = some r := by first | (rw [hy644]; with_reducible exact H) | (have H2_ := (Option.bind_some _ _).symm.trans H; rw [hy644]; with_reducible exact H2_) | (have H2_ := (Option.bind_some _ _).symm.trans H; with_reducible exact H2_) | with_reducible exact H | (rw [hy644]; exact H) | exact H
   have Ny644 := Aside0.mk hy644
   clear hy644
   have H' := Aside0.mk H
   clear H
   go_enter Try.func33, Try.ntmps33
   go_wp2_with (first | ((with_reducible refine gate_dst (N := 7) rfl ?_); refine Kd.R_make (Kd.int .i64) _ 3 rfl (N := 7) rfl 23 _ _ rfl (l0.length : Int) rfl rfl Try.underlying23 (.int .i64 0) 8 info3 rfl (by decide) (by omega) 0 (ok := fun _ => True) (okp := fun _ => True) rfl (fun _ hk => hk) trivial (dd_) (Nat.le_trans (Nat.mul_le_mul_right _ (dd_ : (l0.length : Int).toNat ≤ 35184372088832)) (by omega)) (Below.refl _ _) (Nat.le_refl _) ?_; intro v645 w4 ho5 hb hg_ hnew_; clear hg_ hnew_; (first | rw [← Ny644.out] at ho5 | (simp only [Int.reduceToNat] at ho5; rw [← Ny644.out] at ho5)); have n0_ := Aside0.mk (Kd.R_lower ho5 (below_size (bb_ HB))); have n1_ := Aside0.mk (below_step (bb_ HB) hb); clear HB; have HO646 := n0_; have HB := n1_; clear n0_ n1_; clear hb ho5))
   go_loopg [4] k (fun kq v4 w' => ∃ (x3_1 : List Int) (x4_1 : Int), v4 = .int .i64 x4_1 ∧ Aside0 (laws_toIntS.l0 kq l0 x3_1 x4_1 = some r) ∧ Aside0 (kq ≤ k) ∧ Aside0 (Kd.R (Kd.int .i64) 3 w' w.heap.size (fun _ => True) v645 x3_1) ∧ Aside0 (Below w.heap.size w w'))
   case atStart => exact ⟨(y644), (0), (by first | rfl | (simp; done) | (simp [*]; done)), H', ⟨Nat.le_refl _⟩, ⟨rr_ HO646⟩, ⟨by repeat (first | (with_reducible first | exact HB.out | apply below_alloc | apply pw_below_drewN | apply below_drew1) | exact HB.out)⟩⟩
   case round =>
    clear H'
    try clear c2
    try clear c2b0
    try clear c2b1
    try clear p2
    try clear c3
    try clear c3b0
    try clear c3b1
    obtain ⟨x3_1, x4_1, rfl, HA, HK1, HO_3, HB⟩ := hrel
    cases gk with
    | zero => exact absurd HA.out (by simp [laws_toIntS.l0])
    | succ k1 =>
     have H := HA.out
     clear HA
     simp only [laws_toIntS.l0] at H
     by_cases c6 : x4_1 < (l0.length : Int)
     ·rw [if_pos c6] at H
      have c6b0 : decide (x4_1 < (l0.length : Int)) = true := decide_eq_true c6
      clear c6
      by_cases c7 : 0 ≤ x4_1
      ·rw [if_pos c7] at H
       have c7b0 : decide (0 ≤ x4_1) = true := decide_eq_true c7
       clear c7
       by_cases c8 : x4_1 < (x3_1.length : Int)
       ·rw [if_pos c8] at H
        have c8b0 : decide (x4_1 < (x3_1.length : Int)) = true := decide_eq_true c8
        clear c8
        obtain ⟨y648, hy648⟩ : ∃ y_ : List Int, y_ = (x3_1.set (x4_1 : Int).toNat (rd l0 x4_1)) := ⟨_, rfl⟩
        replace H : (laws_toIntS.l0 k1 l0 y648 (wrap64 (x4_1 + 1))) = some r := by first | (rw [hy648]; with_reducible exact H) | (have H2_ := (Option.bind_some _ _).symm.trans H; rw [hy648]; with_reducible exact H2_) | (have H2_ := (Option.bind_some _ _).symm.trans H; with_reducible exact H2_) | with_reducible exact H | (rw [hy648]; exact H) | exact H
        have Ny648 := Aside0.mk hy648
        clear hy648
        have H' := Aside0.mk H
        clear H
        have p647 : 0 ≤ (x4_1 : Int) := dd_
        have q647 : x4_1 < (l0.length : Int) := dd_
        obtain ⟨ad647, e647, hx647_0⟩ := Kd.at_int HR0.out x4_1 p647 q647
        cases e647
        replace hx647_0 := hc_ HB hx647_0
        replace p647 := eq_true p647
        replace q647 := eq_true q647
        have p9 : 0 ≤ (x4_1 : Int) := dd_
        have q9 : (x4_1 : Int) < ((x3_1.length : Int) : Int) := dd_
        obtain ⟨go9, co9, eo9, gb9, gl9, cl9, HG9⟩ := Kd.R_form HO_3.out (by omega)
        (first | cases eo9 | (injection eo9 with ea_ en_ ec_; (first | subst ea_ | (injection ea_ with ea_; subst ea_)); subst ec_; clear en_))
        have GB9 := Aside0.mk gb9
        have GG9 := Aside0.mk HG9
        clear gb9 gl9 HG9
        obtain ⟨hx9_0, hf9_0⟩ := Kd.R_celln 0 HO_3.out (x4_1 : Int) p9 q9
        replace p9 := eq_true p9
        replace q9 := eq_true q9
        have HP10 := Kd.R_putg HO_3.out (x4_1 : Int) (rd l0 x4_1)
        go_wp2_with (first | ((with_reducible refine gate_store (t := 3) (p := 20) rfl ?_); refine store_event (t := 3) (p := 20) (v := ?vo_w11) (w1 := (wr.setCell ⟨go9, (x4_1 : Int).toNat, none⟩ (.int .i64 (rd l0 x4_1)))) ?hg ?ho ?hn ?hr ?_; (case ho => rfl); (case hg => rfl); (case hn => rfl); (case hr => first | (go_simp; done) | (go_simp; rfl)); intro w11 hw; have hg : wr.grownBy w11 (some go9) := (by rw [hw]; exact HP10.2); have hp_ : Kd.R (Kd.int .i64) 3 w11 w.heap.size (fun _ => True) (.slice (some ⟨go9, 0, none⟩) x3_1.length co9) y648 := (by rw [hw, Ny648.out]; exact HP10.1); clear HP10; have n0_ := Aside0.mk (hp_); have n1_ := Aside0.mk ((by rw [hw]; exact below_set (HB.out) GB9.out : Below w.heap.size w w11)); clear HO_3; clear HB; have HO_3 := n0_; have HB := n1_; clear n0_ n1_; clear hg hw hp_))
        go_roundg k1
        case measure => have := HK1.out; omega
        case rel => exact ⟨(y648), (wrap64 (x4_1 + 1)), (by first | rfl | (simp; done) | (simp [*]; done)), H', ⟨by have := HK1.out; omega⟩, ⟨rr_ HO_3⟩, ⟨by repeat (first | (with_reducible first | exact HB.out | apply below_alloc | apply pw_below_drewN | apply below_drew1) | exact HB.out)⟩⟩
       ·rw [if_neg c8] at H
        exact absurd H (by simp)
      ·rw [if_neg c7] at H
       exact absurd H (by simp)
     ·rw [if_neg c6] at H
      have c6b0 : decide (x4_1 < (l0.length : Int)) = false := decide_eq_false c6
      clear c6
      obtain rfl := Option.some.inj H
      go_wp2
      go_ret
      exact ⟨_, ee_, by (with_reducible repeat (first | apply Kd.R_alloc | apply Kd.R_drewN | apply Kd.R_drew)); exact HO_3.out, bb_ HB⟩
  ·rw [if_neg c3] at H
   exact absurd H (by simp)
 ·rw [if_neg c2] at H
  exact absurd H (by simp)
end Go.Proofs.Ytcbkoecanldlpaa.P

namespace Go.Proofs.Ytcbkoecanldlpaa.P
open Go.RowKit Go.Proofs.YtcbkoecanldlpaaW.PrintWords Go.Proofs.YtcbkoecanldlpaaW.PrintLast
set_option linter.unusedVariables false
set_option linter.unusedSimpArgs false

def laws_eqIntS.l0 : Nat → List Int → List Int → Int → Option (Bool)
 | 0, _, _, _ => none
 | k + 1, x0, x1, x5 => if x5 < (x0.length : Int) then (if 0 ≤ x5 then (if x5 < (x1.length : Int) then (if (rd x0 x5) = (rd x1 x5) then (laws_eqIntS.l0 k x0 x1 (wrap64 (x5 + 1))) else (some false)) else (none)) else (none)) else (some true)
def laws_eqIntS.f (k : Nat) (l0 : List Int) (l1 : List Int) : Option (Bool) := if (l0.length : Int) = (l1.length : Int) then (laws_eqIntS.l0 k l0 l1 0) else (some false)
set_option maxHeartbeats 8000000 in
set_option maxRecDepth 100000 in
theorem laws_eqIntS.calls (k : Nat) (A0 : Option Addr) (c0 : Nat) (l0 : List Int) (A1 : Option Addr) (c1 : Nat) (l1 : List Int) (r : Bool) (w : World) (hr0 : Kd.C (Kd.int .i64) w A0 l0.length l0) (hc0 : l0.length ≤ c0) (hr1 : Kd.C (Kd.int .i64) w A1 l1.length l1) (hc1 : l1.length ≤ c1) (h : laws_eqIntS.f k l0 l1 = some r) :
  Calls Try.prog 35 #[.slice A0 l0.length c0, .slice A1 l1.length c1] w fun e w' => e = .returned (.bool r) ∧ Drawn0 w w' := by
 have HR0 := Aside0.mk hr0
 have HC0 := Aside0.mk hc0
 clear hr0 hc0
 have HR1 := Aside0.mk hr1
 have HC1 := Aside0.mk hc1
 clear hr1 hc1
 have H : (if (l0.length : Int) = (l1.length : Int) then (laws_eqIntS.l0 k l0 l1 0) else (some false)) = some r := h
 clear h
 by_cases c3 : (l0.length : Int) = (l1.length : Int)
 ·rw [if_pos c3] at H
  have c3b0 : ((l0.length : Int) == (l1.length : Int)) = true := beq_iff_eq.mpr c3
  have c3b1 : ((l0.length : Int) != (l1.length : Int)) = false := bne_eq_false_iff_eq.mpr c3
  have c3b2 : (l0.length == l1.length) = true := by first | simpa using c3 | (simp at c3 ⊢; omega)
  clear c3
  have H' := Aside0.mk H
  clear H
  go_enter Try.func35, Try.ntmps35
  go_wp2
  repeat (go_quiet (fail); try go_wp2)
  go_loopg [5] k (fun kq v5 w' => ∃ (x5_1 : Int), v5 = .int .i64 x5_1 ∧ Aside0 (laws_eqIntS.l0 kq l0 l1 x5_1 = some r) ∧ Aside0 (kq ≤ k) ∧ Drawn0 w w')
  case atStart => exact ⟨(0), (by first | rfl | (simp; done) | (simp [*]; done)), H', ⟨Nat.le_refl _⟩, by repeat (first | exact Drawn0.refl _ | apply Drawn0.step)⟩
  case round =>
   clear H'
   try clear c1
   try clear p2
   try clear c3
   try clear c3b0
   try clear c3b1
   try clear c3b2
   obtain ⟨x5_1, rfl, HA, HK1, ⟨m1, rfl⟩⟩ := hrel
   cases gk with
   | zero => exact absurd HA.out (by simp [laws_eqIntS.l0])
   | succ k1 =>
    have H := HA.out
    clear HA
    simp only [laws_eqIntS.l0] at H
    by_cases c4 : x5_1 < (l0.length : Int)
    ·rw [if_pos c4] at H
     have c4b0 : decide (x5_1 < (l0.length : Int)) = true := decide_eq_true c4
     clear c4
     by_cases c5 : 0 ≤ x5_1
     ·rw [if_pos c5] at H
      have c5b0 : decide (0 ≤ x5_1) = true := decide_eq_true c5
      clear c5
      by_cases c6 : x5_1 < (l1.length : Int)
      ·rw [if_pos c6] at H
       have c6b0 : decide (x5_1 < (l1.length : Int)) = true := decide_eq_true c6
       clear c6
       by_cases c7 : (rd l0 x5_1) = (rd l1 x5_1)
       ·rw [if_pos c7] at H
        have c7b0 : ((rd l0 x5_1) == (rd l1 x5_1)) = true := beq_iff_eq.mpr c7
        have c7b1 : ((rd l0 x5_1) != (rd l1 x5_1)) = false := bne_eq_false_iff_eq.mpr c7
        clear c7
        have H' := Aside0.mk H
        clear H
        have p787 : 0 ≤ (x5_1 : Int) := dd_
        have q787 : x5_1 < (l0.length : Int) := dd_
        obtain ⟨ad787, e787, hx787_0⟩ := Kd.at_int HR0.out x5_1 p787 q787
        cases e787
        replace p787 := eq_true p787
        replace q787 := eq_true q787
        have p788 : 0 ≤ (x5_1 : Int) := dd_
        have q788 : x5_1 < (l1.length : Int) := dd_
        obtain ⟨ad788, e788, hx788_0⟩ := Kd.at_int HR1.out x5_1 p788 q788
        cases e788
        replace p788 := eq_true p788
        replace q788 := eq_true q788
        go_wp2
        repeat (go_quiet (fail); try go_wp2)
        go_roundg k1
        case measure => have := HK1.out; omega
        case rel => exact ⟨(wrap64 (x5_1 + 1)), (by first | rfl | (simp; done) | (simp [*]; done)), H', ⟨by have := HK1.out; omega⟩, by repeat (first | exact Drawn0.refl _ | apply Drawn0.step)⟩
       ·rw [if_neg c7] at H
        have c7b0 : ((rd l0 x5_1) == (rd l1 x5_1)) = false := beq_eq_false_iff_ne.mpr c7
        have c7b1 : ((rd l0 x5_1) != (rd l1 x5_1)) = true := bne_iff_ne.mpr c7
        obtain rfl := Option.some.inj H
        have p787 : 0 ≤ (x5_1 : Int) := dd_
        have q787 : x5_1 < (l0.length : Int) := dd_
        obtain ⟨ad787, e787, hx787_0⟩ := Kd.at_int HR0.out x5_1 p787 q787
        cases e787
        replace p787 := eq_true p787
        replace q787 := eq_true q787
        have p788 : 0 ≤ (x5_1 : Int) := dd_
        have q788 : x5_1 < (l1.length : Int) := dd_
        obtain ⟨ad788, e788, hx788_0⟩ := Kd.at_int HR1.out x5_1 p788 q788
        cases e788
        replace p788 := eq_true p788
        replace q788 := eq_true q788
        go_wp2
        repeat (go_quiet (fail); try go_wp2)
        go_ret
        exact ⟨by first | rfl | (simp; done) | (simp [*]; done), by repeat (first | exact Drawn0.refl _ | apply Drawn0.step)⟩
      ·rw [if_neg c6] at H
       exact absurd H (by simp)
     ·rw [if_neg c5] at H
      exact absurd H (by simp)
    ·rw [if_neg c4] at H
     have c4b0 : decide (x5_1 < (l0.length : Int)) = false := decide_eq_false c4
     clear c4
     obtain rfl := Option.some.inj H
     go_wp2
     repeat (go_quiet (fail); try go_wp2)
     go_ret
     exact ⟨by first | rfl | (simp; done) | (simp [*]; done), by repeat (first | exact Drawn0.refl _ | apply Drawn0.step)⟩
 ·rw [if_neg c3] at H
  have c3b0 : ((l0.length : Int) == (l1.length : Int)) = false := beq_eq_false_iff_ne.mpr c3
  have c3b1 : ((l0.length : Int) != (l1.length : Int)) = true := bne_iff_ne.mpr c3
  have c3b2 : (l0.length == l1.length) = false := by first | simpa using c3 | (simp at c3 ⊢; omega)
  obtain rfl := Option.some.inj H
  go_enter Try.func35, Try.ntmps35
  go_wp2
  repeat (go_quiet (fail); try go_wp2)
  go_ret
  exact ⟨by first | rfl | (simp; done) | (simp [*]; done), by repeat (first | exact Drawn0.refl _ | apply Drawn0.step)⟩
end Go.Proofs.Ytcbkoecanldlpaa.P

namespace Go.Proofs.Ytcbkoecanldlpaa.P
open Go.RowKit Go.Proofs.YtcbkoecanldlpaaW.PrintWords Go.Proofs.YtcbkoecanldlpaaW.PrintLast
set_option linter.unusedVariables false
set_option linter.unusedSimpArgs false

def laws_markIntS.l0 : Nat → List Int → Int → Int → Option (Int × List Int)
 | 0, _, _, _ => none
 | k + 1, x0, x1, x5 => if x5 < (x0.length : Int) then (if 0 ≤ x5 then (laws_markIntS.l0 k (x0.set (x5 : Int).toNat x1) (wrap64 (x1 + 1)) (wrap64 (x5 + 1))) else (none)) else (some (x1, x0))
def laws_markIntS.f (k : Nat) (l0 : List Int) (a1 : Int) : Option (Int × List Int) := laws_markIntS.l0 k l0 a1 0
set_option maxHeartbeats 8000000 in
set_option maxRecDepth 100000 in
theorem laws_markIntS.calls (k : Nat) (P0_ : Nat → Prop) (u9000_ : Value) (l0 : List Int) (a1 : Int) (r1 : Int) (r2 : List Int) (w0 w : World) (hB : Below w0.heap.size w0 w) (ho0 : Kd.R (Kd.int .i64) 3 w w0.heap.size P0_ u9000_ l0) (h : laws_markIntS.f k l0 a1 = some (r1, r2)) :
  Calls Try.prog 36 #[u9000_, .int .i64 a1] w fun e w' => e = .returned (.int .i64 r1) ∧ Kd.R (Kd.int .i64) 3 w' w0.heap.size (fun k_ => (P0_ k_ ∨ w.heap.size ≤ k_)) u9000_ r2 ∧ Below w0.heap.size w0 w' ∧ Kept w w' (fun k_ => P0_ k_) := by
 have HO0 := Aside0.mk (show Kd.R (Kd.int .i64) 3 w w0.heap.size (fun k_ => (P0_ k_ ∨ w.heap.size ≤ k_)) u9000_ l0 from Kd.R_mono ho0 (fun k_ hk => (.inl hk)))
 have HK := Aside0.mk (Kept.refl w (fun k_ => P0_ k_))
 have HW0 := Aside0.mk hB.size
 have HB := Aside0.mk hB
 clear hB
 have H : (laws_markIntS.l0 k l0 a1 0) = some (r1, r2) := h
 clear h
 have H' := Aside0.mk H
 clear H
 go_enter Try.func36, Try.ntmps36
 go_wp2
 go_loopg [1, 5] k (fun kq v1 v5 w' => ∃ (x0_1 : List Int) (x1_1 : Int) (x5_1 : Int), v1 = .int .i64 x1_1 ∧ v5 = .int .i64 x5_1 ∧ Aside0 (laws_markIntS.l0 kq x0_1 x1_1 x5_1 = some (r1, r2)) ∧ Aside0 (kq ≤ k) ∧ Aside0 (Kd.R (Kd.int .i64) 3 w' w0.heap.size (fun k_ => (P0_ k_ ∨ w.heap.size ≤ k_)) u9000_ x0_1) ∧ Aside0 (Kept w w' (fun k_ => P0_ k_)) ∧ Aside0 (Below w0.heap.size w0 w'))
 case atStart => exact ⟨(l0), (a1), (0), (by first | rfl | (simp; done) | (simp [*]; done)), (by first | rfl | (simp; done) | (simp [*]; done)), H', ⟨Nat.le_refl _⟩, ⟨rr_ HO0⟩, ⟨by repeat (first | (with_reducible first | exact HK.out | apply Kept.alloc | apply Kept.drewN | apply Kept.drew) | exact HK.out)⟩, ⟨by repeat (first | (with_reducible first | exact HB.out | apply below_alloc | apply pw_below_drewN | apply below_drew1) | exact HB.out)⟩⟩
 case round =>
  clear H'
  try clear p2
  obtain ⟨x0_1, x1_1, x5_1, rfl, rfl, HA, HK1, HO_0, HK, HB⟩ := hrel
  cases gk with
  | zero => exact absurd HA.out (by simp [laws_markIntS.l0])
  | succ k1 =>
   have H := HA.out
   clear HA
   simp only [laws_markIntS.l0] at H
   by_cases c3 : x5_1 < (x0_1.length : Int)
   ·rw [if_pos c3] at H
    have c3b0 : decide (x5_1 < (x0_1.length : Int)) = true := decide_eq_true c3
    clear c3
    by_cases c4 : 0 ≤ x5_1
    ·rw [if_pos c4] at H
     have c4b0 : decide (0 ≤ x5_1) = true := decide_eq_true c4
     clear c4
     obtain ⟨y789, hy789⟩ : ∃ y_ : List Int, y_ = (x0_1.set (x5_1 : Int).toNat x1_1) := ⟨_, rfl⟩
     replace H : (laws_markIntS.l0 k1 y789 (wrap64 (x1_1 + 1)) (wrap64 (x5_1 + 1))) = some (r1, r2) := by first | (rw [hy789]; with_reducible exact H) | (have H2_ := (Option.bind_some _ _).symm.trans H; rw [hy789]; with_reducible exact H2_) | (have H2_ := (Option.bind_some _ _).symm.trans H; with_reducible exact H2_) | with_reducible exact H | (rw [hy789]; exact H) | exact H
     have Ny789 := Aside0.mk hy789
     clear hy789
     have H' := Aside0.mk H
     clear H
     obtain ⟨Ao6, co6, eo6⟩ := Kd.R_slice HO_0.out
     subst eo6
     have p5 : 0 ≤ (x5_1 : Int) := dd_
     have q5 : (x5_1 : Int) < ((x0_1.length : Int) : Int) := dd_
     obtain ⟨go5, co5, eo5, gb5, gl5, cl5, HG5⟩ := Kd.R_form HO_0.out (by omega)
     (first | cases eo5 | (injection eo5 with ea_ en_ ec_; (first | subst ea_ | (injection ea_ with ea_; subst ea_)); subst ec_; clear en_))
     have GB5 := Aside0.mk gb5
     have GG5 := Aside0.mk HG5
     clear gb5 gl5 HG5
     have HMgo5 := Aside0.mk (show (P0_ go5 ∨ w.heap.size ≤ go5) from (HO_0.out.1 _ rfl))
     obtain ⟨hx5_0, hf5_0⟩ := Kd.R_celln 0 HO_0.out (x5_1 : Int) p5 q5
     replace p5 := eq_true p5
     replace q5 := eq_true q5
     have HP7 := Kd.R_putg HO_0.out (x5_1 : Int) x1_1
     go_wp2_with (first | ((with_reducible refine gate_store (t := 3) (p := 15) rfl ?_); refine store_event (t := 3) (p := 15) (v := ?vo_w8) (w1 := (wr.setCell ⟨go5, (x5_1 : Int).toNat, none⟩ (.int .i64 x1_1))) ?hg ?ho ?hn ?hr ?_; (case ho => rfl); (case hg => rfl); (case hn => rfl); (case hr => first | (go_simp; done) | (go_simp; rfl)); intro w8 hw; have hg : wr.grownBy w8 (some go5) := (by rw [hw]; exact HP7.2); have hp_ : Kd.R (Kd.int .i64) 3 w8 w0.heap.size (fun k_ => (P0_ k_ ∨ w.heap.size ≤ k_)) (.slice (some ⟨go5, 0, none⟩) x0_1.length co6) y789 := (by rw [hw, Ny789.out]; exact HP7.1); clear HP7; have n0_ := Aside0.mk (hp_); have n1_ := Aside0.mk ((by rw [hw]; exact below_set (HB.out) GB5.out : Below w0.heap.size w0 w8)); have n2_ := Aside0.mk (Kept.of_grown (S := (fun k_ => P0_ k_)) hg (by repeat (first | (with_reducible first | exact HK.out | apply Kept.alloc | apply Kept.drewN | apply Kept.drew) | exact HK.out)) (fun k_ e_ => (HO_0.out.1 k_ e_))); clear HO_0; clear HB; clear HK; have HO_0 := n0_; have HB := n1_; have HK := n2_; clear n0_ n1_ n2_; clear hg hw hp_))
     go_roundg k1
     case measure => have := HK1.out; omega
     case rel => exact ⟨(y789), (wrap64 (x1_1 + 1)), (wrap64 (x5_1 + 1)), (by first | rfl | (simp; done) | (simp [*]; done)), (by first | rfl | (simp; done) | (simp [*]; done)), H', ⟨by have := HK1.out; omega⟩, ⟨rr_ HO_0⟩, ⟨by repeat (first | (with_reducible first | exact HK.out | apply Kept.alloc | apply Kept.drewN | apply Kept.drew) | exact HK.out)⟩, ⟨by repeat (first | (with_reducible first | exact HB.out | apply below_alloc | apply pw_below_drewN | apply below_drew1) | exact HB.out)⟩⟩
    ·rw [if_neg c4] at H
     exact absurd H (by simp)
   ·rw [if_neg c3] at H
    have c3b0 : decide (x5_1 < (x0_1.length : Int)) = false := decide_eq_false c3
    clear c3
    simp only [Option.some.injEq, Prod.mk.injEq] at H
    obtain ⟨rfl, rfl⟩ := H
    obtain ⟨Ao9, co9, eo9⟩ := Kd.R_slice HO_0.out
    subst eo9
    go_wp2
    go_ret
    exact ⟨ee_, by (with_reducible repeat (first | apply Kd.R_alloc | apply Kd.R_drewN | apply Kd.R_drew)); exact HO_0.out, bb_ HB, by repeat (first | (with_reducible first | exact HK.out | apply Kept.alloc | apply Kept.drewN | apply Kept.drew) | exact HK.out)⟩
end Go.Proofs.Ytcbkoecanldlpaa.P

namespace Go.Proofs.Ytcbkoecanldlpaa.P
open Go.RowKit Go.Proofs.YtcbkoecanldlpaaW.PrintWords Go.Proofs.YtcbkoecanldlpaaW.PrintLast
set_option linter.unusedVariables false
set_option linter.unusedSimpArgs false

def laws_heldIntS.l0 : Nat → List Int → Int → Int → Option (Int)
 | 0, _, _, _ => none
 | k + 1, x0, x1, x5 => if x5 < (x0.length : Int) then (if 0 ≤ x5 then (if (rd x0 x5) = x1 then (laws_heldIntS.l0 k x0 (wrap64 (x1 + 1)) (wrap64 (x5 + 1))) else (some (-1))) else (none)) else (some x1)
def laws_heldIntS.f (k : Nat) (l0 : List Int) (a1 : Int) : Option (Int) := laws_heldIntS.l0 k l0 a1 0
set_option maxHeartbeats 8000000 in
set_option maxRecDepth 100000 in
theorem laws_heldIntS.calls (k : Nat) (A0 : Option Addr) (c0 : Nat) (l0 : List Int) (a1 : Int) (r : Int) (w : World) (hr0 : Kd.C (Kd.int .i64) w A0 l0.length l0) (hc0 : l0.length ≤ c0) (h : laws_heldIntS.f k l0 a1 = some r) :
  Calls Try.prog 37 #[.slice A0 l0.length c0, .int .i64 a1] w fun e w' => e = .returned (.int .i64 r) ∧ Drawn0 w w' := by
 have HR0 := Aside0.mk hr0
 have HC0 := Aside0.mk hc0
 clear hr0 hc0
 have H : (laws_heldIntS.l0 k l0 a1 0) = some r := h
 clear h
 have H' := Aside0.mk H
 clear H
 go_enter Try.func37, Try.ntmps37
 go_wp2
 go_loopg [1, 5] k (fun kq v1 v5 w' => ∃ (x1_1 : Int) (x5_1 : Int), v1 = .int .i64 x1_1 ∧ v5 = .int .i64 x5_1 ∧ Aside0 (laws_heldIntS.l0 kq l0 x1_1 x5_1 = some r) ∧ Aside0 (kq ≤ k) ∧ Drawn0 w w')
 case atStart => exact ⟨(a1), (0), (by first | rfl | (simp; done) | (simp [*]; done)), (by first | rfl | (simp; done) | (simp [*]; done)), H', ⟨Nat.le_refl _⟩, by repeat (first | exact Drawn0.refl _ | apply Drawn0.step)⟩
 case round =>
  clear H'
  try clear p2
  obtain ⟨x1_1, x5_1, rfl, rfl, HA, HK1, ⟨m1, rfl⟩⟩ := hrel
  cases gk with
  | zero => exact absurd HA.out (by simp [laws_heldIntS.l0])
  | succ k1 =>
   have H := HA.out
   clear HA
   simp only [laws_heldIntS.l0] at H
   by_cases c3 : x5_1 < (l0.length : Int)
   ·rw [if_pos c3] at H
    have c3b0 : decide (x5_1 < (l0.length : Int)) = true := decide_eq_true c3
    clear c3
    by_cases c4 : 0 ≤ x5_1
    ·rw [if_pos c4] at H
     have c4b0 : decide (0 ≤ x5_1) = true := decide_eq_true c4
     clear c4
     by_cases c5 : (rd l0 x5_1) = x1_1
     ·rw [if_pos c5] at H
      have c5b0 : ((rd l0 x5_1) == x1_1) = true := beq_iff_eq.mpr c5
      have c5b1 : ((rd l0 x5_1) != x1_1) = false := bne_eq_false_iff_eq.mpr c5
      clear c5
      have H' := Aside0.mk H
      clear H
      have p790 : 0 ≤ (x5_1 : Int) := dd_
      have q790 : x5_1 < (l0.length : Int) := dd_
      obtain ⟨ad790, e790, hx790_0⟩ := Kd.at_int HR0.out x5_1 p790 q790
      cases e790
      replace p790 := eq_true p790
      replace q790 := eq_true q790
      go_wp2
      go_roundg k1
      case measure => have := HK1.out; omega
      case rel => exact ⟨(wrap64 (x1_1 + 1)), (wrap64 (x5_1 + 1)), (by first | rfl | (simp; done) | (simp [*]; done)), (by first | rfl | (simp; done) | (simp [*]; done)), H', ⟨by have := HK1.out; omega⟩, by repeat (first | exact Drawn0.refl _ | apply Drawn0.step)⟩
     ·rw [if_neg c5] at H
      have c5b0 : ((rd l0 x5_1) == x1_1) = false := beq_eq_false_iff_ne.mpr c5
      have c5b1 : ((rd l0 x5_1) != x1_1) = true := bne_iff_ne.mpr c5
      obtain rfl := Option.some.inj H
      have p790 : 0 ≤ (x5_1 : Int) := dd_
      have q790 : x5_1 < (l0.length : Int) := dd_
      obtain ⟨ad790, e790, hx790_0⟩ := Kd.at_int HR0.out x5_1 p790 q790
      cases e790
      replace p790 := eq_true p790
      replace q790 := eq_true q790
      go_wp2
      go_ret
      exact ⟨by first | rfl | (simp; done) | (simp [*]; done), by repeat (first | exact Drawn0.refl _ | apply Drawn0.step)⟩
    ·rw [if_neg c4] at H
     exact absurd H (by simp)
   ·rw [if_neg c3] at H
    have c3b0 : decide (x5_1 < (l0.length : Int)) = false := decide_eq_false c3
    clear c3
    obtain rfl := Option.some.inj H
    go_wp2
    go_ret
    exact ⟨by first | rfl | (simp; done) | (simp [*]; done), by repeat (first | exact Drawn0.refl _ | apply Drawn0.step)⟩
end Go.Proofs.Ytcbkoecanldlpaa.P

set_option linter.unusedVariables false
set_option linter.unusedSimpArgs false
namespace Go.Proofs.Ytcbkoecanldlpaa.X
open Go.RowKit Go.Proofs.YtcbkoecanldlpaaW.PrintWords Go.Proofs.YtcbkoecanldlpaaW.PrintLast Go.Proofs.Ytcbkoecanldlpaa.P

theorem Ev.pos {α : Type} {c : Prop} [Decidable c] {f g : Nat → Option α} {r : α} (h : c) (k : Ev f r) : Ev (fun n => if c then f n else g n) r :=
  Ev.congr (fun _ => if_pos h) k
theorem Ev.neg {α : Type} {c : Prop} [Decidable c] {f g : Nat → Option α} {r : α} (h : ¬ c) (k : Ev g r) : Ev (fun n => if c then f n else g n) r :=
  Ev.congr (fun _ => if_neg h) k
theorem Ev.fix {α β : Type} {x : Option α} {f : Nat → α → Option β} {a : α} {r : β} (h : x = some a) (k : Ev (fun n => f n a) r) : Ev (fun n => x.bind (f n)) r :=
  Ev.congr (fun n => by rw [h]; rfl) k
theorem Ev.done {α : Type} {x : Option α} {r : α} (h : x = some r) : Ev (fun _ => x) r := ⟨0, fun _ _ => h⟩
theorem w64 {x : Int} (h0 : -9223372036854775808 ≤ x) (h1 : x ≤ 9223372036854775807) : wrap64 x = x := by unfold wrap64; omega
theorem tdiv_nn {a b : Int} (h : 0 ≤ a) : Int.tdiv a b = a / b := Int.tdiv_eq_ediv_of_nonneg h
theorem tmod_nn {a b : Int} (h : 0 ≤ a) : Int.tmod a b = a % b := Int.tmod_eq_emod_of_nonneg h
theorem ext_rd {a b : List Int} (hl : a.length = b.length) (h : ∀ i : Nat, i < a.length → rd a (i : Int) = rd b (i : Int)) : a = b := by
  apply List.ext_getElem hl
  intro i h1 h2
  rw [← rd_cast a i h1, ← rd_cast b i h2]
  exact h i h1
end Go.Proofs.Ytcbkoecanldlpaa.X

namespace Go.Proofs.Ytcbkoecanldlpaa.P
open Go.RowKit Go.Proofs.YtcbkoecanldlpaaW.PrintWords Go.Proofs.YtcbkoecanldlpaaW.PrintLast
set_option linter.unusedVariables false
set_option linter.unusedSimpArgs false

def slices_Index_int_int.l0 : Nat → List Int → Int → Int → Int → Option (Int)
 | 0, _, _, _, _ => none
 | k + 1, x0, x1, x7, x8 => if x8 < x7 then (if 0 ≤ x8 then (if x8 < (x0.length : Int) then (if x1 = (rd x0 x8) then (some x8) else (slices_Index_int_int.l0 k x0 x1 x7 (wrap64 (x8 + 1)))) else (none)) else (none)) else (some (-1))
def slices_Index_int_int.f (k : Nat) (l0 : List Int) (a1 : Int) : Option (Int) := slices_Index_int_int.l0 k l0 a1 (l0.length : Int) 0
set_option maxHeartbeats 8000000 in
set_option maxRecDepth 100000 in
theorem slices_Index_int_int.calls (k : Nat) (A0 : Option Addr) (c0 : Nat) (l0 : List Int) (a1 : Int) (r : Int) (w : World) (hr0 : Kd.C (Kd.int .i64) w A0 l0.length l0) (hc0 : l0.length ≤ c0) (h : slices_Index_int_int.f k l0 a1 = some r) :
  Calls Try.prog 147 #[.slice A0 l0.length c0, .int .i64 a1] w fun e w' => e = .returned (.int .i64 r) ∧ Drawn0 w w' := by
 have HR0 := Aside0.mk hr0
 have HC0 := Aside0.mk hc0
 clear hr0 hc0
 have H : (slices_Index_int_int.l0 k l0 a1 (l0.length : Int) 0) = some r := h
 clear h
 have H' := Aside0.mk H
 clear H
 go_enter Try.func147, Try.ntmps147
 go_wp2
 go_loopg [8] k (fun kq v8 w' => ∃ (x8_1 : Int), v8 = .int .i64 x8_1 ∧ Aside0 (slices_Index_int_int.l0 kq l0 a1 (l0.length : Int) x8_1 = some r) ∧ Aside0 (kq ≤ k) ∧ Drawn0 w w')
 case atStart => exact ⟨(0), (by first | rfl | (simp; done) | (simp [*]; done)), H', ⟨Nat.le_refl _⟩, by repeat (first | exact Drawn0.refl _ | apply Drawn0.step)⟩
 case round =>
  clear H'
  try clear c1
  try clear p2
  obtain ⟨x8_1, rfl, HA, HK1, ⟨m1, rfl⟩⟩ := hrel
  cases gk with
  | zero => exact absurd HA.out (by simp [slices_Index_int_int.l0])
  | succ k1 =>
   have H := HA.out
   clear HA
   simp only [slices_Index_int_int.l0] at H
   by_cases c3 : x8_1 < (l0.length : Int)
   ·rw [if_pos c3] at H
    have c3b0 : decide (x8_1 < (l0.length : Int)) = true := decide_eq_true c3
    clear c3
    by_cases c4 : 0 ≤ x8_1
    ·rw [if_pos c4] at H
     have c4b0 : decide (0 ≤ x8_1) = true := decide_eq_true c4
     clear c4
     by_cases c5 : x8_1 < (l0.length : Int)
     ·rw [if_pos c5] at H
      have c5b0 : decide (x8_1 < (l0.length : Int)) = true := decide_eq_true c5
      clear c5
      by_cases c6 : a1 = (rd l0 x8_1)
      ·rw [if_pos c6] at H
       have c6b0 : (a1 == (rd l0 x8_1)) = true := beq_iff_eq.mpr c6
       have c6b1 : (a1 != (rd l0 x8_1)) = false := bne_eq_false_iff_eq.mpr c6
       clear c6
       obtain rfl := Option.some.inj H
       have p244 : 0 ≤ (x8_1 : Int) := dd_
       have q244 : x8_1 < (l0.length : Int) := dd_
       obtain ⟨ad244, e244, hx244_0⟩ := Kd.at_int HR0.out x8_1 p244 q244
       cases e244
       replace p244 := eq_true p244
       replace q244 := eq_true q244
       go_wp2
       go_ret
       exact ⟨by first | rfl | (simp; done) | (simp [*]; done), by repeat (first | exact Drawn0.refl _ | apply Drawn0.step)⟩
      ·rw [if_neg c6] at H
       have c6b0 : (a1 == (rd l0 x8_1)) = false := beq_eq_false_iff_ne.mpr c6
       have c6b1 : (a1 != (rd l0 x8_1)) = true := bne_iff_ne.mpr c6
       have H' := Aside0.mk H
       clear H
       have p244 : 0 ≤ (x8_1 : Int) := dd_
       have q244 : x8_1 < (l0.length : Int) := dd_
       obtain ⟨ad244, e244, hx244_0⟩ := Kd.at_int HR0.out x8_1 p244 q244
       cases e244
       replace p244 := eq_true p244
       replace q244 := eq_true q244
       go_wp2
       go_roundg k1
       case measure => have := HK1.out; omega
       case rel => exact ⟨(wrap64 (x8_1 + 1)), (by first | rfl | (simp; done) | (simp [*]; done)), H', ⟨by have := HK1.out; omega⟩, by repeat (first | exact Drawn0.refl _ | apply Drawn0.step)⟩
     ·rw [if_neg c5] at H
      exact absurd H (by simp)
    ·rw [if_neg c4] at H
     exact absurd H (by simp)
   ·rw [if_neg c3] at H
    have c3b0 : decide (x8_1 < (l0.length : Int)) = false := decide_eq_false c3
    clear c3
    obtain rfl := Option.some.inj H
    go_wp2
    go_ret
    exact ⟨by first | rfl | (simp; done) | (simp [*]; done), by repeat (first | exact Drawn0.refl _ | apply Drawn0.step)⟩
end Go.Proofs.Ytcbkoecanldlpaa.P

namespace Go.Proofs.Ytcbkoecanldlpaa.P
open Go.RowKit Go.Proofs.YtcbkoecanldlpaaW.PrintWords Go.Proofs.YtcbkoecanldlpaaW.PrintLast
set_option linter.unusedVariables false
set_option linter.unusedSimpArgs false

def slices_Contains_int_int.f (k : Nat) (l0 : List Int) (a1 : Int) : Option (Bool) := (slices_Index_int_int.f k l0 a1).bind fun t245 => (some (decide (t245 ≥ 0)))
set_option maxHeartbeats 8000000 in
set_option maxRecDepth 100000 in
theorem slices_Contains_int_int.calls (k : Nat) (A0 : Option Addr) (c0 : Nat) (l0 : List Int) (a1 : Int) (r : Bool) (w : World) (hr0 : Kd.C (Kd.int .i64) w A0 l0.length l0) (hc0 : l0.length ≤ c0) (h : slices_Contains_int_int.f k l0 a1 = some r) :
  Calls Try.prog 90 #[.slice A0 l0.length c0, .int .i64 a1] w fun e w' => e = .returned (.bool r) ∧ Drawn0 w w' := by
 have HR0 := Aside0.mk hr0
 have HC0 := Aside0.mk hc0
 clear hr0 hc0
 have H : ((slices_Index_int_int.f k l0 a1).bind fun t245 => (some (decide (t245 ≥ 0)))) = some r := h
 clear h
 replace H := Option.bind_eq_some_iff.mp H
 obtain ⟨t245, A30, H⟩ := H
 replace H : (some (decide (t245 ≥ 0))) = some r := H
 have A3 := Aside0.mk A30
 clear A30
 obtain rfl := Option.some.inj H
 go_enter Try.func90, Try.ntmps90
 go_wp2_with (first | (refine goesL_ (some 7) rfl rfl Try.func147 (by kernel_rfl) rfl #[.slice A0 l0.length c0, .int .i64 a1] rfl ll_ ?_; (with_reducible refine (slices_Index_int_int.calls k _ _ l0 a1 t245 _ ?side1 ?side2 A3.out).mono ?_); (case side1 => exact ss_ HR0); (case side2 => exact HC0.out); rintro e w' ⟨rfl, ⟨nd, rfl⟩⟩; refine ⟨_, rfl, ?_⟩))
 go_ret
 exact ⟨by first | rfl | (simp; done) | (simp [*]; done), by repeat (first | exact Drawn0.refl _ | apply Drawn0.step)⟩
end Go.Proofs.Ytcbkoecanldlpaa.P

set_option linter.unusedVariables false
set_option linter.unusedSimpArgs false
namespace Go.Proofs.Ytcbkoecanldlpaa.X
open Go.RowKit Go.Proofs.YtcbkoecanldlpaaW.PrintWords Go.Proofs.YtcbkoecanldlpaaW.PrintLast Go.Proofs.Ytcbkoecanldlpaa.P

theorem has_false {l : List Int} {x : Int} (h : ∀ j : Nat, j < l.length → rd l (j : Int) ≠ x) : decide (x ∈ l) = false := by
  refine decide_eq_false fun hx => ?_
  obtain ⟨j, hj, rfl⟩ := List.mem_iff_getElem.1 hx
  exact h j hj (rd_cast l j hj)
theorem index_loop (l : List Int) (hl : l.length ≤ 1048576) (x : Int) (d : Nat) : ∀ (i : Int), 0 ≤ i → i + d = l.length → (∀ j : Nat, (j : Int) < i → rd l (j : Int) ≠ x) → ∃ v : Int, Ev (fun k => slices_Index_int_int.l0 k l x (l.length : Int) i) v ∧ decide (v ≥ 0) = decide (x ∈ l) := by
  induction d with
  | zero =>
    intro i h0 h1 h
    refine ⟨-1, Ev.step (fun k => by rw [slices_Index_int_int.l0]) (Ev.neg (by omega) (Ev.done rfl)), ?_⟩
    rw [has_false fun j hj => h j (by omega)]; rfl
  | succ d ih =>
    intro i h0 h1 h
    by_cases e : x = rd l i
    · refine ⟨i, Ev.step (fun k => by rw [slices_Index_int_int.l0]) ?_, ?_⟩
      · exact Ev.pos (by omega) (Ev.pos (by omega) (Ev.pos (by omega) (Ev.pos e (Ev.done rfl))))
      · rw [decide_eq_true (show x ∈ l by rw [e]; exact rd_mem (by omega) h0)]; simpa using h0
    · obtain ⟨v, hv, hd⟩ := ih (i + 1) (by omega) (by omega) fun j hj => by
        by_cases ej : (j : Int) = i
        · rw [ej]; exact fun h => e h.symm
        · exact h j (by omega)
      refine ⟨v, Ev.step (fun k => by rw [slices_Index_int_int.l0]) ?_, hd⟩
      simp (disch := omega) only [w64]
      exact Ev.pos (by omega) (Ev.pos (by omega) (Ev.pos (by omega) (Ev.neg e hv)))
theorem contains_ev (l : List Int) (hl : l.length ≤ 1048576) (x : Int) : Ev (fun k => slices_Contains_int_int.f k l x) (decide (x ∈ l)) := by
  obtain ⟨v, hv, hd⟩ := index_loop l hl x l.length 0 (by omega) (by omega) (fun j h => by omega)
  unfold slices_Contains_int_int.f slices_Index_int_int.f
  exact Ev.bind hv (Ev.done (by rw [← hd]))
end Go.Proofs.Ytcbkoecanldlpaa.X

namespace Go.Proofs.Ytcbkoecanldlpaa.P
open Go.RowKit Go.Proofs.YtcbkoecanldlpaaW.PrintWords Go.Proofs.YtcbkoecanldlpaaW.PrintLast
set_option linter.unusedVariables false
set_option linter.unusedSimpArgs false

def impl_element.f (a0 : Int) (a1 : Int) : Option (Int) := some (wrap64 ((Int.tmod (wrap64 ((Int.tmod a0 3) + 3)) 3) + (wrap64 (3 * (Int.tmod (wrap64 ((Int.tmod a1 3) + 3)) 3)))))
set_option maxHeartbeats 8000000 in
set_option maxRecDepth 100000 in
theorem impl_element.calls (a0 : Int) (a1 : Int) (r : Int) (w : World) (h : impl_element.f a0 a1 = some r) :
  Calls Try.prog 155 #[.int .i64 a0, .int .i64 a1] w fun e w' => e = .returned (.int .i64 r) ∧ Drawn0 w w' := by
 have H : (some (wrap64 ((Int.tmod (wrap64 ((Int.tmod a0 3) + 3)) 3) + (wrap64 (3 * (Int.tmod (wrap64 ((Int.tmod a1 3) + 3)) 3)))))) = some r := h
 clear h
 obtain rfl := Option.some.inj H
 go_enter Try.func155, Try.ntmps155
 go_wp2
 go_ret
 exact ⟨by first | rfl | (simp; done) | (simp [*]; done), by repeat (first | exact Drawn0.refl _ | apply Drawn0.step)⟩
end Go.Proofs.Ytcbkoecanldlpaa.P

namespace Go.Proofs.Ytcbkoecanldlpaa.P
open Go.RowKit Go.Proofs.YtcbkoecanldlpaaW.PrintWords Go.Proofs.YtcbkoecanldlpaaW.PrintLast
set_option linter.unusedVariables false
set_option linter.unusedSimpArgs false

def impl_add.f (a0 : Int) (a1 : Int) : Option (Int) := (impl_element.f (wrap64 ((Int.tmod a0 3) + (Int.tmod a1 3))) (wrap64 ((wrap64 (Int.tdiv a0 3)) + (wrap64 (Int.tdiv a1 3))))).bind fun t239 => (some t239)
set_option maxHeartbeats 8000000 in
set_option maxRecDepth 100000 in
theorem impl_add.calls (a0 : Int) (a1 : Int) (r : Int) (w : World) (h : impl_add.f a0 a1 = some r) :
  Calls Try.prog 123 #[.int .i64 a0, .int .i64 a1] w fun e w' => e = .returned (.int .i64 r) ∧ Drawn0 w w' := by
 have H : ((impl_element.f (wrap64 ((Int.tmod a0 3) + (Int.tmod a1 3))) (wrap64 ((wrap64 (Int.tdiv a0 3)) + (wrap64 (Int.tdiv a1 3))))).bind fun t239 => (some t239)) = some r := h
 clear h
 replace H := Option.bind_eq_some_iff.mp H
 obtain ⟨t239, A30, H⟩ := H
 replace H : (some t239) = some r := H
 have A3 := Aside0.mk A30
 clear A30
 obtain rfl := Option.some.inj H
 go_enter Try.func123, Try.ntmps123
 go_wp2_with (first | (refine goesL_ (some 15) rfl rfl Try.func155 (by kernel_rfl) rfl #[.int .i64 (wrap64 ((Int.tmod a0 3) + (Int.tmod a1 3))), .int .i64 (wrap64 ((wrap64 (Int.tdiv a0 3)) + (wrap64 (Int.tdiv a1 3))))] rfl ll_ ?_; (with_reducible refine (impl_element.calls (wrap64 ((Int.tmod a0 3) + (Int.tmod a1 3))) (wrap64 ((wrap64 (Int.tdiv a0 3)) + (wrap64 (Int.tdiv a1 3)))) t239 _ A3.out).mono ?_); rintro e w' ⟨rfl, ⟨nd, rfl⟩⟩; refine ⟨_, rfl, ?_⟩))
 go_ret
 exact ⟨by first | rfl | (simp; done) | (simp [*]; done), by repeat (first | exact Drawn0.refl _ | apply Drawn0.step)⟩
end Go.Proofs.Ytcbkoecanldlpaa.P

namespace Go.Proofs.Ytcbkoecanldlpaa.P
open Go.RowKit Go.Proofs.YtcbkoecanldlpaaW.PrintWords Go.Proofs.YtcbkoecanldlpaaW.PrintLast
set_option linter.unusedVariables false
set_option linter.unusedSimpArgs false

def impl_minus.f (a0 : Int) : Option (Int) := (impl_element.f (wrap64 (-(Int.tmod a0 3))) (wrap64 (-(wrap64 (Int.tdiv a0 3))))).bind fun t1113 => (some t1113)
set_option maxHeartbeats 8000000 in
set_option maxRecDepth 100000 in
theorem impl_minus.calls (a0 : Int) (r : Int) (w : World) (h : impl_minus.f a0 = some r) :
  Calls Try.prog 97 #[.int .i64 a0] w fun e w' => e = .returned (.int .i64 r) ∧ Drawn0 w w' := by
 have H : ((impl_element.f (wrap64 (-(Int.tmod a0 3))) (wrap64 (-(wrap64 (Int.tdiv a0 3))))).bind fun t1113 => (some t1113)) = some r := h
 clear h
 replace H := Option.bind_eq_some_iff.mp H
 obtain ⟨t1113, A20, H⟩ := H
 replace H : (some t1113) = some r := H
 have A2 := Aside0.mk A20
 clear A20
 obtain rfl := Option.some.inj H
 go_enter Try.func97, Try.ntmps97
 go_wp2_with (first | (refine goesL_ (some 9) rfl rfl Try.func155 (by kernel_rfl) rfl #[.int .i64 (wrap64 (-(Int.tmod a0 3))), .int .i64 (wrap64 (-(wrap64 (Int.tdiv a0 3))))] rfl ll_ ?_; (with_reducible refine (impl_element.calls (wrap64 (-(Int.tmod a0 3))) (wrap64 (-(wrap64 (Int.tdiv a0 3)))) t1113 _ A2.out).mono ?_); rintro e w' ⟨rfl, ⟨nd, rfl⟩⟩; refine ⟨_, rfl, ?_⟩))
 go_ret
 exact ⟨by first | rfl | (simp; done) | (simp [*]; done), by repeat (first | exact Drawn0.refl _ | apply Drawn0.step)⟩
end Go.Proofs.Ytcbkoecanldlpaa.P

namespace Go.Proofs.Ytcbkoecanldlpaa.P
open Go.RowKit Go.Proofs.YtcbkoecanldlpaaW.PrintWords Go.Proofs.YtcbkoecanldlpaaW.PrintLast
set_option linter.unusedVariables false
set_option linter.unusedSimpArgs false

def impl_isNine.f (a0 : Int) : Option (Bool) := if a0 ≥ 0 then (some (decide (a0 < 9))) else (some false)
set_option maxHeartbeats 8000000 in
set_option maxRecDepth 100000 in
theorem impl_isNine.calls (a0 : Int) (r : Bool) (w : World) (h : impl_isNine.f a0 = some r) :
  Calls Try.prog 164 #[.int .i64 a0] w fun e w' => e = .returned (.bool r) ∧ Drawn0 w w' := by
 have H : (if a0 ≥ 0 then (some (decide (a0 < 9))) else (some false)) = some r := h
 clear h
 by_cases c2 : a0 ≥ 0
 ·rw [if_pos c2] at H
  have c2b0 : decide (0 ≤ a0) = true := decide_eq_true c2
  clear c2
  obtain rfl := Option.some.inj H
  go_enter Try.func164, Try.ntmps164
  go_wp2
  go_ret
  exact ⟨by first | rfl | (simp; done) | (simp [*]; done), by repeat (first | exact Drawn0.refl _ | apply Drawn0.step)⟩
 ·rw [if_neg c2] at H
  have c2b0 : decide (0 ≤ a0) = false := decide_eq_false c2
  clear c2
  obtain rfl := Option.some.inj H
  go_enter Try.func164, Try.ntmps164
  go_wp2
  go_ret
  exact ⟨by first | rfl | (simp; done) | (simp [*]; done), by repeat (first | exact Drawn0.refl _ | apply Drawn0.step)⟩
end Go.Proofs.Ytcbkoecanldlpaa.P

set_option linter.unusedVariables false
set_option linter.unusedSimpArgs false
namespace Go.Proofs.Ytcbkoecanldlpaa.X
open Go.RowKit Go.Proofs.YtcbkoecanldlpaaW.PrintWords Go.Proofs.YtcbkoecanldlpaaW.PrintLast Go.Proofs.Ytcbkoecanldlpaa.P

theorem impl_add_eq (a b : Int) (ha : In9 a) (hb : In9 b) : impl_add.f a b = some (addN a b) :=
  nine2 (P := fun a b => impl_add.f a b = some (addN a b)) (by decide +kernel) a b ha.1 ha.2 hb.1 hb.2
theorem impl_minus_eq (a : Int) (ha : In9 a) : impl_minus.f a = some (minusN a) :=
  nine1 (P := fun a => impl_minus.f a = some (minusN a)) (by decide +kernel) a ha.1 ha.2
theorem add_calls (a b : Int) (ha : In9 a) (hb : In9 b) (w : World) : Calls Try.prog 123 #[.int .i64 a, .int .i64 b] w fun e w' => e = .returned (.int .i64 (addN a b)) ∧ Drawn0 w w' := impl_add.calls a b _ w (impl_add_eq a b ha hb)
theorem minus_calls (a : Int) (ha : In9 a) (w : World) : Calls Try.prog 97 #[.int .i64 a] w fun e w' => e = .returned (.int .i64 (minusN a)) ∧ Drawn0 w w' := impl_minus.calls a _ w (impl_minus_eq a ha)
theorem qd {P : Program} {f : FuncId} {args : Array Value} {w : World} {n : Nat} {v : Value} (h : Calls P f args (w.drewN n) fun e w' => e = .returned v ∧ Drawn0 (w.drewN n) w') :
    Calls P f args (w.drewN n) fun e w'' => e = .returned v ∧ ∃ m, w'' = w.drewN m :=
  h.mono fun _ _ ⟨he, hd⟩ => ⟨he, by obtain ⟨m, hm⟩ := hd.out; exact ⟨n + m, by rw [hm, World.drewN_drewN]⟩⟩
structure BoxT (w : World) (b : Nat) (A0 : Option Addr) (c0 : Nat) (t : List Int) : Prop where
  cell : w.cell? ⟨b, 0, none⟩ = some (.slice A0 t.length c0)
  read : Kd.C (Kd.int .i64) w A0 t.length t
theorem BoxT.below {w W : World} {b : Nat} {A0 : Option Addr} {c0 : Nat} {t : List Int} (h : BoxT w b A0 c0 t) (hb : Below w.heap.size w W) : BoxT W b A0 c0 t :=
  ⟨(hb.cell (World.block_lt_of_cell? w _ h.cell)).trans h.cell, Kd.C_below h.read hb⟩
theorem BoxT.at {w : World} {b : Nat} {ad : Addr} {c0 : Nat} {t : List Int} (h : BoxT w b (some ad) c0 t) (i : Int) (h0 : 0 ≤ i) (h1 : i < t.length) : w.cell? (ad.add i.toNat) = some (.int .i64 (rd t i)) := by
  obtain ⟨ad', e, hc⟩ := Kd.at_int h.read i h0 h1
  cases e; exact hc
theorem BoxT.some {w : World} {b : Nat} {A0 : Option Addr} {c0 : Nat} {t : List Int} (h : BoxT w b A0 c0 t) (hl : 0 < t.length) : ∃ ad, A0 = some ad := by
  obtain ⟨ad', e, hc⟩ := Kd.at_int h.read 0 (by omega) (by omega)
  exact ⟨ad', e⟩
set_option maxHeartbeats 2000000 in
theorem isSystem1_calls (b : Nat) (A0 : Option Addr) (c0 : Nat) (t : List Int) (w : World) (hb : BoxT w b A0 c0 t) (hn : ninesB t 81 = true) (x y z : Int) (hx : In9 x) (hy : In9 y) (hz : In9 z) :
    Calls Try.prog 122 #[.int .i64 x, .int .i64 y, .int .i64 z, .pointer (some ⟨b, 0, none⟩)] w fun e w' => e = .returned (.bool (decide (rd t (9 * addN x y + z) = addN (rd t (9 * x + z)) (rd t (9 * y + z))))) ∧ Below w.heap.size w w' := by
  obtain ⟨hl, _⟩ := ninesB_iff.1 hn
  obtain ⟨ad, rfl⟩ := hb.some (by omega)
  obtain ⟨r0, r1⟩ := addN_range x y
  obtain ⟨x0, x1⟩ := hx
  obtain ⟨y0, y1⟩ := hy
  obtain ⟨z0, z1⟩ := hz
  have hc := hb.cell
  have q1 := nines_rd hn (i := 9 * x + z) (by omega) (by omega)
  have q2 := nines_rd hn (i := 9 * y + z) (by omega) (by omega)
  have C1 := Aside0.mk (add_calls x y ⟨x0, x1⟩ ⟨y0, y1⟩)
  have C2 := Aside0.mk (add_calls (rd t (9 * x + z)) (rd t (9 * y + z)) q1 q2)
  obtain ⟨s, hs⟩ : ∃ s, addN x y = s := ⟨_, rfl⟩
  rw [hs] at C1 r0 r1 ⊢
  clear hs
  have g1 := hb.at (9 * x + z) (by omega) (by omega)
  have g2 := hb.at (9 * y + z) (by omega) (by omega)
  have g3 := hb.at (9 * s + z) (by omega) (by omega)
  clear hb hn
  go_enter Try.func122, Try.ntmps122
  go_wp2
  go_quiet ((first | (go_at_call 123; with_reducible exact qd (C1.out _)) | (go_at_call 123; with_reducible exact qd (C2.out _))))
  go_wp2
  go_ret
  exact ⟨rfl, Drawn0.below ⟨⟨_, rfl⟩⟩⟩
set_option maxHeartbeats 2000000 in
theorem isSystem2_calls (b bc bd : Nat) (A0 : Option Addr) (c0 : Nat) (t : List Int) (w : World) (hb : BoxT w b A0 c0 t) (hn : ninesB t 81 = true) (c d : Int) (hC : In9 c) (hD : In9 d)
    (hc : w.cell? ⟨bc, 0, none⟩ = some (.int .i64 c)) (hd : w.cell? ⟨bd, 0, none⟩ = some (.int .i64 d)) (x : Int) (hx : In9 x) :
    Calls Try.prog 125 #[.int .i64 x, .pointer (some ⟨b, 0, none⟩), .pointer (some ⟨bc, 0, none⟩), .pointer (some ⟨bd, 0, none⟩)] w fun e w' => e = .returned (.int .i64 (addN (rd t (9 * x + c)) (minusN (rd t (9 * x + d))))) ∧ Below w.heap.size w w' := by
  obtain ⟨hl, _⟩ := ninesB_iff.1 hn
  obtain ⟨ad, rfl⟩ := hb.some (by omega)
  obtain ⟨x0, x1⟩ := hx
  obtain ⟨c1, c2⟩ := hC
  obtain ⟨d1, d2⟩ := hD
  have hcc := hb.cell
  have q1 := nines_rd hn (i := 9 * x + c) (by omega) (by omega)
  have q2 := nines_rd hn (i := 9 * x + d) (by omega) (by omega)
  have C1 := Aside0.mk (minus_calls (rd t (9 * x + d)) q2)
  have C2 := Aside0.mk (add_calls (rd t (9 * x + c)) (minusN (rd t (9 * x + d))) q1 (minusN_range _))
  have g1 := hb.at (9 * x + c) (by omega) (by omega)
  have g2 := hb.at (9 * x + d) (by omega) (by omega)
  clear hb hn q1 q2
  go_enter Try.func125, Try.ntmps125
  go_wp2
  go_quiet ((first | (go_at_call 97; with_reducible exact qd (C1.out _)) | (go_at_call 123; with_reducible exact qd (C2.out _))))
  go_wp2
  go_ret
  exact ⟨rfl, Drawn0.below ⟨⟨_, rfl⟩⟩⟩
theorem any_not (l : List Int) : (l.any fun x => !isN x) = !l.all isN := by
  induction l with
  | nil => rfl
  | cons a l ih => rw [List.any_cons, List.all_cons, ih, Bool.not_and]
theorem impl_isNine_eq (a : Int) : impl_isNine.f a = some (isN a) := by
  unfold impl_isNine.f isN
  by_cases h : a ≥ 0
  · rw [if_pos h]; simp [h]
  · rw [if_neg h]; simp [h]
theorem isNine_calls (a : Int) (w : World) : Calls Try.prog 164 #[.int .i64 a] w fun e w' => e = .returned (.bool (isN a)) ∧ Drawn0 w w' := impl_isNine.calls a _ w (impl_isNine_eq a)
set_option maxHeartbeats 1000000 in
theorem areNines1_calls (a : Int) (w : World) : Calls Try.prog 163 #[.int .i64 a] w fun e w' => e = .returned (.bool (!isN a)) ∧ Below w.heap.size w w' := by
  have C1 := Aside0.mk (isNine_calls a)
  obtain ⟨v, hv⟩ : ∃ v, isN a = v := ⟨_, rfl⟩
  rw [hv] at C1 ⊢
  clear hv
  go_enter Try.func163, Try.ntmps163
  go_wp2_with (go_at_call 164; refine (C1.out _).mono ?_; rintro e w' ⟨rfl, ⟨nd, rfl⟩⟩)
  go_ret
  exact ⟨rfl, Drawn0.below ⟨⟨_, rfl⟩⟩⟩
theorem enters1 : Eg 163 := enters_of Try.func163 (by kernel_rfl) rfl
set_option maxHeartbeats 1000000 in
theorem areNines_calls (A0 : Option Addr) (c0 : Nat) (l : List Int) (n : Int) (w : World) (hr : Kd.C (Kd.int .i64) w A0 l.length l) :
    Calls Try.prog 120 #[.slice A0 l.length c0, .int .i64 n] w fun e w' => e = .returned (.bool (decide ((l.length : Int) = n) && l.all isN)) ∧ Below w.heap.size w w' := by
  have HC := Aside0.mk (containsFunc_calls 163 #[] enters1 (fun x => !isN x) A0 c0 l w hr (fun W x _ _ => areNines1_calls x W))
  have e1 : (l.any fun x => !isN x) = !l.all isN := any_not l
  rw [e1] at HC
  clear e1 hr
  obtain ⟨v, hv⟩ : ∃ v, l.all isN = v := ⟨_, rfl⟩
  rw [hv] at HC ⊢
  clear hv
  by_cases h : (l.length : Int) = n
  · have h1 : ((l.length : Int) == n) = true := beq_iff_eq.2 h
    rw [decide_eq_true h]
    clear h
    go_enter Try.func120, Try.ntmps120
    go_wp2_with (go_at_call 80; refine HC.out.mono ?_; rintro e w' ⟨rfl, hb⟩)
    go_ret
    exact ⟨by cases v <;> rfl, hb⟩
  · have h1 : ((l.length : Int) == n) = false := beq_eq_false_iff_ne.2 h
    rw [decide_eq_false h]
    clear h
    go_enter Try.func120, Try.ntmps120
    go_wp2
    go_ret
    exact ⟨rfl, Below.refl _ _⟩
end Go.Proofs.Ytcbkoecanldlpaa.X

namespace Go.Proofs.Ytcbkoecanldlpaa.P
open Go.RowKit Go.Proofs.YtcbkoecanldlpaaW.PrintWords Go.Proofs.YtcbkoecanldlpaaW.PrintLast
set_option linter.unusedVariables false
set_option linter.unusedSimpArgs false

def impl_addNear.f (a0 : Int) (a1 : Int) : Option (Int) := (impl_add.f (wrap64 (Int.tdiv a0 9)) (wrap64 (Int.tdiv a1 9))).bind fun t649 => ((impl_add.f (Int.tmod a0 9) (Int.tmod a1 9)).bind fun t650 => (some (wrap64 ((wrap64 (9 * t649)) + t650))))
set_option maxHeartbeats 8000000 in
set_option maxRecDepth 100000 in
theorem impl_addNear.calls (a0 : Int) (a1 : Int) (r : Int) (w : World) (h : impl_addNear.f a0 a1 = some r) :
  Calls Try.prog 91 #[.int .i64 a0, .int .i64 a1] w fun e w' => e = .returned (.int .i64 r) ∧ Drawn0 w w' := by
 have H : ((impl_add.f (wrap64 (Int.tdiv a0 9)) (wrap64 (Int.tdiv a1 9))).bind fun t649 => ((impl_add.f (Int.tmod a0 9) (Int.tmod a1 9)).bind fun t650 => (some (wrap64 ((wrap64 (9 * t649)) + t650))))) = some r := h
 clear h
 replace H := Option.bind_eq_some_iff.mp H
 obtain ⟨t649, A30, H⟩ := H
 replace H : ((impl_add.f (Int.tmod a0 9) (Int.tmod a1 9)).bind fun t650 => (some (wrap64 ((wrap64 (9 * t649)) + t650)))) = some r := H
 have A3 := Aside0.mk A30
 clear A30
 replace H := Option.bind_eq_some_iff.mp H
 obtain ⟨t650, A40, H⟩ := H
 replace H : (some (wrap64 ((wrap64 (9 * t649)) + t650))) = some r := H
 have A4 := Aside0.mk A40
 clear A40
 obtain rfl := Option.some.inj H
 go_enter Try.func91, Try.ntmps91
 go_wp2_with (first | (refine goesL_ (some 9) rfl rfl Try.func123 (by kernel_rfl) rfl #[.int .i64 (wrap64 (Int.tdiv a0 9)), .int .i64 (wrap64 (Int.tdiv a1 9))] rfl ll_ ?_; (with_reducible refine (impl_add.calls (wrap64 (Int.tdiv a0 9)) (wrap64 (Int.tdiv a1 9)) t649 _ A3.out).mono ?_); rintro e w' ⟨rfl, ⟨nd, rfl⟩⟩; refine ⟨_, rfl, ?_⟩) | (refine goesL_ (some 15) rfl rfl Try.func123 (by kernel_rfl) rfl #[.int .i64 (Int.tmod a0 9), .int .i64 (Int.tmod a1 9)] rfl ll_ ?_; (with_reducible refine (impl_add.calls (Int.tmod a0 9) (Int.tmod a1 9) t650 _ A4.out).mono ?_); rintro e w' ⟨rfl, ⟨nd, rfl⟩⟩; refine ⟨_, rfl, ?_⟩))
 go_ret
 exact ⟨by first | rfl | (simp; done) | (simp [*]; done), by repeat (first | exact Drawn0.refl _ | apply Drawn0.step)⟩
end Go.Proofs.Ytcbkoecanldlpaa.P

namespace Go.Proofs.Ytcbkoecanldlpaa.P
open Go.RowKit Go.Proofs.YtcbkoecanldlpaaW.PrintWords Go.Proofs.YtcbkoecanldlpaaW.PrintLast
set_option linter.unusedVariables false
set_option linter.unusedSimpArgs false

def impl_isNear.f (a0 : Int) : Option (Bool) := if a0 ≥ 0 then (some (decide (a0 < 81))) else (some false)
set_option maxHeartbeats 8000000 in
set_option maxRecDepth 100000 in
theorem impl_isNear.calls (a0 : Int) (r : Bool) (w : World) (h : impl_isNear.f a0 = some r) :
  Calls Try.prog 89 #[.int .i64 a0] w fun e w' => e = .returned (.bool r) ∧ Drawn0 w w' := by
 have H : (if a0 ≥ 0 then (some (decide (a0 < 81))) else (some false)) = some r := h
 clear h
 by_cases c2 : a0 ≥ 0
 ·rw [if_pos c2] at H
  have c2b0 : decide (0 ≤ a0) = true := decide_eq_true c2
  clear c2
  obtain rfl := Option.some.inj H
  go_enter Try.func89, Try.ntmps89
  go_wp2
  go_ret
  exact ⟨by first | rfl | (simp; done) | (simp [*]; done), by repeat (first | exact Drawn0.refl _ | apply Drawn0.step)⟩
 ·rw [if_neg c2] at H
  have c2b0 : decide (0 ≤ a0) = false := decide_eq_false c2
  clear c2
  obtain rfl := Option.some.inj H
  go_enter Try.func89, Try.ntmps89
  go_wp2
  go_ret
  exact ⟨by first | rfl | (simp; done) | (simp [*]; done), by repeat (first | exact Drawn0.refl _ | apply Drawn0.step)⟩
end Go.Proofs.Ytcbkoecanldlpaa.P

namespace Go.Proofs.Ytcbkoecanldlpaa.P
open Go.RowKit Go.Proofs.YtcbkoecanldlpaaW.PrintWords Go.Proofs.YtcbkoecanldlpaaW.PrintLast
set_option linter.unusedVariables false
set_option linter.unusedSimpArgs false

mutual
def impl_isLeaf.l0 : Nat → List Int → List Int → Int → Int → Option (Bool)
 | 0, _, _, _, _ => none
 | k + 1, x0, x12, x13, x14 => if x14 < x13 then (if 0 ≤ x14 then (if x14 < (x12.length : Int) then ((impl_isNear.f (rd x12 x14)).bind fun t1102 => (if t1102 = true then (if x14 > 0 then (if 0 ≤ (wrap64 (x14 - 1)) then (if (wrap64 (x14 - 1)) < (x0.length : Int) then (if (rd x0 (wrap64 (x14 - 1))) ≥ (rd x12 x14) then (some false) else (impl_isLeaf.l0 k x0 x12 x13 (wrap64 (x14 + 1)))) else (none)) else (none)) else (impl_isLeaf.l0 k x0 x12 x13 (wrap64 (x14 + 1)))) else (some false))) else (none)) else (none)) else (impl_isLeaf.l1 k x0 x0 (x0.length : Int) 0)
def impl_isLeaf.l1 : Nat → List Int → List Int → Int → Int → Option (Bool)
 | 0, _, _, _, _ => none
 | k + 1, x0, x36, x37, x38 => if x38 < x37 then (if 0 ≤ x38 then (if x38 < (x36.length : Int) then (impl_isLeaf.l2 k x0 (rd x36 x38) x36 x37 x38 x0 (x0.length : Int) 0) else (none)) else (none)) else (some true)
def impl_isLeaf.l2 : Nat → List Int → Int → List Int → Int → Int → List Int → Int → Int → Option (Bool)
 | 0, _, _, _, _, _, _, _, _ => none
 | k + 1, x0, x6, x36, x37, x38, x42, x43, x44 => if x44 < x43 then (if 0 ≤ x44 then (if x44 < (x42.length : Int) then ((impl_addNear.f x6 (rd x42 x44)).bind fun t1106 => ((slices_Contains_int_int.f k x0 t1106).bind fun t1107 => (if t1107 = true then (impl_isLeaf.l2 k x0 x6 x36 x37 x38 x42 x43 (wrap64 (x44 + 1))) else (some false)))) else (none)) else (none)) else (impl_isLeaf.l1 k x0 x36 x37 (wrap64 (x38 + 1)))
end
def impl_isLeaf.f (k : Nat) (l0 : List Int) : Option (Bool) := if (l0.length : Int) = 9 then (impl_isLeaf.l0 k l0 l0 (l0.length : Int) 0) else (some false)
set_option maxHeartbeats 8000000 in
set_option maxRecDepth 100000 in
theorem impl_isLeaf.calls (k : Nat) (A0 : Option Addr) (c0 : Nat) (l0 : List Int) (r : Bool) (w : World) (hr0 : Kd.C (Kd.int .i64) w A0 l0.length l0) (hc0 : l0.length ≤ c0) (h : impl_isLeaf.f k l0 = some r) :
  Calls Try.prog 105 #[.slice A0 l0.length c0] w fun e w' => e = .returned (.bool r) ∧ Drawn0 w w' := by
 have HR0 := Aside0.mk hr0
 have HC0 := Aside0.mk hc0
 clear hr0 hc0
 have H : (if (l0.length : Int) = 9 then (impl_isLeaf.l0 k l0 l0 (l0.length : Int) 0) else (some false)) = some r := h
 clear h
 by_cases c2 : (l0.length : Int) = 9
 ·rw [if_pos c2] at H
  have c2b0 : ((l0.length : Int) == 9) = true := beq_iff_eq.mpr c2
  have c2b1 : ((l0.length : Int) != 9) = false := bne_eq_false_iff_eq.mpr c2
  clear c2
  have H' := Aside0.mk H
  clear H
  go_enter Try.func105, Try.ntmps105
  go_wp2
  go_loopg [14] k (fun kq v14 w' => ∃ (x14_1 : Int), v14 = .int .i64 x14_1 ∧ Aside0 (impl_isLeaf.l0 kq l0 l0 (l0.length : Int) x14_1 = some r) ∧ Aside0 (kq ≤ k) ∧ Drawn0 w w')
  case atStart => exact ⟨(0), (by first | rfl | (simp; done) | (simp [*]; done)), H', ⟨Nat.le_refl _⟩, by repeat (first | exact Drawn0.refl _ | apply Drawn0.step)⟩
  case round =>
   clear H'
   try clear c1
   try clear c2
   try clear c2b0
   try clear c2b1
   try clear p2
   obtain ⟨x14_1, rfl, HA, HK1, ⟨m1, rfl⟩⟩ := hrel
   cases gk with
   | zero => exact absurd HA.out (by simp [impl_isLeaf.l0])
   | succ k1 =>
    have H := HA.out
    clear HA
    simp only [impl_isLeaf.l0] at H
    by_cases c3 : x14_1 < (l0.length : Int)
    ·rw [if_pos c3] at H
     have c3b0 : decide (x14_1 < (l0.length : Int)) = true := decide_eq_true c3
     clear c3
     by_cases c4 : 0 ≤ x14_1
     ·rw [if_pos c4] at H
      have c4b0 : decide (0 ≤ x14_1) = true := decide_eq_true c4
      clear c4
      by_cases c5 : x14_1 < (l0.length : Int)
      ·rw [if_pos c5] at H
       have c5b0 : decide (x14_1 < (l0.length : Int)) = true := decide_eq_true c5
       clear c5
       replace H := Option.bind_eq_some_iff.mp H
       obtain ⟨t1102, A60, H⟩ := H
       replace H : (if t1102 = true then (if x14_1 > 0 then (if 0 ≤ (wrap64 (x14_1 - 1)) then (if (wrap64 (x14_1 - 1)) < (l0.length : Int) then (if (rd l0 (wrap64 (x14_1 - 1))) ≥ (rd l0 x14_1) then (some false) else (impl_isLeaf.l0 k1 l0 l0 (l0.length : Int) (wrap64 (x14_1 + 1)))) else (none)) else (none)) else (impl_isLeaf.l0 k1 l0 l0 (l0.length : Int) (wrap64 (x14_1 + 1)))) else (some false)) = some r := H
       have A6 := Aside0.mk A60
       clear A60
       by_cases c7 : t1102 = true
       ·subst c7
        have H1 : (if x14_1 > 0 then (if 0 ≤ (wrap64 (x14_1 - 1)) then (if (wrap64 (x14_1 - 1)) < (l0.length : Int) then (if (rd l0 (wrap64 (x14_1 - 1))) ≥ (rd l0 x14_1) then (some false) else (impl_isLeaf.l0 k1 l0 l0 (l0.length : Int) (wrap64 (x14_1 + 1)))) else (none)) else (none)) else (impl_isLeaf.l0 k1 l0 l0 (l0.length : Int) (wrap64 (x14_1 + 1)))) = some r := by rw [if_pos rfl] at H; exact H
        clear H
        have H := H1
        clear H1
        by_cases c8 : x14_1 > 0
        ·rw [if_pos c8] at H
         have c8b0 : decide (0 < x14_1) = true := decide_eq_true c8
         clear c8
         obtain ⟨ji9, hji9⟩ : ∃ j_ : Int, (wrap64 (x14_1 - 1)) = j_ := ⟨_, rfl⟩
         replace H : (if 0 ≤ (ji9) then (if (ji9) < (l0.length : Int) then (if (rd l0 (ji9)) ≥ (rd l0 x14_1) then (some false) else (impl_isLeaf.l0 k1 l0 l0 (l0.length : Int) (wrap64 (x14_1 + 1)))) else (none)) else (none)) = some r := by first | (rw [hji9] at H; exact H) | (simp only [hji9] at H ⊢; exact H)
         (try rw [hji9] at A6)
         have hji9w : (IntKind.i64.wrap (x14_1 - 1)) = ji9 := (i64_w _).trans hji9
         by_cases c10 : 0 ≤ (ji9)
         ·rw [if_pos c10] at H
          have c10b0 : decide (0 ≤ (ji9)) = true := decide_eq_true c10
          clear c10
          by_cases c11 : (ji9) < (l0.length : Int)
          ·rw [if_pos c11] at H
           have c11b0 : decide ((ji9) < (l0.length : Int)) = true := decide_eq_true c11
           clear c11
           by_cases c12 : (rd l0 (ji9)) ≥ (rd l0 x14_1)
           ·rw [if_pos c12] at H
            have c12b0 : decide ((rd l0 x14_1) ≤ (rd l0 (ji9))) = true := decide_eq_true c12
            clear c12
            obtain rfl := Option.some.inj H
            have p1101 : 0 ≤ (x14_1 : Int) := dd_
            have q1101 : x14_1 < (l0.length : Int) := dd_
            obtain ⟨ad1101, e1101, hx1101_0⟩ := Kd.at_int HR0.out x14_1 p1101 q1101
            cases e1101
            replace p1101 := eq_true p1101
            replace q1101 := eq_true q1101
            go_wp2_with (first | (refine goesL_ (some 20) rfl rfl Try.func89 (by kernel_rfl) rfl #[.int .i64 (rd l0 x14_1)] rfl ll_ ?_; (with_reducible refine (impl_isNear.calls (rd l0 x14_1) true _ A6.out).mono ?_); rintro e w' ⟨rfl, ⟨nd, rfl⟩⟩; refine ⟨_, rfl, ?_⟩; have p1103 : 0 ≤ ((ji9) : Int) := dd_; have q1103 : (ji9) < (l0.length : Int) := dd_; obtain ⟨ad1103, e1103, hx1103_0⟩ := Kd.at_int HR0.out (ji9) p1103 q1103; obtain rfl : ad1101 = ad1103 := (by injection e1103); replace p1103 := eq_true p1103; replace q1103 := eq_true q1103))
            go_ret
            exact ⟨by first | rfl | (simp; done) | (simp only [← hji9] <;> (first | rfl | simp)) | (simp [*]; done), by repeat (first | exact Drawn0.refl _ | apply Drawn0.step)⟩
           ·rw [if_neg c12] at H
            have c12b0 : decide ((rd l0 x14_1) ≤ (rd l0 (ji9))) = false := decide_eq_false c12
            clear c12
            have H' := Aside0.mk H
            clear H
            have p1101 : 0 ≤ (x14_1 : Int) := dd_
            have q1101 : x14_1 < (l0.length : Int) := dd_
            obtain ⟨ad1101, e1101, hx1101_0⟩ := Kd.at_int HR0.out x14_1 p1101 q1101
            cases e1101
            replace p1101 := eq_true p1101
            replace q1101 := eq_true q1101
            go_wp2_with (first | (refine goesL_ (some 20) rfl rfl Try.func89 (by kernel_rfl) rfl #[.int .i64 (rd l0 x14_1)] rfl ll_ ?_; (with_reducible refine (impl_isNear.calls (rd l0 x14_1) true _ A6.out).mono ?_); rintro e w' ⟨rfl, ⟨nd, rfl⟩⟩; refine ⟨_, rfl, ?_⟩; have p1103 : 0 ≤ ((ji9) : Int) := dd_; have q1103 : (ji9) < (l0.length : Int) := dd_; obtain ⟨ad1103, e1103, hx1103_0⟩ := Kd.at_int HR0.out (ji9) p1103 q1103; obtain rfl : ad1101 = ad1103 := (by injection e1103); replace p1103 := eq_true p1103; replace q1103 := eq_true q1103))
            go_roundg k1
            case measure => have := HK1.out; omega
            case rel => exact ⟨(wrap64 (x14_1 + 1)), (by first | rfl | (simp; done) | (simp [*]; done)), H', ⟨by have := HK1.out; omega⟩, by repeat (first | exact Drawn0.refl _ | apply Drawn0.step)⟩
          ·rw [if_neg c11] at H
           exact absurd H (by simp)
         ·rw [if_neg c10] at H
          exact absurd H (by simp)
        ·rw [if_neg c8] at H
         have c8b0 : decide (0 < x14_1) = false := decide_eq_false c8
         clear c8
         have H' := Aside0.mk H
         clear H
         have p1101 : 0 ≤ (x14_1 : Int) := dd_
         have q1101 : x14_1 < (l0.length : Int) := dd_
         obtain ⟨ad1101, e1101, hx1101_0⟩ := Kd.at_int HR0.out x14_1 p1101 q1101
         cases e1101
         replace p1101 := eq_true p1101
         replace q1101 := eq_true q1101
         go_wp2_with (first | (refine goesL_ (some 20) rfl rfl Try.func89 (by kernel_rfl) rfl #[.int .i64 (rd l0 x14_1)] rfl ll_ ?_; (with_reducible refine (impl_isNear.calls (rd l0 x14_1) true _ A6.out).mono ?_); rintro e w' ⟨rfl, ⟨nd, rfl⟩⟩; refine ⟨_, rfl, ?_⟩))
         go_roundg k1
         case measure => have := HK1.out; omega
         case rel => exact ⟨(wrap64 (x14_1 + 1)), (by first | rfl | (simp; done) | (simp [*]; done)), H', ⟨by have := HK1.out; omega⟩, by repeat (first | exact Drawn0.refl _ | apply Drawn0.step)⟩
       ·replace c7 := Bool.eq_false_iff.mpr c7
        subst c7
        have H1 : (some false) = some r := by rw [if_neg (show ¬ (false = true) by decide)] at H; exact H
        clear H
        have H := H1
        clear H1
        obtain rfl := Option.some.inj H
        have p1101 : 0 ≤ (x14_1 : Int) := dd_
        have q1101 : x14_1 < (l0.length : Int) := dd_
        obtain ⟨ad1101, e1101, hx1101_0⟩ := Kd.at_int HR0.out x14_1 p1101 q1101
        cases e1101
        replace p1101 := eq_true p1101
        replace q1101 := eq_true q1101
        go_wp2_with (first | (refine goesL_ (some 20) rfl rfl Try.func89 (by kernel_rfl) rfl #[.int .i64 (rd l0 x14_1)] rfl ll_ ?_; (with_reducible refine (impl_isNear.calls (rd l0 x14_1) false _ A6.out).mono ?_); rintro e w' ⟨rfl, ⟨nd, rfl⟩⟩; refine ⟨_, rfl, ?_⟩))
        go_ret
        exact ⟨by first | rfl | (simp; done) | (simp [*]; done), by repeat (first | exact Drawn0.refl _ | apply Drawn0.step)⟩
      ·rw [if_neg c5] at H
       exact absurd H (by simp)
     ·rw [if_neg c4] at H
      exact absurd H (by simp)
    ·rw [if_neg c3] at H
     have c3b0 : decide (x14_1 < (l0.length : Int)) = false := decide_eq_false c3
     clear c3
     have H' := Aside0.mk H
     clear H
     go_wp2
     go_loopg [38] k1 (fun kq v38 w' => ∃ (x38_2 : Int), v38 = .int .i64 x38_2 ∧ Aside0 (impl_isLeaf.l1 kq l0 l0 (l0.length : Int) x38_2 = some r) ∧ Aside0 (kq ≤ k1) ∧ Drawn0 w w')
     case atStart => exact ⟨(0), (by first | rfl | (simp; done) | (simp [*]; done)), H', ⟨Nat.le_refl _⟩, by repeat (first | exact Drawn0.refl _ | apply Drawn0.step)⟩
     case round =>
      clear H'
      try clear c1
      try clear p1
      try clear q1
      try clear hx1
      try clear c2
      try clear c2b0
      try clear c2b1
      try clear p2
      try clear c3
      try clear c3b0
      try clear c4
      try clear c4b0
      try clear c5
      try clear c5b0
      try clear p6
      try clear c7
      try clear c8
      try clear c8b0
      try clear c10
      try clear c10b0
      try clear c11
      try clear c11b0
      try clear p11
      try clear q11
      try clear hx11
      try clear c12
      try clear c12b0
      try clear hx1101_0
      try clear hx1103_0
      try clear p1101
      try clear p1103
      try clear p2
      try clear q1101
      try clear q1103
      obtain ⟨x38_2, rfl, HA, HK2, ⟨m2, rfl⟩⟩ := hrel
      cases gk with
      | zero => exact absurd HA.out (by simp [impl_isLeaf.l1])
      | succ k2 =>
       have H := HA.out
       clear HA
       simp only [impl_isLeaf.l1] at H
       by_cases c13 : x38_2 < (l0.length : Int)
       ·rw [if_pos c13] at H
        have c13b0 : decide (x38_2 < (l0.length : Int)) = true := decide_eq_true c13
        clear c13
        by_cases c14 : 0 ≤ x38_2
        ·rw [if_pos c14] at H
         have c14b0 : decide (0 ≤ x38_2) = true := decide_eq_true c14
         clear c14
         by_cases c15 : x38_2 < (l0.length : Int)
         ·rw [if_pos c15] at H
          have c15b0 : decide (x38_2 < (l0.length : Int)) = true := decide_eq_true c15
          clear c15
          have H' := Aside0.mk H
          clear H
          have p1104 : 0 ≤ (x38_2 : Int) := dd_
          have q1104 : x38_2 < (l0.length : Int) := dd_
          obtain ⟨ad1104, e1104, hx1104_0⟩ := Kd.at_int HR0.out x38_2 p1104 q1104
          cases e1104
          replace p1104 := eq_true p1104
          replace q1104 := eq_true q1104
          go_wp2
          go_loopg [44] k2 (fun kq v44 w' => ∃ (x44_3 : Int), v44 = .int .i64 x44_3 ∧ Aside0 (impl_isLeaf.l2 kq l0 (rd l0 x38_2) l0 (l0.length : Int) x38_2 l0 (l0.length : Int) x44_3 = some r) ∧ Aside0 (kq ≤ k2) ∧ Drawn0 w w')
          case atStart => exact ⟨(0), (by first | rfl | (simp; done) | (simp [*]; done)), H', ⟨Nat.le_refl _⟩, by repeat (first | exact Drawn0.refl _ | apply Drawn0.step)⟩
          case round =>
           clear H'
           try clear c1
           try clear p1
           try clear q1
           try clear hx1
           try clear c2
           try clear c2b0
           try clear c2b1
           try clear p2
           try clear c3
           try clear c3b0
           try clear c4
           try clear c4b0
           try clear c5
           try clear c5b0
           try clear p6
           try clear c7
           try clear c8
           try clear c8b0
           try clear c10
           try clear c10b0
           try clear c11
           try clear c11b0
           try clear p11
           try clear q11
           try clear hx11
           try clear c12
           try clear c12b0
           try clear c13
           try clear c13b0
           try clear c14
           try clear c14b0
           try clear c15
           try clear c15b0
           try clear hx1101_0
           try clear hx1103_0
           try clear hx1104_0
           try clear p1
           try clear p11
           try clear p1101
           try clear p1103
           try clear p1104
           try clear p2
           try clear p6
           try clear q1
           try clear q11
           try clear q1101
           try clear q1103
           try clear q1104
           obtain ⟨x44_3, rfl, HA, HK3, ⟨m3, rfl⟩⟩ := hrel
           cases gk with
           | zero => exact absurd HA.out (by simp [impl_isLeaf.l2])
           | succ k3 =>
            have H := HA.out
            clear HA
            simp only [impl_isLeaf.l2] at H
            by_cases c16 : x44_3 < (l0.length : Int)
            ·rw [if_pos c16] at H
             have c16b0 : decide (x44_3 < (l0.length : Int)) = true := decide_eq_true c16
             clear c16
             by_cases c17 : 0 ≤ x44_3
             ·rw [if_pos c17] at H
              have c17b0 : decide (0 ≤ x44_3) = true := decide_eq_true c17
              clear c17
              by_cases c18 : x44_3 < (l0.length : Int)
              ·rw [if_pos c18] at H
               have c18b0 : decide (x44_3 < (l0.length : Int)) = true := decide_eq_true c18
               clear c18
               replace H := Option.bind_eq_some_iff.mp H
               obtain ⟨t1106, A190, H⟩ := H
               replace H : ((slices_Contains_int_int.f k3 l0 t1106).bind fun t1107 => (if t1107 = true then (impl_isLeaf.l2 k3 l0 (rd l0 x38_2) l0 (l0.length : Int) x38_2 l0 (l0.length : Int) (wrap64 (x44_3 + 1))) else (some false))) = some r := H
               have A19 := Aside0.mk A190
               clear A190
               replace H := Option.bind_eq_some_iff.mp H
               obtain ⟨t1107, A200, H⟩ := H
               replace H : (if t1107 = true then (impl_isLeaf.l2 k3 l0 (rd l0 x38_2) l0 (l0.length : Int) x38_2 l0 (l0.length : Int) (wrap64 (x44_3 + 1))) else (some false)) = some r := H
               have A20 := Aside0.mk A200
               clear A200
               by_cases c21 : t1107 = true
               ·subst c21
                have H1 : (impl_isLeaf.l2 k3 l0 (rd l0 x38_2) l0 (l0.length : Int) x38_2 l0 (l0.length : Int) (wrap64 (x44_3 + 1))) = some r := by rw [if_pos rfl] at H; exact H
                clear H
                have H := H1
                clear H1
                have H' := Aside0.mk H
                clear H
                have p1105 : 0 ≤ (x44_3 : Int) := dd_
                have q1105 : x44_3 < (l0.length : Int) := dd_
                obtain ⟨ad1105, e1105, hx1105_0⟩ := Kd.at_int HR0.out x44_3 p1105 q1105
                obtain rfl : ad1104 = ad1105 := (by injection e1105)
                replace p1105 := eq_true p1105
                replace q1105 := eq_true q1105
                go_wp2_with (first | (refine goesL_ (some 51) rfl rfl Try.func91 (by kernel_rfl) rfl #[.int .i64 (rd l0 x38_2), .int .i64 (rd l0 x44_3)] rfl ll_ ?_; (with_reducible refine (impl_addNear.calls (rd l0 x38_2) (rd l0 x44_3) t1106 _ A19.out).mono ?_); rintro e w' ⟨rfl, ⟨nd, rfl⟩⟩; refine ⟨_, rfl, ?_⟩) | (refine goesL_ (some 52) rfl rfl Try.func90 (by kernel_rfl) rfl #[.slice (some ad1104) l0.length c0, .int .i64 t1106] rfl ll_ ?_; (with_reducible refine (slices_Contains_int_int.calls k3 _ _ l0 t1106 true _ ?side1 ?side2 A20.out).mono ?_); (case side1 => exact ss_ HR0); (case side2 => exact HC0.out); rintro e w' ⟨rfl, ⟨nd, rfl⟩⟩; refine ⟨_, rfl, ?_⟩))
                go_roundg k3
                case measure => have := HK1.out; have := HK2.out; have := HK3.out; omega
                case rel => exact ⟨(wrap64 (x44_3 + 1)), (by first | rfl | (simp; done) | (simp [*]; done)), H', ⟨by have := HK1.out; have := HK2.out; have := HK3.out; omega⟩, by repeat (first | exact Drawn0.refl _ | apply Drawn0.step)⟩
               ·replace c21 := Bool.eq_false_iff.mpr c21
                subst c21
                have H1 : (some false) = some r := by rw [if_neg (show ¬ (false = true) by decide)] at H; exact H
                clear H
                have H := H1
                clear H1
                obtain rfl := Option.some.inj H
                have p1105 : 0 ≤ (x44_3 : Int) := dd_
                have q1105 : x44_3 < (l0.length : Int) := dd_
                obtain ⟨ad1105, e1105, hx1105_0⟩ := Kd.at_int HR0.out x44_3 p1105 q1105
                obtain rfl : ad1104 = ad1105 := (by injection e1105)
                replace p1105 := eq_true p1105
                replace q1105 := eq_true q1105
                go_wp2_with (first | (refine goesL_ (some 51) rfl rfl Try.func91 (by kernel_rfl) rfl #[.int .i64 (rd l0 x38_2), .int .i64 (rd l0 x44_3)] rfl ll_ ?_; (with_reducible refine (impl_addNear.calls (rd l0 x38_2) (rd l0 x44_3) t1106 _ A19.out).mono ?_); rintro e w' ⟨rfl, ⟨nd, rfl⟩⟩; refine ⟨_, rfl, ?_⟩) | (refine goesL_ (some 52) rfl rfl Try.func90 (by kernel_rfl) rfl #[.slice (some ad1104) l0.length c0, .int .i64 t1106] rfl ll_ ?_; (with_reducible refine (slices_Contains_int_int.calls k3 _ _ l0 t1106 false _ ?side1 ?side2 A20.out).mono ?_); (case side1 => exact ss_ HR0); (case side2 => exact HC0.out); rintro e w' ⟨rfl, ⟨nd, rfl⟩⟩; refine ⟨_, rfl, ?_⟩))
                go_ret
                exact ⟨by first | rfl | (simp; done) | (simp [*]; done), by repeat (first | exact Drawn0.refl _ | apply Drawn0.step)⟩
              ·rw [if_neg c18] at H
               exact absurd H (by simp)
             ·rw [if_neg c17] at H
              exact absurd H (by simp)
            ·rw [if_neg c16] at H
             have c16b0 : decide (x44_3 < (l0.length : Int)) = false := decide_eq_false c16
             clear c16
             have H' := Aside0.mk H
             clear H
             go_wp2
             go_roundg k3
             case measure => have := HK1.out; have := HK2.out; have := HK3.out; omega
             case rel => exact ⟨(wrap64 (x38_2 + 1)), (by first | rfl | (simp; done) | (simp [*]; done)), H', ⟨by have := HK1.out; have := HK2.out; have := HK3.out; omega⟩, by repeat (first | exact Drawn0.refl _ | apply Drawn0.step)⟩
         ·rw [if_neg c15] at H
          exact absurd H (by simp)
        ·rw [if_neg c14] at H
         exact absurd H (by simp)
       ·rw [if_neg c13] at H
        have c13b0 : decide (x38_2 < (l0.length : Int)) = false := decide_eq_false c13
        clear c13
        obtain rfl := Option.some.inj H
        go_wp2
        go_ret
        exact ⟨by first | rfl | (simp; done) | (simp [*]; done), by repeat (first | exact Drawn0.refl _ | apply Drawn0.step)⟩
 ·rw [if_neg c2] at H
  have c2b0 : ((l0.length : Int) == 9) = false := beq_eq_false_iff_ne.mpr c2
  have c2b1 : ((l0.length : Int) != 9) = true := bne_iff_ne.mpr c2
  obtain rfl := Option.some.inj H
  go_enter Try.func105, Try.ntmps105
  go_wp2
  go_ret
  exact ⟨by first | rfl | (simp; done) | (simp [*]; done), by repeat (first | exact Drawn0.refl _ | apply Drawn0.step)⟩
end Go.Proofs.Ytcbkoecanldlpaa.P

set_option linter.unusedVariables false
set_option linter.unusedSimpArgs false
namespace Go.Proofs.Ytcbkoecanldlpaa.X
open Go.RowKit Go.Proofs.YtcbkoecanldlpaaW.PrintWords Go.Proofs.YtcbkoecanldlpaaW.PrintLast Go.Proofs.Ytcbkoecanldlpaa.P

def nearB (p : Int) : Bool := decide (0 ≤ p) && decide (p < 81)
theorem nearB_iff {p : Int} : nearB p = true ↔ 0 ≤ p ∧ p < 81 := by simp [nearB]
def addF (p q : Int) : Int := 9 * addN (p / 9) (q / 9) + addN (p % 9) (q % 9)
theorem addF_range (p q : Int) : 0 ≤ addF p q ∧ addF p q < 81 := by
  unfold addF
  have := addN_range (p / 9) (q / 9)
  have := addN_range (p % 9) (q % 9)
  omega
def stepB (l : List Int) (i : Int) : Bool := nearB (rd l i) && (!decide (0 < i) || decide (rd l (i - 1) < rd l i))
def sumB (l : List Int) (i k : Int) : Bool := decide (addF (rd l i) (rd l k) ∈ l)
def leafB (l : List Int) : Bool := decide (l.length = 9) && (allI 9 (stepB l) && allI 9 fun i => allI 9 fun k => sumB l i k)
theorem leafB_hit1 {l : List Int} {i : Int} (h0 : 0 ≤ i) (h1 : i < 9) (h : stepB l i = false) : leafB l = false := by
  have : allI 9 (stepB l) = false := by
    cases e : allI 9 (stepB l) with
    | false => rfl
    | true => have := allI_int e i h0 h1; rw [h] at this; exact absurd this (by decide)
  unfold leafB; rw [this, Bool.false_and, Bool.and_false]
theorem leafB_hit2 {l : List Int} {i k : Int} (h0 : 0 ≤ i) (h1 : i < 9) (k0 : 0 ≤ k) (k1 : k < 9) (h : sumB l i k = false) : leafB l = false := by
  have : (allI 9 fun i => allI 9 fun k => sumB l i k) = false := by
    cases e : (allI 9 fun i => allI 9 fun k => sumB l i k) with
    | false => rfl
    | true => have := allI_int (allI_int e i h0 h1) k k0 k1; rw [h] at this; exact absurd this (by decide)
  unfold leafB; rw [this, Bool.and_false, Bool.and_false]
theorem leafB_all {l : List Int} (hl : l.length = 9) (h1 : ∀ i : Int, 0 ≤ i → i < 9 → stepB l i = true) (h2 : ∀ i k : Int, 0 ≤ i → i < 9 → 0 ≤ k → k < 9 → sumB l i k = true) : leafB l = true := by
  unfold leafB
  rw [decide_eq_true hl, allI_int_iff.2 h1, allI_int_iff.2 fun i i0 i1 => allI_int_iff.2 fun k k0 k1 => h2 i k i0 i1 k0 k1]; rfl
theorem l6lHas_loop (l : List Int) (hl : l.length ≤ 1048576) (x : Int) (d : Nat) : ∀ (i : Int), 0 ≤ i → i + d = l.length → (∀ j : Nat, (j : Int) < i → rd l (j : Int) ≠ x) → Ev (fun k => spec_l6lHas.l0 k l x i) (decide (x ∈ l)) := by
  induction d with
  | zero =>
    intro i h0 h1 h
    refine Ev.step (fun k => by rw [spec_l6lHas.l0]) ?_
    refine Ev.neg (by omega) (Ev.done ?_)
    rw [has_false fun j hj => h j (by omega)]
  | succ d ih =>
    intro i h0 h1 h
    refine Ev.step (fun k => by rw [spec_l6lHas.l0]) ?_
    simp (disch := omega) only [w64]
    refine Ev.pos (by omega) (Ev.pos (by omega) ?_)
    by_cases e : rd l i = x
    · refine Ev.pos e (Ev.done ?_)
      rw [decide_eq_true (e ▸ rd_mem (by omega) h0)]
    · refine Ev.neg e (ih (i + 1) (by omega) (by omega) fun j hj => ?_)
      by_cases ej : (j : Int) = i
      · rw [ej]; exact e
      · exact h j (by omega)
theorem l6lHas_ev (l : List Int) (hl : l.length ≤ 1048576) (x : Int) : Ev (fun k => spec_l6lHas.f k l x) (decide (x ∈ l)) :=
  l6lHas_loop l hl x l.length 0 (by omega) (by omega) (fun j h => by omega)
theorem l6lAdd_eq {p q : Int} (hp : nearB p = true) (hq : nearB q = true) : spec_l6lAdd.f p q = some (addF p q) := by
  obtain ⟨p0, p1⟩ := nearB_iff.1 hp
  obtain ⟨q0, q1⟩ := nearB_iff.1 hq
  have h1 := spec_l1Add_eq (p / 9) (q / 9) ⟨by omega, by omega⟩ ⟨by omega, by omega⟩
  have h2 := spec_l1Add_eq (p % 9) (q % 9) ⟨by omega, by omega⟩ ⟨by omega, by omega⟩
  obtain ⟨r0, r1⟩ := addN_range (p / 9) (q / 9)
  obtain ⟨s0, s1⟩ := addN_range (p % 9) (q % 9)
  unfold spec_l6lAdd.f addF
  simp (disch := omega) only [w64, tdiv_nn, tmod_nn, h1, h2, Option.bind_some]
theorem addNear_eq {p q : Int} (hp : nearB p = true) (hq : nearB q = true) : impl_addNear.f p q = some (addF p q) := by
  obtain ⟨p0, p1⟩ := nearB_iff.1 hp
  obtain ⟨q0, q1⟩ := nearB_iff.1 hq
  have h1 := impl_add_eq (p / 9) (q / 9) ⟨by omega, by omega⟩ ⟨by omega, by omega⟩
  have h2 := impl_add_eq (p % 9) (q % 9) ⟨by omega, by omega⟩ ⟨by omega, by omega⟩
  obtain ⟨r0, r1⟩ := addN_range (p / 9) (q / 9)
  obtain ⟨s0, s1⟩ := addN_range (p % 9) (q % 9)
  unfold impl_addNear.f addF
  simp (disch := omega) only [w64, tdiv_nn, tmod_nn, h1, h2, Option.bind_some]
theorem isNear_eq (p : Int) : impl_isNear.f p = some (nearB p) := by
  unfold impl_isNear.f nearB
  by_cases h : p ≥ 0
  · rw [if_pos h, decide_eq_true h]; simp
  · rw [if_neg h, decide_eq_false h]; simp
theorem l6In80 (p : Int) : spec_l6In.f p 0 80 = some (nearB p) := by
  unfold spec_l6In.f nearB
  by_cases h : p ≥ 0
  · rw [if_pos h, decide_eq_true h, Bool.true_and, show decide (p ≤ 80) = decide (p < 81) from decide_eq_decide.2 (by omega)]
  · rw [if_neg h, decide_eq_false h]; simp
theorem specLeaf_l2 (l : List Int) (hl : l.length = 9) (hs : ∀ i : Int, 0 ≤ i → i < 9 → stepB l i = true) (i : Int) (i0 : 0 ≤ i) (i1 : i < 9) (hr : (∀ k : Int, 0 ≤ k → k < 9 → sumB l i k = true) → Ev (fun n => spec_LeafIn.l1 n l (i + 1)) (leafB l)) (d : Nat) :
    ∀ (j : Int), 0 ≤ j → j + d = 9 → (∀ k : Int, 0 ≤ k → k < j → sumB l i k = true) → Ev (fun n => spec_LeafIn.l2 n l i j) (leafB l) := by
  induction d with
  | zero =>
    intro j h0 h1 h
    refine Ev.step (fun k => by rw [spec_LeafIn.l2]) ?_
    simp (disch := omega) only [w64]
    exact Ev.neg (by omega) (hr fun k k0 k1 => h k k0 (by omega))
  | succ d ih =>
    intro j h0 h1 h
    have n1 := hs i i0 i1
    have n2 := hs j h0 (by omega)
    unfold stepB at n1 n2
    have ha := l6lAdd_eq (Bool.and_eq_true _ _ ▸ n1).1 (Bool.and_eq_true _ _ ▸ n2).1
    refine Ev.step (fun k => by rw [spec_LeafIn.l2]) ?_
    simp (disch := omega) only [w64, ha, Option.bind_some]
    refine Ev.pos (by omega) (Ev.pos (by omega) (Ev.pos (by omega) (Ev.pos (by omega) (Ev.pos (by omega) (Ev.bind (l6lHas_ev l (by omega) _) ?_)))))
    by_cases e : sumB l i j = true
    · refine Ev.pos e (ih (j + 1) (by omega) (by omega) fun k k0 k1 => ?_)
      by_cases ek : k = j
      · rw [ek]; exact e
      · exact h k k0 (by omega)
    · refine Ev.neg e (Ev.done ?_)
      rw [leafB_hit2 i0 i1 h0 (by omega) (Bool.eq_false_iff.2 e)]
theorem specLeaf_l1 (l : List Int) (hl : l.length = 9) (hs : ∀ i : Int, 0 ≤ i → i < 9 → stepB l i = true) (d : Nat) : ∀ (i : Int), 0 ≤ i → i + d = 9 → (∀ x k : Int, 0 ≤ x → x < i → 0 ≤ k → k < 9 → sumB l x k = true) → Ev (fun n => spec_LeafIn.l1 n l i) (leafB l) := by
  induction d with
  | zero =>
    intro i h0 h1 h
    refine Ev.step (fun k => by rw [spec_LeafIn.l1]) ?_
    refine Ev.neg (by omega) (Ev.done ?_)
    rw [leafB_all hl hs fun x k x0 x1 k0 k1 => h x k x0 (by omega) k0 k1]
  | succ d ih =>
    intro i h0 h1 h
    refine Ev.step (fun k => by rw [spec_LeafIn.l1]) ?_
    refine Ev.pos (by omega) ?_
    refine specLeaf_l2 l hl hs i h0 (by omega) (fun hk => ih (i + 1) (by omega) (by omega) fun x k x0 x1 k0 k1 => ?_) 9 0 (by omega) (by omega) (fun k h0 h1 => by omega)
    by_cases e : x = i
    · rw [e]; exact hk k k0 k1
    · exact h x k x0 (by omega) k0 k1
theorem specLeaf_l0 (l : List Int) (hl : l.length = 9) (d : Nat) : ∀ (i : Int), 0 ≤ i → i + d = 9 → (∀ x : Int, 0 ≤ x → x < i → stepB l x = true) → Ev (fun n => spec_LeafIn.l0 n l i) (leafB l) := by
  induction d with
  | zero =>
    intro i h0 h1 h
    refine Ev.step (fun k => by rw [spec_LeafIn.l0]) ?_
    refine Ev.neg (by omega) ?_
    exact specLeaf_l1 l hl (fun x x0 x1 => h x x0 (by omega)) 9 0 (by omega) (by omega) (fun x k h0 h1 => by omega)
  | succ d ih =>
    intro i h0 h1 h
    have hst : stepB l i = (nearB (rd l i) && (!decide (0 < i) || decide (rd l (i - 1) < rd l i))) := rfl
    refine Ev.step (fun k => by rw [spec_LeafIn.l0]) ?_
    simp (disch := omega) only [w64, l6In80, Option.bind_some]
    refine Ev.pos (by omega) (Ev.pos (by omega) (Ev.pos (by omega) ?_))
    by_cases e1 : nearB (rd l i) = true
    case neg => exact Ev.neg e1 (Ev.done (by rw [leafB_hit1 h0 (by omega) (by rw [hst, Bool.eq_false_iff.2 e1]; rfl)]))
    refine Ev.pos e1 ?_
    have next : stepB l i = true → Ev (fun n => spec_LeafIn.l0 n l (i + 1)) (leafB l) := fun hs => ih (i + 1) (by omega) (by omega) fun x x0 x1 => by
      by_cases e : x = i
      · rw [e]; exact hs
      · exact h x x0 (by omega)
    by_cases hi : i > 0
    · refine Ev.pos hi (Ev.pos (by omega) (Ev.pos (by omega) ?_))
      by_cases e2 : rd l i ≤ rd l (i - 1)
      · refine Ev.pos e2 (Ev.done ?_)
        rw [leafB_hit1 h0 (by omega) (by rw [hst, decide_eq_true hi, decide_eq_false (by omega)]; simp)]
      · refine Ev.neg e2 (next ?_)
        rw [hst, e1, decide_eq_true (show rd l (i - 1) < rd l i by omega)]; simp
    · refine Ev.neg hi (next ?_)
      rw [hst, e1, decide_eq_false (show ¬ 0 < i by omega)]; rfl
theorem specLeaf_ev (l : List Int) : Ev (fun k => spec_LeafIn.f k l) (leafB l) := by
  unfold spec_LeafIn.f
  by_cases hl : l.length = 9
  · exact Ev.pos (by omega) (specLeaf_l0 l hl 9 0 (by omega) (by omega) (fun x h0 h1 => by omega))
  · refine Ev.neg (by omega) (Ev.done ?_)
    unfold leafB; rw [decide_eq_false hl]; rfl
theorem implLeaf_l2 (l : List Int) (hl : l.length = 9) (hs : ∀ i : Int, 0 ≤ i → i < 9 → stepB l i = true) (i : Int) (i0 : 0 ≤ i) (i1 : i < 9) (hr : (∀ k : Int, 0 ≤ k → k < 9 → sumB l i k = true) → Ev (fun n => impl_isLeaf.l1 n l l (l.length : Int) (i + 1)) (leafB l)) (d : Nat) :
    ∀ (j : Int), 0 ≤ j → j + d = 9 → (∀ k : Int, 0 ≤ k → k < j → sumB l i k = true) → Ev (fun n => impl_isLeaf.l2 n l (rd l i) l (l.length : Int) i l (l.length : Int) j) (leafB l) := by
  induction d with
  | zero =>
    intro j h0 h1 h
    refine Ev.step (fun k => by rw [impl_isLeaf.l2]) ?_
    simp (disch := omega) only [w64]
    exact Ev.neg (by omega) (hr fun k k0 k1 => h k k0 (by omega))
  | succ d ih =>
    intro j h0 h1 h
    have n1 := hs i i0 i1
    have n2 := hs j h0 (by omega)
    unfold stepB at n1 n2
    have ha := addNear_eq (Bool.and_eq_true _ _ ▸ n1).1 (Bool.and_eq_true _ _ ▸ n2).1
    refine Ev.step (fun k => by rw [impl_isLeaf.l2]) ?_
    simp (disch := omega) only [w64, ha, Option.bind_some]
    refine Ev.pos (by omega) (Ev.pos (by omega) (Ev.pos (by omega) (Ev.bind (contains_ev l (by omega) _) ?_)))
    by_cases e : sumB l i j = true
    · refine Ev.pos e (ih (j + 1) (by omega) (by omega) fun k k0 k1 => ?_)
      by_cases ek : k = j
      · rw [ek]; exact e
      · exact h k k0 (by omega)
    · refine Ev.neg e (Ev.done ?_)
      rw [leafB_hit2 i0 i1 h0 (by omega) (Bool.eq_false_iff.2 e)]
theorem implLeaf_l1 (l : List Int) (hl : l.length = 9) (hs : ∀ i : Int, 0 ≤ i → i < 9 → stepB l i = true) (d : Nat) : ∀ (i : Int), 0 ≤ i → i + d = 9 → (∀ x k : Int, 0 ≤ x → x < i → 0 ≤ k → k < 9 → sumB l x k = true) → Ev (fun n => impl_isLeaf.l1 n l l (l.length : Int) i) (leafB l) := by
  induction d with
  | zero =>
    intro i h0 h1 h
    refine Ev.step (fun k => by rw [impl_isLeaf.l1]) ?_
    refine Ev.neg (by omega) (Ev.done ?_)
    rw [leafB_all hl hs fun x k x0 x1 k0 k1 => h x k x0 (by omega) k0 k1]
  | succ d ih =>
    intro i h0 h1 h
    refine Ev.step (fun k => by rw [impl_isLeaf.l1]) ?_
    refine Ev.pos (by omega) (Ev.pos (by omega) (Ev.pos (by omega) ?_))
    refine implLeaf_l2 l hl hs i h0 (by omega) (fun hk => ih (i + 1) (by omega) (by omega) fun x k x0 x1 k0 k1 => ?_) 9 0 (by omega) (by omega) (fun k h0 h1 => by omega)
    by_cases e : x = i
    · rw [e]; exact hk k k0 k1
    · exact h x k x0 (by omega) k0 k1
theorem implLeaf_l0 (l : List Int) (hl : l.length = 9) (d : Nat) : ∀ (i : Int), 0 ≤ i → i + d = 9 → (∀ x : Int, 0 ≤ x → x < i → stepB l x = true) → Ev (fun n => impl_isLeaf.l0 n l l (l.length : Int) i) (leafB l) := by
  induction d with
  | zero =>
    intro i h0 h1 h
    refine Ev.step (fun k => by rw [impl_isLeaf.l0]) ?_
    refine Ev.neg (by omega) ?_
    exact implLeaf_l1 l hl (fun x x0 x1 => h x x0 (by omega)) 9 0 (by omega) (by omega) (fun x k h0 h1 => by omega)
  | succ d ih =>
    intro i h0 h1 h
    have hst : stepB l i = (nearB (rd l i) && (!decide (0 < i) || decide (rd l (i - 1) < rd l i))) := rfl
    refine Ev.step (fun k => by rw [impl_isLeaf.l0]) ?_
    simp (disch := omega) only [w64, isNear_eq, Option.bind_some]
    refine Ev.pos (by omega) (Ev.pos (by omega) (Ev.pos (by omega) ?_))
    by_cases e1 : nearB (rd l i) = true
    case neg => exact Ev.neg e1 (Ev.done (by rw [leafB_hit1 h0 (by omega) (by rw [hst, Bool.eq_false_iff.2 e1]; rfl)]))
    refine Ev.pos e1 ?_
    have next : stepB l i = true → Ev (fun n => impl_isLeaf.l0 n l l (l.length : Int) (i + 1)) (leafB l) := fun hs => ih (i + 1) (by omega) (by omega) fun x x0 x1 => by
      by_cases e : x = i
      · rw [e]; exact hs
      · exact h x x0 (by omega)
    by_cases hi : i > 0
    · refine Ev.pos hi (Ev.pos (by omega) (Ev.pos (by omega) ?_))
      by_cases e2 : rd l (i - 1) ≥ rd l i
      · refine Ev.pos e2 (Ev.done ?_)
        rw [leafB_hit1 h0 (by omega) (by rw [hst, decide_eq_true hi, decide_eq_false (by omega)]; simp)]
      · refine Ev.neg e2 (next ?_)
        rw [hst, e1, decide_eq_true (show rd l (i - 1) < rd l i by omega)]; simp
    · refine Ev.neg hi (next ?_)
      rw [hst, e1, decide_eq_false (show ¬ 0 < i by omega)]; rfl
theorem implLeaf_ev (l : List Int) : Ev (fun k => impl_isLeaf.f k l) (leafB l) := by
  unfold impl_isLeaf.f
  by_cases hl : l.length = 9
  · exact Ev.pos (by omega) (implLeaf_l0 l hl 9 0 (by omega) (by omega) (fun x h0 h1 => by omega))
  · refine Ev.neg (by omega) (Ev.done ?_)
    unfold leafB; rw [decide_eq_false hl]; rfl
end Go.Proofs.Ytcbkoecanldlpaa.X

set_option linter.unusedVariables false
set_option linter.unusedSimpArgs false
namespace Go.Proofs.Ytcbkoecanldlpaa.X
open Go.RowKit Go.Proofs.YtcbkoecanldlpaaW.PrintWords

def firstI (n : Nat) (p : Int → Bool) : Int := match (List.range n).find? fun (i : Nat) => p (i : Int) with | some i => (i : Int) | none => -1
theorem firstI_none {n : Nat} {p : Int → Bool} (h : ∀ i : Int, 0 ≤ i → i < n → p i = false) : firstI n p = -1 := by
  have : ((List.range n).find? fun (i : Nat) => p (i : Int)) = none := by
    rw [List.find?_eq_none]
    intro i hi
    rw [h i (by omega) (by have := List.mem_range.1 hi; omega)]; simp
  unfold firstI; rw [this]
theorem firstI_some {n : Nat} {p : Int → Bool} (i : Int) (h0 : 0 ≤ i) (h1 : i < n) (hp : p i = true) (h : ∀ j : Int, 0 ≤ j → j < i → p j = false) : firstI n p = i := by
  have : ((List.range n).find? fun (i : Nat) => p (i : Int)) = some i.toNat := by
    rw [List.find?_range_eq_some]
    refine ⟨by rw [Int.toNat_of_nonneg h0]; exact hp, List.mem_range.2 (by omega), fun j hj => ?_⟩
    rw [h j (by omega) (by omega)]; rfl
  unfold firstI; rw [this]; show ((i.toNat : Nat) : Int) = i; omega
theorem firstI_spec {n : Nat} {p : Int → Bool} (i : Int) (h0 : 0 ≤ i) (h1 : i < n) (hp : p i = true) : 0 ≤ firstI n p ∧ firstI n p < n ∧ p (firstI n p) = true ∧ firstI n p ≤ i := by
  cases e : ((List.range n).find? fun (i : Nat) => p (i : Int)) with
  | none =>
    rw [List.find?_eq_none] at e
    have := e i.toNat (List.mem_range.2 (by omega))
    rw [Int.toNat_of_nonneg h0, hp] at this; exact absurd rfl this
  | some j =>
    rw [List.find?_range_eq_some] at e
    obtain ⟨h2, h3, h4⟩ := e
    have hj : firstI n p = (j : Int) := by
      unfold firstI
      rw [show ((List.range n).find? fun (i : Nat) => p (i : Int)) = some j from List.find?_range_eq_some.2 ⟨h2, h3, h4⟩]
    have hjn := List.mem_range.1 h3
    rw [hj]
    refine ⟨by omega, by omega, h2, ?_⟩
    rcases Int.lt_or_le i (j : Int) with hlt | hle
    · have := h4 i.toNat (by omega)
      rw [Int.toNat_of_nonneg h0, hp] at this; exact absurd this (by decide)
    · exact hle
theorem pigeon (n : Nat) : ∀ f : Nat → Nat, (∀ i, i < n → f i < n) → (∀ i j, i < j → j < n → f i ≠ f j) → ∀ y, y < n → ∃ i, i < n ∧ f i = y := by
  induction n with
  | zero => intro f _ _ y hy; omega
  | succ n ih =>
    intro f hr hi y hy
    by_cases ha : f n = n
    · by_cases hyn : y = n
      · exact ⟨n, by omega, by rw [ha, hyn]⟩
      · obtain ⟨i, h1, h2⟩ := ih f (fun i h => by have := hr i (by omega); have := hi i n h (by omega); omega) (fun i j h h' => hi i j h (by omega)) y (by omega)
        exact ⟨i, by omega, h2⟩
    · have han : f n < n := by have := hr n (by omega); omega
      have key := ih (fun i => if f i = n then f n else f i) (fun i h => by
          by_cases e : f i = n
          · simp only [e, if_true]; exact han
          · simp only [e, if_false]; have := hr i (by omega); omega)
        (fun i j h h' => by
          by_cases e1 : f i = n <;> by_cases e2 : f j = n
          · exact absurd (e1.trans e2.symm) (hi i j h (by omega))
          · simp only [e1, e2, if_true, if_false]; exact fun e => hi j n h' (by omega) e.symm
          · simp only [e1, e2, if_true, if_false]; exact fun e => hi i n (by omega) (by omega) e
          · simp only [e1, e2, if_false]; exact hi i j h (by omega))
      by_cases hya : y = f n
      · exact ⟨n, by omega, hya.symm⟩
      · by_cases hyn : y = n
        · obtain ⟨i, h1, h2⟩ := key (f n) han
          by_cases e : f i = n
          · exact ⟨i, by omega, by rw [e, hyn]⟩
          · simp only [e, if_false] at h2
            exact absurd h2 (hi i n h1 (by omega))
        · obtain ⟨i, h1, h2⟩ := key y (by omega)
          by_cases e : f i = n
          · simp only [e, if_true] at h2
            exact absurd h2.symm hya
          · simp only [e, if_false] at h2
            exact ⟨i, by omega, h2⟩
theorem addN_zero {a : Int} (h0 : 0 ≤ a) (h1 : a < 9) : addN a 0 = a := nine1 (P := fun a => addN a 0 = a) (by decide +kernel) a h0 h1
theorem minus_eq {a b : Int} (h0 : 0 ≤ a) (h1 : a < 9) (h2 : 0 ≤ b) (h3 : b < 9) (h : addN a (minusN b) = 0) : a = b := nine2 (P := fun a b => addN a (minusN b) = 0 → a = b) (by decide +kernel) a b h0 h1 h2 h3 h
theorem sysB_parts {t : List Int} (h : sysB t = true) : ninesB t 81 = true ∧ unitsB t = true ∧ sharesB t = true ∧ solvesB t = true := by
  unfold sysB at h
  simp only [Bool.and_eq_true] at h
  exact h
def onB (t : List Int) (p l : Int) : Bool :=
  if l = 90 then decide (81 ≤ p) else if 81 ≤ l then (decide (p = 90) || (decide (p < 81) && decide (p / 9 = l - 81))) else if 81 ≤ p then decide (p = 81 + l / 9) else decide (p % 9 = addN (rd t (9 * (p / 9) + l / 9)) (l % 9))
end Go.Proofs.Ytcbkoecanldlpaa.X

namespace Go.Proofs.Ytcbkoecanldlpaa.P
open Go.RowKit Go.Proofs.YtcbkoecanldlpaaW.PrintWords Go.Proofs.YtcbkoecanldlpaaW.PrintLast
set_option linter.unusedVariables false
set_option linter.unusedSimpArgs false

def cmp_isNaN_int.f (a0 : Int) : Option (Bool) := some (a0 != a0)
set_option maxHeartbeats 8000000 in
set_option maxRecDepth 100000 in
theorem cmp_isNaN_int.calls (a0 : Int) (r : Bool) (w : World) (h : cmp_isNaN_int.f a0 = some r) :
  Calls Try.prog 199 #[.int .i64 a0] w fun e w' => e = .returned (.bool r) ∧ Drawn0 w w' := by
 have H : (some (a0 != a0)) = some r := h
 clear h
 obtain rfl := Option.some.inj H
 go_enter Try.func199, Try.ntmps199
 go_wp2
 go_ret
 exact ⟨by first | rfl | (simp; done) | (simp [*]; done), by repeat (first | exact Drawn0.refl _ | apply Drawn0.step)⟩
end Go.Proofs.Ytcbkoecanldlpaa.P

namespace Go.Proofs.Ytcbkoecanldlpaa.P
open Go.RowKit Go.Proofs.YtcbkoecanldlpaaW.PrintWords Go.Proofs.YtcbkoecanldlpaaW.PrintLast
set_option linter.unusedVariables false
set_option linter.unusedSimpArgs false

def cmp_Compare_int.f (a0 : Int) (a1 : Int) : Option (Int) := (cmp_isNaN_int.f a0).bind fun t1108 => ((cmp_isNaN_int.f a1).bind fun t1109 => (if t1108 = true then (if t1109 = true then (some 0) else (some (-1))) else (if t1109 = true then (some 1) else (if a0 < a1 then (some (-1)) else (if a0 > a1 then (some 1) else (some 0))))))
set_option maxHeartbeats 8000000 in
set_option maxRecDepth 100000 in
theorem cmp_Compare_int.calls (a0 : Int) (a1 : Int) (r : Int) (w : World) (h : cmp_Compare_int.f a0 a1 = some r) :
  Calls Try.prog 183 #[.int .i64 a0, .int .i64 a1] w fun e w' => e = .returned (.int .i64 r) ∧ Drawn0 w w' := by
 have H : ((cmp_isNaN_int.f a0).bind fun t1108 => ((cmp_isNaN_int.f a1).bind fun t1109 => (if t1108 = true then (if t1109 = true then (some 0) else (some (-1))) else (if t1109 = true then (some 1) else (if a0 < a1 then (some (-1)) else (if a0 > a1 then (some 1) else (some 0))))))) = some r := h
 clear h
 replace H := Option.bind_eq_some_iff.mp H
 obtain ⟨t1108, A30, H⟩ := H
 replace H : ((cmp_isNaN_int.f a1).bind fun t1109 => (if t1108 = true then (if t1109 = true then (some 0) else (some (-1))) else (if t1109 = true then (some 1) else (if a0 < a1 then (some (-1)) else (if a0 > a1 then (some 1) else (some 0)))))) = some r := H
 have A3 := Aside0.mk A30
 clear A30
 replace H := Option.bind_eq_some_iff.mp H
 obtain ⟨t1109, A40, H⟩ := H
 replace H : (if t1108 = true then (if t1109 = true then (some 0) else (some (-1))) else (if t1109 = true then (some 1) else (if a0 < a1 then (some (-1)) else (if a0 > a1 then (some 1) else (some 0))))) = some r := H
 have A4 := Aside0.mk A40
 clear A40
 by_cases c5 : t1108 = true
 ·subst c5
  have H1 : (if t1109 = true then (some 0) else (some (-1))) = some r := by rw [if_pos rfl] at H; exact H
  clear H
  have H := H1
  clear H1
  by_cases c6 : t1109 = true
  ·subst c6
   have H1 : (some 0) = some r := by rw [if_pos rfl] at H; exact H
   clear H
   have H := H1
   clear H1
   obtain rfl := Option.some.inj H
   go_enter Try.func183, Try.ntmps183
   go_wp2_with (first | (refine goesL_ (some 8) rfl rfl Try.func199 (by kernel_rfl) rfl #[.int .i64 a0] rfl ll_ ?_; (with_reducible refine (cmp_isNaN_int.calls a0 true _ A3.out).mono ?_); rintro e w' ⟨rfl, ⟨nd, rfl⟩⟩; refine ⟨_, rfl, ?_⟩) | (refine goesL_ (some 10) rfl rfl Try.func199 (by kernel_rfl) rfl #[.int .i64 a1] rfl ll_ ?_; (with_reducible refine (cmp_isNaN_int.calls a1 true _ A4.out).mono ?_); rintro e w' ⟨rfl, ⟨nd, rfl⟩⟩; refine ⟨_, rfl, ?_⟩))
   go_ret
   exact ⟨by first | rfl | (simp; done) | (simp [*]; done), by repeat (first | exact Drawn0.refl _ | apply Drawn0.step)⟩
  ·replace c6 := Bool.eq_false_iff.mpr c6
   subst c6
   have H1 : (some (-1)) = some r := by rw [if_neg (show ¬ (false = true) by decide)] at H; exact H
   clear H
   have H := H1
   clear H1
   obtain rfl := Option.some.inj H
   go_enter Try.func183, Try.ntmps183
   go_wp2_with (first | (refine goesL_ (some 8) rfl rfl Try.func199 (by kernel_rfl) rfl #[.int .i64 a0] rfl ll_ ?_; (with_reducible refine (cmp_isNaN_int.calls a0 true _ A3.out).mono ?_); rintro e w' ⟨rfl, ⟨nd, rfl⟩⟩; refine ⟨_, rfl, ?_⟩) | (refine goesL_ (some 10) rfl rfl Try.func199 (by kernel_rfl) rfl #[.int .i64 a1] rfl ll_ ?_; (with_reducible refine (cmp_isNaN_int.calls a1 false _ A4.out).mono ?_); rintro e w' ⟨rfl, ⟨nd, rfl⟩⟩; refine ⟨_, rfl, ?_⟩))
   go_ret
   exact ⟨by first | rfl | (simp; done) | (simp [*]; done), by repeat (first | exact Drawn0.refl _ | apply Drawn0.step)⟩
 ·replace c5 := Bool.eq_false_iff.mpr c5
  subst c5
  have H1 : (if t1109 = true then (some 1) else (if a0 < a1 then (some (-1)) else (if a0 > a1 then (some 1) else (some 0)))) = some r := by rw [if_neg (show ¬ (false = true) by decide)] at H; exact H
  clear H
  have H := H1
  clear H1
  by_cases c7 : t1109 = true
  ·subst c7
   have H1 : (some 1) = some r := by rw [if_pos rfl] at H; exact H
   clear H
   have H := H1
   clear H1
   obtain rfl := Option.some.inj H
   go_enter Try.func183, Try.ntmps183
   go_wp2_with (first | (refine goesL_ (some 8) rfl rfl Try.func199 (by kernel_rfl) rfl #[.int .i64 a0] rfl ll_ ?_; (with_reducible refine (cmp_isNaN_int.calls a0 false _ A3.out).mono ?_); rintro e w' ⟨rfl, ⟨nd, rfl⟩⟩; refine ⟨_, rfl, ?_⟩) | (refine goesL_ (some 10) rfl rfl Try.func199 (by kernel_rfl) rfl #[.int .i64 a1] rfl ll_ ?_; (with_reducible refine (cmp_isNaN_int.calls a1 true _ A4.out).mono ?_); rintro e w' ⟨rfl, ⟨nd, rfl⟩⟩; refine ⟨_, rfl, ?_⟩))
   go_ret
   exact ⟨by first | rfl | (simp; done) | (simp [*]; done), by repeat (first | exact Drawn0.refl _ | apply Drawn0.step)⟩
  ·replace c7 := Bool.eq_false_iff.mpr c7
   subst c7
   have H1 : (if a0 < a1 then (some (-1)) else (if a0 > a1 then (some 1) else (some 0))) = some r := by rw [if_neg (show ¬ (false = true) by decide)] at H; exact H
   clear H
   have H := H1
   clear H1
   by_cases c8 : a0 < a1
   ·rw [if_pos c8] at H
    have c8b0 : decide (a0 < a1) = true := decide_eq_true c8
    clear c8
    obtain rfl := Option.some.inj H
    go_enter Try.func183, Try.ntmps183
    go_wp2_with (first | (refine goesL_ (some 8) rfl rfl Try.func199 (by kernel_rfl) rfl #[.int .i64 a0] rfl ll_ ?_; (with_reducible refine (cmp_isNaN_int.calls a0 false _ A3.out).mono ?_); rintro e w' ⟨rfl, ⟨nd, rfl⟩⟩; refine ⟨_, rfl, ?_⟩) | (refine goesL_ (some 10) rfl rfl Try.func199 (by kernel_rfl) rfl #[.int .i64 a1] rfl ll_ ?_; (with_reducible refine (cmp_isNaN_int.calls a1 false _ A4.out).mono ?_); rintro e w' ⟨rfl, ⟨nd, rfl⟩⟩; refine ⟨_, rfl, ?_⟩))
    go_ret
    exact ⟨by first | rfl | (simp; done) | (simp [*]; done), by repeat (first | exact Drawn0.refl _ | apply Drawn0.step)⟩
   ·rw [if_neg c8] at H
    have c8b0 : decide (a0 < a1) = false := decide_eq_false c8
    clear c8
    by_cases c9 : a0 > a1
    ·rw [if_pos c9] at H
     have c9b0 : decide (a1 < a0) = true := decide_eq_true c9
     clear c9
     obtain rfl := Option.some.inj H
     go_enter Try.func183, Try.ntmps183
     go_wp2_with (first | (refine goesL_ (some 8) rfl rfl Try.func199 (by kernel_rfl) rfl #[.int .i64 a0] rfl ll_ ?_; (with_reducible refine (cmp_isNaN_int.calls a0 false _ A3.out).mono ?_); rintro e w' ⟨rfl, ⟨nd, rfl⟩⟩; refine ⟨_, rfl, ?_⟩) | (refine goesL_ (some 10) rfl rfl Try.func199 (by kernel_rfl) rfl #[.int .i64 a1] rfl ll_ ?_; (with_reducible refine (cmp_isNaN_int.calls a1 false _ A4.out).mono ?_); rintro e w' ⟨rfl, ⟨nd, rfl⟩⟩; refine ⟨_, rfl, ?_⟩))
     go_ret
     exact ⟨by first | rfl | (simp; done) | (simp [*]; done), by repeat (first | exact Drawn0.refl _ | apply Drawn0.step)⟩
    ·rw [if_neg c9] at H
     have c9b0 : decide (a1 < a0) = false := decide_eq_false c9
     clear c9
     obtain rfl := Option.some.inj H
     go_enter Try.func183, Try.ntmps183
     go_wp2_with (first | (refine goesL_ (some 8) rfl rfl Try.func199 (by kernel_rfl) rfl #[.int .i64 a0] rfl ll_ ?_; (with_reducible refine (cmp_isNaN_int.calls a0 false _ A3.out).mono ?_); rintro e w' ⟨rfl, ⟨nd, rfl⟩⟩; refine ⟨_, rfl, ?_⟩) | (refine goesL_ (some 10) rfl rfl Try.func199 (by kernel_rfl) rfl #[.int .i64 a1] rfl ll_ ?_; (with_reducible refine (cmp_isNaN_int.calls a1 false _ A4.out).mono ?_); rintro e w' ⟨rfl, ⟨nd, rfl⟩⟩; refine ⟨_, rfl, ?_⟩))
     go_ret
     exact ⟨by first | rfl | (simp; done) | (simp [*]; done), by repeat (first | exact Drawn0.refl _ | apply Drawn0.step)⟩
end Go.Proofs.Ytcbkoecanldlpaa.P

namespace Go.Proofs.Ytcbkoecanldlpaa.P
open Go.RowKit Go.Proofs.YtcbkoecanldlpaaW.PrintWords Go.Proofs.YtcbkoecanldlpaaW.PrintLast
set_option linter.unusedVariables false
set_option linter.unusedSimpArgs false

def slices_Compare_int_int.l0 : Nat → List Int → List Int → List Int → Int → Int → Option (Int)
 | 0, _, _, _, _, _ => none
 | k + 1, x0, x1, x9, x10, x11 => if x11 < x10 then (if 0 ≤ x11 then (if x11 < (x9.length : Int) then (if x11 ≥ (x1.length : Int) then (some 1) else (if x11 < (x1.length : Int) then ((cmp_Compare_int.f (rd x9 x11) (rd x1 x11)).bind fun t1112 => (if t1112 = 0 then (slices_Compare_int_int.l0 k x0 x1 x9 x10 (wrap64 (x11 + 1))) else (some t1112))) else (none))) else (none)) else (none)) else (if (x0.length : Int) < (x1.length : Int) then (some (-1)) else (some 0))
def slices_Compare_int_int.f (k : Nat) (l0 : List Int) (l1 : List Int) : Option (Int) := slices_Compare_int_int.l0 k l0 l1 l0 (l0.length : Int) 0
set_option maxHeartbeats 8000000 in
set_option maxRecDepth 100000 in
theorem slices_Compare_int_int.calls (k : Nat) (A0 : Option Addr) (c0 : Nat) (l0 : List Int) (A1 : Option Addr) (c1 : Nat) (l1 : List Int) (r : Int) (w : World) (hr0 : Kd.C (Kd.int .i64) w A0 l0.length l0) (hc0 : l0.length ≤ c0) (hr1 : Kd.C (Kd.int .i64) w A1 l1.length l1) (hc1 : l1.length ≤ c1) (h : slices_Compare_int_int.f k l0 l1 = some r) :
  Calls Try.prog 154 #[.slice A0 l0.length c0, .slice A1 l1.length c1] w fun e w' => e = .returned (.int .i64 r) ∧ Drawn0 w w' := by
 have HR0 := Aside0.mk hr0
 have HC0 := Aside0.mk hc0
 clear hr0 hc0
 have HR1 := Aside0.mk hr1
 have HC1 := Aside0.mk hc1
 clear hr1 hc1
 have H : (slices_Compare_int_int.l0 k l0 l1 l0 (l0.length : Int) 0) = some r := h
 clear h
 have H' := Aside0.mk H
 clear H
 go_enter Try.func154, Try.ntmps154
 go_wp2
 go_loopg [11] k (fun kq v11 w' => ∃ (x11_1 : Int), v11 = .int .i64 x11_1 ∧ Aside0 (slices_Compare_int_int.l0 kq l0 l1 l0 (l0.length : Int) x11_1 = some r) ∧ Aside0 (kq ≤ k) ∧ Drawn0 w w')
 case atStart => exact ⟨(0), (by first | rfl | (simp; done) | (simp [*]; done)), H', ⟨Nat.le_refl _⟩, by repeat (first | exact Drawn0.refl _ | apply Drawn0.step)⟩
 case round =>
  clear H'
  try clear c1
  try clear p2
  obtain ⟨x11_1, rfl, HA, HK1, ⟨m1, rfl⟩⟩ := hrel
  cases gk with
  | zero => exact absurd HA.out (by simp [slices_Compare_int_int.l0])
  | succ k1 =>
   have H := HA.out
   clear HA
   simp only [slices_Compare_int_int.l0] at H
   by_cases c3 : x11_1 < (l0.length : Int)
   ·rw [if_pos c3] at H
    have c3b0 : decide (x11_1 < (l0.length : Int)) = true := decide_eq_true c3
    clear c3
    by_cases c4 : 0 ≤ x11_1
    ·rw [if_pos c4] at H
     have c4b0 : decide (0 ≤ x11_1) = true := decide_eq_true c4
     clear c4
     by_cases c5 : x11_1 < (l0.length : Int)
     ·rw [if_pos c5] at H
      have c5b0 : decide (x11_1 < (l0.length : Int)) = true := decide_eq_true c5
      clear c5
      by_cases c6 : x11_1 ≥ (l1.length : Int)
      ·rw [if_pos c6] at H
       have c6b0 : decide ((l1.length : Int) ≤ x11_1) = true := decide_eq_true c6
       clear c6
       obtain rfl := Option.some.inj H
       have p1110 : 0 ≤ (x11_1 : Int) := dd_
       have q1110 : x11_1 < (l0.length : Int) := dd_
       obtain ⟨ad1110, e1110, hx1110_0⟩ := Kd.at_int HR0.out x11_1 p1110 q1110
       cases e1110
       replace p1110 := eq_true p1110
       replace q1110 := eq_true q1110
       go_wp2
       go_ret
       exact ⟨by first | rfl | (simp; done) | (simp [*]; done), by repeat (first | exact Drawn0.refl _ | apply Drawn0.step)⟩
      ·rw [if_neg c6] at H
       have c6b0 : decide ((l1.length : Int) ≤ x11_1) = false := decide_eq_false c6
       clear c6
       by_cases c7 : x11_1 < (l1.length : Int)
       ·rw [if_pos c7] at H
        have c7b0 : decide (x11_1 < (l1.length : Int)) = true := decide_eq_true c7
        clear c7
        replace H := Option.bind_eq_some_iff.mp H
        obtain ⟨t1112, A80, H⟩ := H
        replace H : (if t1112 = 0 then (slices_Compare_int_int.l0 k1 l0 l1 l0 (l0.length : Int) (wrap64 (x11_1 + 1))) else (some t1112)) = some r := H
        have A8 := Aside0.mk A80
        clear A80
        by_cases c9 : t1112 = 0
        ·rw [if_pos c9] at H
         have c9b0 : (t1112 == 0) = true := beq_iff_eq.mpr c9
         have c9b1 : (t1112 != 0) = false := bne_eq_false_iff_eq.mpr c9
         clear c9
         have H' := Aside0.mk H
         clear H
         have p1110 : 0 ≤ (x11_1 : Int) := dd_
         have q1110 : x11_1 < (l0.length : Int) := dd_
         obtain ⟨ad1110, e1110, hx1110_0⟩ := Kd.at_int HR0.out x11_1 p1110 q1110
         cases e1110
         replace p1110 := eq_true p1110
         replace q1110 := eq_true q1110
         have p1111 : 0 ≤ (x11_1 : Int) := dd_
         have q1111 : x11_1 < (l1.length : Int) := dd_
         obtain ⟨ad1111, e1111, hx1111_0⟩ := Kd.at_int HR1.out x11_1 p1111 q1111
         cases e1111
         replace p1111 := eq_true p1111
         replace q1111 := eq_true q1111
         go_wp2_with (first | (refine goesL_ (some 26) rfl rfl Try.func183 (by kernel_rfl) rfl #[.int .i64 (rd l0 x11_1), .int .i64 (rd l1 x11_1)] rfl ll_ ?_; (with_reducible refine (cmp_Compare_int.calls (rd l0 x11_1) (rd l1 x11_1) t1112 _ A8.out).mono ?_); rintro e w' ⟨rfl, ⟨nd, rfl⟩⟩; refine ⟨_, rfl, ?_⟩))
         go_roundg k1
         case measure => have := HK1.out; omega
         case rel => exact ⟨(wrap64 (x11_1 + 1)), (by first | rfl | (simp; done) | (simp [*]; done)), H', ⟨by have := HK1.out; omega⟩, by repeat (first | exact Drawn0.refl _ | apply Drawn0.step)⟩
        ·rw [if_neg c9] at H
         have c9b0 : (t1112 == 0) = false := beq_eq_false_iff_ne.mpr c9
         have c9b1 : (t1112 != 0) = true := bne_iff_ne.mpr c9
         obtain rfl := Option.some.inj H
         have p1110 : 0 ≤ (x11_1 : Int) := dd_
         have q1110 : x11_1 < (l0.length : Int) := dd_
         obtain ⟨ad1110, e1110, hx1110_0⟩ := Kd.at_int HR0.out x11_1 p1110 q1110
         cases e1110
         replace p1110 := eq_true p1110
         replace q1110 := eq_true q1110
         have p1111 : 0 ≤ (x11_1 : Int) := dd_
         have q1111 : x11_1 < (l1.length : Int) := dd_
         obtain ⟨ad1111, e1111, hx1111_0⟩ := Kd.at_int HR1.out x11_1 p1111 q1111
         cases e1111
         replace p1111 := eq_true p1111
         replace q1111 := eq_true q1111
         go_wp2_with (first | (refine goesL_ (some 26) rfl rfl Try.func183 (by kernel_rfl) rfl #[.int .i64 (rd l0 x11_1), .int .i64 (rd l1 x11_1)] rfl ll_ ?_; (with_reducible refine (cmp_Compare_int.calls (rd l0 x11_1) (rd l1 x11_1) t1112 _ A8.out).mono ?_); rintro e w' ⟨rfl, ⟨nd, rfl⟩⟩; refine ⟨_, rfl, ?_⟩))
         go_ret
         exact ⟨by first | rfl | (simp; done) | (simp [*]; done), by repeat (first | exact Drawn0.refl _ | apply Drawn0.step)⟩
       ·rw [if_neg c7] at H
        exact absurd H (by simp)
     ·rw [if_neg c5] at H
      exact absurd H (by simp)
    ·rw [if_neg c4] at H
     exact absurd H (by simp)
   ·rw [if_neg c3] at H
    have c3b0 : decide (x11_1 < (l0.length : Int)) = false := decide_eq_false c3
    clear c3
    by_cases c10 : (l0.length : Int) < (l1.length : Int)
    ·rw [if_pos c10] at H
     have c10b0 : decide ((l0.length : Int) < (l1.length : Int)) = true := decide_eq_true c10
     have c10b1 : decide (l0.length < l1.length) = true := decide_eq_true (Int.ofNat_lt.mp c10)
     clear c10
     obtain rfl := Option.some.inj H
     go_wp2
     go_ret
     exact ⟨by first | rfl | (simp; done) | (simp [*]; done), by repeat (first | exact Drawn0.refl _ | apply Drawn0.step)⟩
    ·rw [if_neg c10] at H
     have c10b0 : decide ((l0.length : Int) < (l1.length : Int)) = false := decide_eq_false c10
     have c10b1 : decide (l0.length < l1.length) = false := decide_eq_false (fun h => c10 (Int.ofNat_lt.mpr h))
     clear c10
     obtain rfl := Option.some.inj H
     go_wp2
     go_ret
     exact ⟨by first | rfl | (simp; done) | (simp [*]; done), by repeat (first | exact Drawn0.refl _ | apply Drawn0.step)⟩
end Go.Proofs.Ytcbkoecanldlpaa.P

set_option linter.unusedVariables false
set_option linter.unusedSimpArgs false
namespace Go.Proofs.Ytcbkoecanldlpaa.X
open Go.RowKit Go.Proofs.YtcbkoecanldlpaaW.PrintWords Go.Proofs.YtcbkoecanldlpaaW.PrintLast Go.Proofs.Ytcbkoecanldlpaa.P

def gapI (a b : List Int) : Int := firstI 9 fun i => rd a i != rd b i
def lessB (a b : List Int) : Bool := decide (0 ≤ gapI a b) && decide (rd a (gapI a b) < rd b (gapI a b))
def cmpI (a b : List Int) : Int := if gapI a b < 0 then 0 else if rd a (gapI a b) < rd b (gapI a b) then -1 else 1
theorem gapI_ge (a b : List Int) : -1 ≤ gapI a b := by
  unfold gapI
  by_cases h : ∃ i : Int, 0 ≤ i ∧ i < 9 ∧ (rd a i != rd b i) = true
  · obtain ⟨i, h0, h1, h2⟩ := h
    have := firstI_spec (n := 9) (p := fun i => rd a i != rd b i) i h0 h1 h2
    omega
  · rw [firstI_none fun i h0 h1 => Bool.eq_false_iff.2 fun h2 => h ⟨i, h0, h1, h2⟩]; omega
theorem cmpI_less {a b : List Int} : decide (cmpI a b ≥ 0) = !lessB a b := by
  unfold cmpI lessB
  have := gapI_ge a b
  by_cases h : gapI a b < 0
  · rw [if_pos h, decide_eq_false (by omega : ¬ 0 ≤ gapI a b)]; rfl
  · rw [if_neg h, decide_eq_true (by omega : 0 ≤ gapI a b)]
    by_cases h2 : rd a (gapI a b) < rd b (gapI a b)
    · rw [if_pos h2, decide_eq_true h2]; rfl
    · rw [if_neg h2, decide_eq_false h2]; rfl
theorem isNaN_eq (x : Int) : cmp_isNaN_int.f x = some false := by
  unfold cmp_isNaN_int.f
  simp
theorem cmpInt_eq (x y : Int) : cmp_Compare_int.f x y = some (if x < y then -1 else if x > y then 1 else 0) := by
  unfold cmp_Compare_int.f
  rw [isNaN_eq, isNaN_eq]
  simp only [Option.bind_some, Bool.false_eq_true, if_false]
  split <;> (try split) <;> rfl
theorem compare_loop (a b : List Int) (ha : a.length = 9) (hb : b.length = 9) (d : Nat) : ∀ i : Int, 0 ≤ i → i + d = 9 → (∀ j : Int, 0 ≤ j → j < i → rd a j = rd b j) → Ev (fun k => slices_Compare_int_int.l0 k a b a 9 i) (cmpI a b) := by
  induction d with
  | zero =>
    intro i h0 h1 h
    refine Ev.step (fun k => by rw [slices_Compare_int_int.l0]) ?_
    refine Ev.neg (by omega) (Ev.neg (by omega) (Ev.done ?_))
    have : gapI a b = -1 := firstI_none fun j j0 j1 => by rw [h j j0 (by omega)]; simp
    unfold cmpI; rw [this]; rfl
  | succ d ih =>
    intro i h0 h1 h
    refine Ev.step (fun k => by rw [slices_Compare_int_int.l0]) ?_
    rw [w64 (x := i + 1) (by omega) (by omega), cmpInt_eq]
    refine Ev.pos (by omega) (Ev.pos h0 (Ev.pos (by omega) (Ev.neg (by omega) (Ev.pos (by omega) (Ev.fix rfl ?_)))))
    have gap : rd a i ≠ rd b i → gapI a b = i := fun hne => firstI_some i h0 (by omega) (by simpa using hne) fun j j0 j1 => by rw [h j j0 j1]; simp
    by_cases c1 : rd a i < rd b i
    · rw [if_pos c1]
      refine Ev.neg (by decide) (Ev.done ?_)
      unfold cmpI; rw [gap (by omega), if_neg (by omega), if_pos c1]
    · rw [if_neg c1]
      by_cases c2 : rd a i > rd b i
      · rw [if_pos c2]
        refine Ev.neg (by decide) (Ev.done ?_)
        unfold cmpI; rw [gap (by omega), if_neg (by omega), if_neg c1]
      · rw [if_neg c2]
        refine Ev.pos rfl (ih (i + 1) (by omega) (by omega) fun j j0 j1 => ?_)
        by_cases e : j = i
        · rw [e]; omega
        · exact h j j0 (by omega)
theorem compare_ev (a b : List Int) (ha : a.length = 9) (hb : b.length = 9) : Ev (fun k => slices_Compare_int_int.f k a b) (cmpI a b) := by
  unfold slices_Compare_int_int.f
  rw [show (a.length : Int) = 9 by omega]
  exact compare_loop a b ha hb 9 0 (by omega) (by omega) (fun j j0 j1 => by omega)
theorem leafB_parts {l : List Int} (h : leafB l = true) : l.length = 9 ∧ (∀ i : Int, 0 ≤ i → i < 9 → stepB l i = true) ∧ (∀ i k : Int, 0 ≤ i → i < 9 → 0 ≤ k → k < 9 → sumB l i k = true) := by
  unfold leafB at h
  simp only [Bool.and_eq_true, decide_eq_true_eq] at h
  exact ⟨h.1, fun i i0 i1 => allI_int h.2.1 i i0 i1, fun i k i0 i1 k0 k1 => allI_int (allI_int h.2.2 i i0 i1) k k0 k1⟩
theorem leaf_near {l : List Int} (h : leafB l = true) {i : Int} (i0 : 0 ≤ i) (i1 : i < 9) : 0 ≤ rd l i ∧ rd l i < 81 := by
  have := (leafB_parts h).2.1 i i0 i1
  unfold stepB at this
  exact nearB_iff.1 (Bool.and_eq_true _ _ ▸ this).1
theorem leaf_step {l : List Int} (h : leafB l = true) {i : Int} (i0 : 0 < i) (i1 : i < 9) : rd l (i - 1) < rd l i := by
  have := (leafB_parts h).2.1 i (by omega) i1
  unfold stepB at this
  have := (Bool.and_eq_true _ _ ▸ this).2
  rw [decide_eq_true i0] at this
  simpa using this
theorem leaf_lt {l : List Int} (h : leafB l = true) (d : Nat) : ∀ i : Int, 0 ≤ i → i + 1 + d < 9 → rd l i < rd l (i + 1 + d) := by
  induction d with
  | zero =>
    intro i i0 i1
    have := leaf_step h (i := i + 1) (by omega) (by omega)
    rw [show i + 1 - 1 = i by omega] at this
    simpa using this
  | succ d ih =>
    intro i i0 i1
    have h1 := ih i i0 (by omega)
    have h2 := leaf_step h (i := i + 1 + ((d + 1 : Nat) : Int)) (by omega) (by omega)
    rw [show i + 1 + ((d + 1 : Nat) : Int) - 1 = i + 1 + (d : Int) by omega] at h2
    omega
theorem leaf_asc {l : List Int} (h : leafB l = true) {i j : Int} (i0 : 0 ≤ i) (ij : i < j) (j1 : j < 9) : rd l i < rd l j := by
  have := leaf_lt h (j - i - 1).toNat i i0 (by omega)
  rwa [show i + 1 + ((j - i - 1).toNat : Int) = j by omega] at this
theorem mem_rd {l : List Int} {v : Int} (h : v ∈ l) : ∃ i : Int, 0 ≤ i ∧ i < l.length ∧ rd l i = v := by
  obtain ⟨i, hi, e⟩ := List.mem_iff_getElem.1 h
  exact ⟨i, by omega, by omega, by rw [rd_cast l i hi, e]⟩
theorem addF_three (x : Int) (h0 : 0 ≤ x) (h1 : x < 81) : addF (addF x x) x = 0 := by
  have k : ∀ u : Int, 0 ≤ u → u < 9 → addN (addN u u) u = 0 := fun u u0 u1 => nine1 (P := fun u => addN (addN u u) u = 0) (by decide +kernel) u u0 u1
  have r1 := addN_range (x / 9) (x / 9)
  have r2 := addN_range (x % 9) (x % 9)
  have e1 := k (x / 9) (by omega) (by omega)
  have e2 := k (x % 9) (by omega) (by omega)
  unfold addF
  rw [show (9 * addN (x / 9) (x / 9) + addN (x % 9) (x % 9)) / 9 = addN (x / 9) (x / 9) by omega, show (9 * addN (x / 9) (x / 9) + addN (x % 9) (x % 9)) % 9 = addN (x % 9) (x % 9) by omega, e1, e2]
  rfl
theorem leaf_sum {l : List Int} (h : leafB l = true) {x y : Int} (hx : x ∈ l) (hy : y ∈ l) : addF x y ∈ l := by
  have hl := (leafB_parts h).1
  obtain ⟨i, i0, i1, rfl⟩ := mem_rd hx
  obtain ⟨j, j0, j1, rfl⟩ := mem_rd hy
  have := (leafB_parts h).2.2 i j i0 (by omega) j0 (by omega)
  unfold sumB at this
  exact of_decide_eq_true this
theorem leaf_zero {l : List Int} (h : leafB l = true) : rd l 0 = 0 := by
  have hl := (leafB_parts h).1
  have hm : rd l 0 ∈ l := rd_mem (by omega) (by omega)
  have hn := leaf_near h (i := 0) (by omega) (by omega)
  have hz := leaf_sum h (leaf_sum h hm hm) hm
  rw [addF_three _ hn.1 hn.2] at hz
  obtain ⟨i, i0, i1, e⟩ := mem_rd hz
  by_cases e0 : i = 0
  · rw [e0] at e; exact e
  · have := leaf_asc h (i := 0) (j := i) (by omega) (by omega) (by omega)
    omega
theorem leaf_pos {l : List Int} (h : leafB l = true) {i : Int} (i0 : 0 < i) (i1 : i < 9) : 0 < rd l i := by
  have := leaf_asc h (i := 0) (j := i) (by omega) i0 i1
  have := leaf_zero h
  omega
theorem leaf_take {l : List Int} (h : leafB l = true) {i : Int} (i0 : 0 ≤ i) (i1 : i < 9) : rd l i ∉ l.take i.toNat := by
  intro hm
  obtain ⟨j, hj, e⟩ := List.mem_take_iff_getElem.1 hm
  have := leaf_asc h (i := (j : Int)) (j := i) (by omega) (by omega) i1
  rw [rd_cast l j (by omega), e] at this
  omega
def seenS (l : List (List Int)) (i p : Int) : Bool := (List.range i.toNat).any fun (j : Nat) => decide (p ∈ rd_LI l (j : Int))
theorem seenS_zero (l : List (List Int)) (p : Int) : seenS l 0 p = false := rfl
theorem seenS_succ (l : List (List Int)) {i : Int} (h0 : 0 ≤ i) (p : Int) : seenS l (i + 1) p = (seenS l i p || decide (p ∈ rd_LI l i)) := by
  unfold seenS
  rw [show (i + 1).toNat = i.toNat + 1 by omega, List.range_succ, List.any_append]
  simp [Int.toNat_of_nonneg h0]
def freshB (l : List (List Int)) (i : Int) : Bool := (rd_LI l i).all fun p => decide (p ≤ 0) || !seenS l i p
def ordB (l : List (List Int)) (i : Int) : Bool := decide (i ≤ 0) || lessB (rd_LI l (i - 1)) (rd_LI l i)
def leafOk (l : List (List Int)) (i : Int) : Bool := leafB (rd_LI l i) && (ordB l i && freshB l i)
def spreadB (l : List (List Int)) : Bool := decide (l.length = 10) && allI 10 (leafOk l)
theorem spreadB_hit {l : List (List Int)} {i : Int} (h0 : 0 ≤ i) (h1 : i < 10) (h : leafOk l i = false) : spreadB l = false := by
  cases e : spreadB l with
  | false => rfl
  | true =>
    unfold spreadB at e
    have := allI_int (Bool.and_eq_true _ _ ▸ e).2 i h0 h1
    rw [h] at this; exact absurd this (by decide)
theorem spreadB_all {l : List (List Int)} (hl : l.length = 10) (h : ∀ i : Int, 0 ≤ i → i < 10 → leafOk l i = true) : spreadB l = true := by
  unfold spreadB
  rw [decide_eq_true hl, allI_int_iff.2 h]; rfl
theorem spreadB_parts {l : List (List Int)} (h : spreadB l = true) : l.length = 10 ∧ ∀ i : Int, 0 ≤ i → i < 10 → leafOk l i = true := by
  unfold spreadB at h
  simp only [Bool.and_eq_true, decide_eq_true_eq] at h
  exact ⟨h.1, fun i i0 i1 => allI_int h.2 i i0 i1⟩
theorem leafOk_parts {l : List (List Int)} {i : Int} (h : leafOk l i = true) : leafB (rd_LI l i) = true ∧ ordB l i = true ∧ freshB l i = true := by
  unfold leafOk at h
  simp only [Bool.and_eq_true] at h
  exact h
end Go.Proofs.Ytcbkoecanldlpaa.X

set_option linter.unusedVariables false
set_option linter.unusedSimpArgs false
namespace Go.Proofs.Ytcbkoecanldlpaa.X
open Go.RowKit Go.Proofs.YtcbkoecanldlpaaW.PrintWords

def In91 (p : Int) : Prop := 0 ≤ p ∧ p < 91
def pointsL (t : List Int) (l : Int) : List Int := filI 91 fun p => onB t p l
theorem rd_getElem {l : List Int} {i : Int} (h0 : 0 ≤ i) (h1 : i < l.length) : rd l i = l[i.toNat]'(by omega) := by
  unfold rd
  rw [List.getD_eq_getElem?_getD]
  simp [show i.toNat < l.length by omega]
def ptB (p : Int) : Bool := decide (0 ≤ p) && decide (p < 91)
def newB (l : List Int) (i : Int) : Bool := ptB (rd l i) && !decide (rd l i ∈ l.take i.toNat)
def diffB (l : List Int) : Bool := allI l.length (newB l)
theorem diffB_hit {l : List Int} {i : Int} (h0 : 0 ≤ i) (h1 : i < l.length) (h : newB l i = false) : diffB l = false := by
  cases e : diffB l with
  | false => rfl
  | true => have := allI_int e i h0 h1; rw [h] at this; exact absurd this (by decide)
theorem diffB_all {l : List Int} (h : ∀ i : Int, 0 ≤ i → i < l.length → newB l i = true) : diffB l = true := allI_int_iff.2 h
end Go.Proofs.Ytcbkoecanldlpaa.X

set_option linter.unusedVariables false
set_option linter.unusedSimpArgs false
namespace Go.Proofs.Ytcbkoecanldlpaa.X
open Go.RowKit Go.Proofs.YtcbkoecanldlpaaW.PrintWords Go.Proofs.YtcbkoecanldlpaaW.PrintLast Go.Proofs.Ytcbkoecanldlpaa.P

theorem isLeaf_calls (A0 : Option Addr) (c0 : Nat) (l : List Int) (w : World) (hr : Kd.C (Kd.int .i64) w A0 l.length l) (hc : l.length ≤ c0) :
    Calls Try.prog 105 #[.slice A0 l.length c0] w fun e w' => e = .returned (.bool (leafB l)) ∧ Drawn0 w w' := by
  obtain ⟨k, hk⟩ := (implLeaf_ev l).rounds
  exact impl_isLeaf.calls k A0 c0 l _ w hr hc hk
theorem compare_calls (A0 : Option Addr) (c0 : Nat) (a : List Int) (A1 : Option Addr) (c1 : Nat) (b : List Int) (ha : a.length = 9) (hb : b.length = 9) (w : World) (hr : Kd.C (Kd.int .i64) w A0 a.length a) (hc : a.length ≤ c0) (hr1 : Kd.C (Kd.int .i64) w A1 b.length b) (hc1 : b.length ≤ c1) :
    Calls Try.prog 154 #[.slice A0 a.length c0, .slice A1 b.length c1] w fun e w' => e = .returned (.int .i64 (cmpI a b)) ∧ Drawn0 w w' := by
  obtain ⟨k, hk⟩ := (compare_ev a b ha hb).rounds
  exact slices_Compare_int_int.calls k A0 c0 a A1 c1 b _ w hr hc hr1 hc1 hk
theorem freshB_all {l : List (List Int)} {i : Int} (hl : (rd_LI l i).length = 9) (h : ∀ j : Int, 0 ≤ j → j < 9 → (decide (rd (rd_LI l i) j ≤ 0) || !seenS l i (rd (rd_LI l i) j)) = true) : freshB l i = true := by
  unfold freshB
  rw [List.all_eq_true]
  intro p hp
  obtain ⟨j, j0, j1, rfl⟩ := mem_rd hp
  exact h j j0 (by omega)
theorem freshB_hit {l : List (List Int)} {i j : Int} (hl : (rd_LI l i).length = 9) (j0 : 0 ≤ j) (j1 : j < 9) (h : (decide (rd (rd_LI l i) j ≤ 0) || !seenS l i (rd (rd_LI l i) j)) = false) : freshB l i = false := by
  cases e : freshB l i with
  | false => rfl
  | true =>
    unfold freshB at e
    have := List.all_eq_true.1 e _ (rd_mem (i := j) (by omega) j0)
    rw [h] at this; exact absurd this (by decide)
set_option maxRecDepth 100000 in
set_option maxHeartbeats 8000000 in
theorem isSpread_calls (A0 : Option Addr) (c0 : Nat) (l : List (List Int)) (w : World) (hr : Kd.C (Kd.slice 3 (Kd.int .i64)) w A0 l.length l) :
    Calls Try.prog 96 #[.slice A0 l.length c0] w fun e w' => e = .returned (.bool (spreadB l)) ∧ Below w.heap.size w w' := by
  have hz : ∀ w, Sem.run Try.prog (zeroValue 87) w = .ok (.agg (bA 81 (fun _ => false))) w := fun _ => by kernel_rfl
  have hst := fun w => arr_store (P := Try.prog) 87 81 (fun _ => false) (by kernel_rfl) w
  have HR := Aside0.mk hr
  clear hr
  by_cases hl : l.length = 10
  case neg =>
    have e : spreadB l = false := by unfold spreadB; rw [decide_eq_false hl]; rfl
    have E := Aside0.mk e
    have l1 : ((l.length : Int) == 10) = false := beq_eq_false_iff_ne.2 (by omega)
    have l2 : ((l.length : Int) != 10) = true := by rw [bne, l1]; rfl
    clear e hl
    go_enter Try.func96, Try.ntmps96
    go_wp2
    go_ret
    exact ⟨by rw [E.out]; rfl, Below.refl _ _⟩
  case pos =>
  have l1 : ((l.length : Int) == 10) = true := beq_iff_eq.2 (by omega)
  have l2 : ((l.length : Int) != 10) = false := by rw [bne, l1]; rfl
  have HL := Aside0.mk hl
  have HS := Aside0.mk (Arr.alloc w 87 81 (fun _ => false))
  have HB3 := Aside0.mk ((Below.refl w.heap.size w).alloc (Nat.le_refl _) (.cells (bA 81 (fun _ => false)) 87))
  clear hl
  go_enter Try.func96, Try.ntmps96
  go_wp2
  go_loopg [14] 10 (fun kq v14 w' => ∃ i : Int, v14 = .int .i64 i ∧ Aside0 (0 ≤ i ∧ i ≤ 10) ∧ Aside0 ((10 : Int) - i ≤ kq) ∧ Aside0 (∀ j : Int, 0 ≤ j → j < i → leafOk l j = true) ∧ Aside0 (Arr w' w.heap.size 87 81 (fun p => seenS l i (p : Int))) ∧ Aside0 (Below w.heap.size w w'))
  case atStart => exact ⟨0, rfl, ⟨by omega⟩, ⟨by omega⟩, ⟨fun x h0 h1 => by omega⟩, ⟨HS.out.congr (fun j hj => rfl)⟩, HB3⟩
  case round =>
    clear HS HB3 hz hst
    obtain ⟨i, rfl, HI, HK, HA, HS, HB⟩ := hrel
    have h0 : 0 ≤ i := HI.out.1
    by_cases c6 : i < (l.length : Int)
    case neg =>
      go_wp2
      go_ret
      have hall : spreadB l = true := spreadB_all HL.out fun j j0 j1 => HA.out j j0 (by have := HI.out; have := HL.out; omega)
      exact ⟨by rw [hall]; rfl, HB.out⟩
    case pos =>
    have c10 : i < 10 := by have := HL.out; omega
    obtain ⟨ad, A1, c1, e1, hx, hcap, hin⟩ := at_LI HR.out i h0 c6
    cases e1
    replace hx := pw_cell_below HB.out hx
    have HIN := Aside0.mk hin
    have HCAP := Aside0.mk hcap
    have hcall := isLeaf_calls A1 c1 (rd_LI l i) wr (Kd.C_below hin HB.out) hcap
    have hleaf : leafB (rd_LI l i) = false → spreadB l = false := fun h => spreadB_hit h0 c10 (by unfold leafOk; rw [h]; rfl)
    have hord : ordB l i = false → spreadB l = false := fun h => spreadB_hit h0 c10 (by unfold leafOk; rw [h, Bool.false_and, Bool.and_false])
    have HORD := Aside0.mk hord
    clear hin hcap hord
    obtain ⟨L, hL⟩ : ∃ L, rd_LI l i = L := ⟨_, rfl⟩
    have HLL := Aside0.mk hL
    rw [hL] at hcall hx HIN HCAP hleaf
    clear hL
    by_cases hlf : leafB L = true
    case neg =>
      have hlf := Bool.eq_false_iff.2 hlf
      have E := Aside0.mk (hleaf hlf)
      rw [hlf] at hcall
      have HC := Aside0.mk hcall
      clear hcall hleaf hlf
      go_wp2_with (go_at_call 105; refine HC.out.mono ?_; rintro e w' ⟨rfl, ⟨nd, rfl⟩⟩)
      go_ret
      exact ⟨by rw [E.out]; rfl, pw_below_drewN HB.out _⟩
    case pos =>
    rw [hlf] at hcall
    have HC := Aside0.mk hcall
    have HLF := Aside0.mk hlf
    clear hcall hleaf hlf
    go_upto_region 7 with (fail)
    go_cut [35] (fun v35 wc => v35 = .bool (!ordB l i) ∧ Aside0 (Drawn0 wr wc))
    case first =>
      by_cases ci : i = 0
      · subst ci
        go_wp2_with (go_at_call 105; refine HC.out.mono ?_; rintro e w' ⟨rfl, ⟨nd, rfl⟩⟩)
        go_meet
        case rel => exact ⟨rfl, ⟨⟨_, rfl⟩⟩⟩
      · have hpos : decide (0 < i) = true := decide_eq_true (by omega)
        have zw : IntKind.i64.wrap (i - 1) = i - 1 := by rw [IntKind.wrap_i64]; omega
        have i1 : (0 : Int) ≤ i - 1 := by omega
        have i2 : i - 1 < (l.length : Int) := by omega
        obtain ⟨ad2, A2, c2, e1, hx2, hcap2, hin2⟩ := at_LI HR.out (i - 1) i1 i2
        cases e1
        have hlp := (leafOk_parts (HA.out (i - 1) i1 (by omega))).1
        have ho : ordB l i = lessB (rd_LI l (i - 1)) L := by unfold ordB; rw [decide_eq_false (by omega : ¬ i ≤ 0), HLL.out]; rfl
        obtain ⟨P, hP⟩ : ∃ P, rd_LI l (i - 1) = P := ⟨_, rfl⟩
        rw [hP] at hx2 hcap2 hin2 hlp ho
        replace hx2 := pw_cell_below HB.out hx2
        rw [show (i - 1).toNat = i.toNat - 1 by omega] at hx2
        have i3 : (1 : Int) ≤ i := by omega
        have i4 : i < (l.length : Int) + 1 := by omega
        have HC2 := Aside0.mk (fun n => compare_calls A2 c2 P A1 c1 L (leafB_parts hlp).1 (leafB_parts HLF.out).1 (wr.drewN n) (Kd.C_drewN (Kd.C_below hin2 HB.out) n) hcap2 (Kd.C_drewN (Kd.C_below HIN.out HB.out) n) HCAP.out)
        have hge := cmpI_less (a := P) (b := L)
        obtain ⟨c, hc⟩ : ∃ c, cmpI P L = c := ⟨_, rfl⟩
        rw [hc] at HC2 hge
        have hge2 : decide (0 ≤ c) = !lessB P L := hge
        obtain ⟨o, hoo⟩ : ∃ o, lessB P L = o := ⟨_, rfl⟩
        rw [hoo] at hge hge2 ho
        have HOE := Aside0.mk ho
        clear hP hin2 hlp ho hc hoo hcap2 ci
        go_wp2_with (first | (go_at_call 105; refine HC.out.mono ?_; rintro e w' ⟨rfl, ⟨nd, rfl⟩⟩) | (go_at_call 154; refine (HC2.out _).mono ?_; rintro e w' ⟨rfl, ⟨nd2, rfl⟩⟩))
        go_meet
        case rel => (rw [HOE.out]; exact ⟨rfl, ⟨⟨_, by first | exact World.drewN_drewN .. | rfl⟩⟩⟩)
    case rest =>
      clear HC hx
      obtain ⟨rfl, HD⟩ := hcut
      have HBc := Aside0.mk (HB.out.trans (HD.out.below.mono HB.out.size))
      have HSc := Aside0.mk (HS.out.below HD.out.below)
      clear HD HS HB
      by_cases hord : ordB l i = true
      case neg =>
        have hord := Bool.eq_false_iff.2 hord
        have E := Aside0.mk (HORD.out hord)
        rw [hord]
        clear hord
        go_wp2
        go_ret
        exact ⟨by rw [E.out]; rfl, HBc.out⟩
      case pos =>
      have HO := Aside0.mk hord
      have HL9 := Aside0.mk (leafB_parts HLF.out).1
      rw [hord]
      clear hord HORD
      go_wp2
      go_loopg [38] 9 (fun kq v38 w' => ∃ k : Int, v38 = .int .i64 k ∧ Aside0 (0 ≤ k ∧ k ≤ 9) ∧ Aside0 ((9 : Int) - k ≤ kq) ∧ Aside0 (∀ j : Int, 0 ≤ j → j < k → (decide (rd L j ≤ 0) || !seenS l i (rd L j)) = true) ∧ Aside0 (Arr w' w.heap.size 87 81 (fun p => seenS l i (p : Int) || decide ((p : Int) ∈ L.take k.toNat))) ∧ Aside0 (Below w.heap.size w w'))
      case atStart => exact ⟨0, rfl, ⟨by omega⟩, ⟨by omega⟩, ⟨fun x h0 h1 => by omega⟩, ⟨HSc.out.congr (fun j hj => by simp)⟩, HBc⟩
      case round =>
        clear HSc HBc
        obtain ⟨k, rfl, KI, KK, KA, KS, KB⟩ := hrel
        have k0 : 0 ≤ k := KI.out.1
        by_cases c9 : k < (L.length : Int)
        case neg =>
          have hk : k = 9 := by have := KI.out; have := HL9.out; omega
          have hfr : freshB l i = true := freshB_all (by rw [HLL.out]; exact HL9.out) fun j j0 j1 => by rw [HLL.out]; exact KA.out j j0 (by omega)
          have HOK := Aside0.mk (show leafOk l i = true by unfold leafOk; rw [HLL.out, HLF.out, HO.out, hfr]; rfl)
          have HTK := Aside0.mk (show L.take k.toNat = L from List.take_of_length_le (by have := HL9.out; omega))
          have zw : IntKind.i64.wrap (i + 1) = i + 1 := by rw [IntKind.wrap_i64]; omega
          clear hfr hk
          go_wp2
          go_roundg (10 - (i.toNat + 1))
          case measure => have := HK.out; omega
          case rel =>
            refine ⟨i + 1, rfl, ⟨by omega⟩, ⟨by omega⟩, ⟨fun j j0 j1 => ?_⟩, ⟨KS.out.congr fun j hj => ?_⟩, KB⟩
            · by_cases e : j = i
              · rw [e]; exact HOK.out
              · exact HA.out j j0 (by omega)
            · rw [seenS_succ l h0, HLL.out, HTK.out]
        case pos =>
        have k9 : k < 9 := by have := HL9.out; omega
        obtain ⟨a1, e1, g1⟩ := Kd.at_int (Kd.C_below HIN.out KB.out) k k0 c9
        subst e1
        obtain ⟨p0, p1⟩ := leaf_near HLF.out k0 k9
        have hnt := leaf_take HLF.out k0 k9
        have hkey : (seenS l i ((rd L k).toNat : Int) || decide (((rd L k).toNat : Int) ∈ L.take k.toNat)) = seenS l i (rd L k) := by
          rw [Int.toNat_of_nonneg p0, decide_eq_false hnt, Bool.or_false]
        have hcl := KS.out.cell (rd L k).toNat (by omega)
        rw [hkey] at hcl
        have hf := KS.out.frozen (rd L k).toNat
        have hhit : (decide (rd L k ≤ 0) || !seenS l i (rd L k)) = false → spreadB l = false := fun h => spreadB_hit h0 c10 (by
          unfold leafOk; rw [freshB_hit (by rw [HLL.out]; exact HL9.out) k0 k9 (by rw [HLL.out]; exact h), Bool.and_false, Bool.and_false])
        have HHIT := Aside0.mk hhit
        have KS6 := Aside0.mk (KS.out.set (rd L k).toNat true)
        have KB2 := Aside0.mk (KB.out.setCell (p := ⟨w.heap.size, (rd L k).toNat, none⟩) (Nat.le_refl _) (.bool true))
        have HSET := Aside0.mk (show ∀ j : Nat, (if j = (rd L k).toNat then true else (seenS l i (j : Int) || decide ((j : Int) ∈ L.take k.toNat))) = (seenS l i (j : Int) || decide ((j : Int) ∈ L.take (k + 1).toNat)) from fun j => by
          rw [show (k + 1).toNat = k.toNat + 1 by omega, List.take_add_one, List.getElem?_eq_getElem (by omega), Option.toList_some]
          have e2 : L[k.toNat]'(by omega) = rd L k := (rd_getElem k0 c9).symm
          rw [e2]
          by_cases e : j = (rd L k).toNat
          · rw [if_pos e]
            have : (j : Int) ∈ L.take k.toNat ++ [rd L k] := by rw [List.mem_append]; right; rw [List.mem_singleton]; omega
            rw [decide_eq_true this, Bool.or_true]
          · rw [if_neg e]
            congr 1
            refine decide_eq_decide.2 ?_
            rw [List.mem_append, List.mem_singleton]
            exact ⟨fun h => .inl h, fun h => h.elim id fun h => absurd h (by omega)⟩)
        clear hhit hkey hnt
        obtain ⟨p, hp⟩ : ∃ p, rd L k = p := ⟨_, rfl⟩
        rw [hp] at g1 p0 p1 hcl hf HHIT KS6 KB2 HSET
        have HP := Aside0.mk hp
        have zw : IntKind.i64.wrap (k + 1) = k + 1 := by rw [IntKind.wrap_i64]; omega
        have p81 : p < 81 := p1
        clear hp
        by_cases hp0 : 0 < p
        case neg =>
          have d0 : decide (0 < p) = false := decide_eq_false hp0
          go_wp2
          go_roundg (9 - (k.toNat + 1))
          case measure => have := KK.out; omega
          case rel =>
            refine ⟨k + 1, rfl, ⟨by omega⟩, ⟨by omega⟩, ⟨fun j j0 j1 => ?_⟩, ⟨KS6.out.congr fun j hj => HSET.out j⟩, KB2⟩
            by_cases e : j = k
            · rw [e, HP.out, decide_eq_true (by omega : p ≤ 0)]; rfl
            · exact KA.out j j0 (by omega)
        case pos =>
          have d0 : decide (0 < p) = true := decide_eq_true hp0
          by_cases hs : seenS l i p = true
          case pos =>
            rw [hs] at hcl
            have E := Aside0.mk (HHIT.out (by rw [hs, decide_eq_false (by omega : ¬ p ≤ 0)]; rfl))
            clear hs
            go_wp2
            go_ret
            exact ⟨by rw [E.out]; rfl, KB.out⟩
          case neg =>
            have hs := Bool.eq_false_iff.2 hs
            rw [hs] at hcl
            have HF := Aside0.mk hs
            clear hs
            go_wp2
            go_roundg (9 - (k.toNat + 1))
            case measure => have := KK.out; omega
            case rel =>
              refine ⟨k + 1, rfl, ⟨by omega⟩, ⟨by omega⟩, ⟨fun j j0 j1 => ?_⟩, ⟨KS6.out.congr fun j hj => HSET.out j⟩, KB2⟩
              by_cases e : j = k
              · rw [e, HP.out, HF.out, Bool.not_false, Bool.or_true]
              · exact KA.out j j0 (by omega)
end Go.Proofs.Ytcbkoecanldlpaa.X
namespace Go.Proofs.Ytcbkoecanldlpaa.P
open Go.RowKit Go.Proofs.YtcbkoecanldlpaaW.PrintWords Go.Proofs.YtcbkoecanldlpaaW.PrintLast
def impl_isSpread.f (l0 : List (List Int)) : Option Bool := some (X.spreadB l0)
theorem impl_isSpread.calls (A0 : Option Addr) (c0 : Nat) (l0 : List (List Int)) (r : Bool) (w : World) (hr0 : Kd.C (Kd.slice 3 (Kd.int .i64)) w A0 l0.length l0) (hc0 : l0.length ≤ c0) (h : impl_isSpread.f l0 = some r) :
    Calls Try.prog 96 #[.slice A0 l0.length c0] w fun e w' => e = .returned (.bool r) ∧ Below w.heap.size w w' := by
  obtain rfl := Option.some.inj h
  exact X.isSpread_calls A0 c0 l0 w hr0
end Go.Proofs.Ytcbkoecanldlpaa.P

namespace Go.Proofs.Ytcbkoecanldlpaa.P
open Go.RowKit Go.Proofs.YtcbkoecanldlpaaW.PrintWords Go.Proofs.YtcbkoecanldlpaaW.PrintLast
set_option linter.unusedVariables false
set_option linter.unusedSimpArgs false

def slices_Equal_int_int.l0 : Nat → List Int → List Int → Int → Int → Option (Bool)
 | 0, _, _, _, _ => none
 | k + 1, x0, x1, x12, x13 => if x13 < x12 then (if 0 ≤ x13 then (if x13 < (x0.length : Int) then (if x13 < (x1.length : Int) then (if (rd x0 x13) = (rd x1 x13) then (slices_Equal_int_int.l0 k x0 x1 x12 (wrap64 (x13 + 1))) else (some false)) else (none)) else (none)) else (none)) else (some true)
def slices_Equal_int_int.f (k : Nat) (l0 : List Int) (l1 : List Int) : Option (Bool) := if (l0.length : Int) = (l1.length : Int) then (slices_Equal_int_int.l0 k l0 l1 (l0.length : Int) 0) else (some false)
set_option maxHeartbeats 8000000 in
set_option maxRecDepth 100000 in
theorem slices_Equal_int_int.calls (k : Nat) (A0 : Option Addr) (c0 : Nat) (l0 : List Int) (A1 : Option Addr) (c1 : Nat) (l1 : List Int) (r : Bool) (w : World) (hr0 : Kd.C (Kd.int .i64) w A0 l0.length l0) (hc0 : l0.length ≤ c0) (hr1 : Kd.C (Kd.int .i64) w A1 l1.length l1) (hc1 : l1.length ≤ c1) (h : slices_Equal_int_int.f k l0 l1 = some r) :
  Calls Try.prog 186 #[.slice A0 l0.length c0, .slice A1 l1.length c1] w fun e w' => e = .returned (.bool r) ∧ Drawn0 w w' := by
 have HR0 := Aside0.mk hr0
 have HC0 := Aside0.mk hc0
 clear hr0 hc0
 have HR1 := Aside0.mk hr1
 have HC1 := Aside0.mk hc1
 clear hr1 hc1
 have H : (if (l0.length : Int) = (l1.length : Int) then (slices_Equal_int_int.l0 k l0 l1 (l0.length : Int) 0) else (some false)) = some r := h
 clear h
 by_cases c3 : (l0.length : Int) = (l1.length : Int)
 ·rw [if_pos c3] at H
  have c3b0 : ((l0.length : Int) == (l1.length : Int)) = true := beq_iff_eq.mpr c3
  have c3b1 : ((l0.length : Int) != (l1.length : Int)) = false := bne_eq_false_iff_eq.mpr c3
  have c3b2 : (l0.length == l1.length) = true := by first | simpa using c3 | (simp at c3 ⊢; omega)
  clear c3
  have H' := Aside0.mk H
  clear H
  go_enter Try.func186, Try.ntmps186
  go_wp2
  repeat (go_quiet (fail); try go_wp2)
  go_loopg [13] k (fun kq v13 w' => ∃ (x13_1 : Int), v13 = .int .i64 x13_1 ∧ Aside0 (slices_Equal_int_int.l0 kq l0 l1 (l0.length : Int) x13_1 = some r) ∧ Aside0 (kq ≤ k) ∧ Drawn0 w w')
  case atStart => exact ⟨(0), (by first | rfl | (simp; done) | (simp [*]; done)), H', ⟨Nat.le_refl _⟩, by repeat (first | exact Drawn0.refl _ | apply Drawn0.step)⟩
  case round =>
   clear H'
   try clear c1
   try clear p2
   try clear c3
   try clear c3b0
   try clear c3b1
   try clear c3b2
   obtain ⟨x13_1, rfl, HA, HK1, ⟨m1, rfl⟩⟩ := hrel
   cases gk with
   | zero => exact absurd HA.out (by simp [slices_Equal_int_int.l0])
   | succ k1 =>
    have H := HA.out
    clear HA
    simp only [slices_Equal_int_int.l0] at H
    by_cases c4 : x13_1 < (l0.length : Int)
    ·rw [if_pos c4] at H
     have c4b0 : decide (x13_1 < (l0.length : Int)) = true := decide_eq_true c4
     clear c4
     by_cases c5 : 0 ≤ x13_1
     ·rw [if_pos c5] at H
      have c5b0 : decide (0 ≤ x13_1) = true := decide_eq_true c5
      clear c5
      by_cases c6 : x13_1 < (l0.length : Int)
      ·rw [if_pos c6] at H
       have c6b0 : decide (x13_1 < (l0.length : Int)) = true := decide_eq_true c6
       clear c6
       by_cases c7 : x13_1 < (l1.length : Int)
       ·rw [if_pos c7] at H
        have c7b0 : decide (x13_1 < (l1.length : Int)) = true := decide_eq_true c7
        clear c7
        by_cases c8 : (rd l0 x13_1) = (rd l1 x13_1)
        ·rw [if_pos c8] at H
         have c8b0 : ((rd l0 x13_1) == (rd l1 x13_1)) = true := beq_iff_eq.mpr c8
         have c8b1 : ((rd l0 x13_1) != (rd l1 x13_1)) = false := bne_eq_false_iff_eq.mpr c8
         clear c8
         have H' := Aside0.mk H
         clear H
         have p1423 : 0 ≤ (x13_1 : Int) := dd_
         have q1423 : x13_1 < (l0.length : Int) := dd_
         obtain ⟨ad1423, e1423, hx1423_0⟩ := Kd.at_int HR0.out x13_1 p1423 q1423
         cases e1423
         replace p1423 := eq_true p1423
         replace q1423 := eq_true q1423
         have p1424 : 0 ≤ (x13_1 : Int) := dd_
         have q1424 : x13_1 < (l1.length : Int) := dd_
         obtain ⟨ad1424, e1424, hx1424_0⟩ := Kd.at_int HR1.out x13_1 p1424 q1424
         cases e1424
         replace p1424 := eq_true p1424
         replace q1424 := eq_true q1424
         go_wp2
         repeat (go_quiet (fail); try go_wp2)
         go_roundg k1
         case measure => have := HK1.out; omega
         case rel => exact ⟨(wrap64 (x13_1 + 1)), (by first | rfl | (simp; done) | (simp [*]; done)), H', ⟨by have := HK1.out; omega⟩, by repeat (first | exact Drawn0.refl _ | apply Drawn0.step)⟩
        ·rw [if_neg c8] at H
         have c8b0 : ((rd l0 x13_1) == (rd l1 x13_1)) = false := beq_eq_false_iff_ne.mpr c8
         have c8b1 : ((rd l0 x13_1) != (rd l1 x13_1)) = true := bne_iff_ne.mpr c8
         obtain rfl := Option.some.inj H
         have p1423 : 0 ≤ (x13_1 : Int) := dd_
         have q1423 : x13_1 < (l0.length : Int) := dd_
         obtain ⟨ad1423, e1423, hx1423_0⟩ := Kd.at_int HR0.out x13_1 p1423 q1423
         cases e1423
         replace p1423 := eq_true p1423
         replace q1423 := eq_true q1423
         have p1424 : 0 ≤ (x13_1 : Int) := dd_
         have q1424 : x13_1 < (l1.length : Int) := dd_
         obtain ⟨ad1424, e1424, hx1424_0⟩ := Kd.at_int HR1.out x13_1 p1424 q1424
         cases e1424
         replace p1424 := eq_true p1424
         replace q1424 := eq_true q1424
         go_wp2
         repeat (go_quiet (fail); try go_wp2)
         go_ret
         exact ⟨by first | rfl | (simp; done) | (simp [*]; done), by repeat (first | exact Drawn0.refl _ | apply Drawn0.step)⟩
       ·rw [if_neg c7] at H
        exact absurd H (by simp)
      ·rw [if_neg c6] at H
       exact absurd H (by simp)
     ·rw [if_neg c5] at H
      exact absurd H (by simp)
    ·rw [if_neg c4] at H
     have c4b0 : decide (x13_1 < (l0.length : Int)) = false := decide_eq_false c4
     clear c4
     obtain rfl := Option.some.inj H
     go_wp2
     repeat (go_quiet (fail); try go_wp2)
     go_ret
     exact ⟨by first | rfl | (simp; done) | (simp [*]; done), by repeat (first | exact Drawn0.refl _ | apply Drawn0.step)⟩
 ·rw [if_neg c3] at H
  have c3b0 : ((l0.length : Int) == (l1.length : Int)) = false := beq_eq_false_iff_ne.mpr c3
  have c3b1 : ((l0.length : Int) != (l1.length : Int)) = true := bne_iff_ne.mpr c3
  have c3b2 : (l0.length == l1.length) = false := by first | simpa using c3 | (simp at c3 ⊢; omega)
  obtain rfl := Option.some.inj H
  go_enter Try.func186, Try.ntmps186
  go_wp2
  repeat (go_quiet (fail); try go_wp2)
  go_ret
  exact ⟨by first | rfl | (simp; done) | (simp [*]; done), by repeat (first | exact Drawn0.refl _ | apply Drawn0.step)⟩
end Go.Proofs.Ytcbkoecanldlpaa.P

set_option linter.unusedVariables false
set_option linter.unusedSimpArgs false
namespace Go.Proofs.Ytcbkoecanldlpaa.X
open Go.RowKit Go.Proofs.YtcbkoecanldlpaaW.PrintWords Go.Proofs.YtcbkoecanldlpaaW.PrintLast Go.Proofs.Ytcbkoecanldlpaa.P

theorem enters2 : Eg 122 := enters_of Try.func122 (by kernel_rfl) rfl
theorem enters3 : Eg 125 := enters_of Try.func125 (by kernel_rfl) rfl
theorem BoxT.alloc {w : World} {A0 : Option Addr} {c0 : Nat} {t : List Int} (hr : Kd.C (Kd.int .i64) w A0 t.length t) : BoxT (w.alloc (.cells #[.slice A0 t.length c0] 23)) w.heap.size A0 c0 t :=
  ⟨World.cell?_alloc_at _ _ _ _ rfl, Kd.C_below hr ((Below.refl _ _).alloc (Nat.le_refl _) _)⟩
def unitB (t : List Int) (a : Int) : Bool := decide (rd t a = 0) && decide (rd t (9 * a) = 0) && decide (rd t (9 + a) = a) && decide (rd t (9 * a + 1) = a)
theorem unitsB_iff {t : List Int} : unitsB t = true ↔ ∀ x : Int, 0 ≤ x → x < 9 → unitB t x = true := allI_int_iff
theorem unitsB_hit {t : List Int} {x : Int} (h0 : 0 ≤ x) (h1 : x < 9) (h : unitB t x = false) : unitsB t = false := by
  cases e : unitsB t with
  | false => rfl
  | true => have := unitsB_iff.1 e x h0 h1; rw [h] at this; exact absurd this (by decide)
theorem solvesB_hit {t : List Int} {c d : Int} (h0 : 0 ≤ d) (h1 : d < c) (h2 : c < 9) (h : gapsB t c d = false) : solvesB t = false := by
  cases e : solvesB t with
  | false => rfl
  | true =>
    have := allI_int (allI_int e c (by omega) (by omega)) d h0 (by omega)
    rw [h, decide_eq_true h1] at this; exact absurd this (by decide)
theorem solvesB_all {t : List Int} (h : ∀ c d : Int, 0 ≤ d → d < c → c < 9 → gapsB t c d = true) : solvesB t = true :=
  allI_int_iff.2 fun c c0 c1 => allI_int_iff.2 fun d d0 d1 => by
    by_cases e : d < c
    · rw [h c d d0 e (by omega)]; simp
    · rw [decide_eq_false e]; rfl
theorem sysB_of {t : List Int} (h : ninesB t 81 = true) : sysB t = (unitsB t && (sharesB t && solvesB t)) := by unfold sysB; rw [h]; rfl
set_option maxRecDepth 100000 in
set_option maxHeartbeats 8000000 in
theorem isSystem_calls (A0 : Option Addr) (c0 : Nat) (t : List Int) (w : World) (hr : Kd.C (Kd.int .i64) w A0 t.length t) :
    Calls Try.prog 61 #[.slice A0 t.length c0] w fun e w' => e = .returned (.bool (sysB t)) ∧ Below w.heap.size w w' := by
  have hmf : ∀ (fn : Fn) (first cap : Array Value) (w : World), (Instr.makeFunc fn first cap).run Try.prog w = .ok (.func fn first cap) w := fun _ _ _ _ => rfl
  have HC0 := Aside0.mk (areNines_calls A0 c0 t 81 (w.alloc (.cells #[.slice A0 t.length c0] 23)) (BoxT.alloc (c0 := c0) hr).read)
  have HX := Aside0.mk (BoxT.alloc (c0 := c0) hr)
  have hB0 := Aside0.mk ((Below.refl w.heap.size w).alloc (Nat.le_refl _) (.cells #[.slice A0 t.length c0] 23))
  by_cases hn : ninesB t 81 = true
  case neg =>
    have hn := Bool.eq_false_iff.2 hn
    have e : sysB t = false := by unfold sysB; rw [hn]; rfl
    rw [e]
    have e2 : (decide ((t.length : Int) = 81) && t.all isN) = false := by
      unfold ninesB at hn
      rw [← hn, show decide ((t.length : Int) = 81) = decide (t.length = 81) from decide_eq_decide.2 (by omega)]
    rw [e2] at HC0
    clear hn e e2 hr HX
    go_enter Try.func61, Try.ntmps61
    go_wp2_with (go_at_call 120; refine HC0.out.mono ?_; rintro e w' ⟨rfl, hb⟩)
    go_ret
    exact ⟨rfl, hB0.out.trans (hb.mono (by simp))⟩
  case pos =>
    have e2 : (decide ((t.length : Int) = 81) && t.all isN) = true := by
      have := hn
      unfold ninesB at this
      rw [← this, show decide ((t.length : Int) = 81) = decide (t.length = 81) from decide_eq_decide.2 (by omega)]
    rw [e2] at HC0
    rw [sysB_of hn]
    have HN := Aside0.mk hn
    obtain ⟨hl, _⟩ := ninesB_iff.1 hn
    have hlen : 81 ≤ t.length := by omega
    clear e2 hr hl hn
    go_enter Try.func61, Try.ntmps61
    go_wp2_with (go_at_call 120; refine HC0.out.mono ?_; rintro e w1 ⟨rfl, hb⟩)
    have HX1 := Aside0.mk (HX.out.below hb)
    have HB1 := Aside0.mk (hB0.out.trans (hb.mono (by simp)))
    clear hb HX hB0 HC0
    go_loopg [9] 9 (fun kq v9 w' => ∃ i : Int, v9 = .int .i64 i ∧ Aside0 (0 ≤ i ∧ i ≤ 9) ∧ Aside0 ((9 : Int) - i ≤ kq) ∧ Aside0 (∀ x : Int, 0 ≤ x → x < i → unitB t x = true) ∧ Aside0 (BoxT w' w.heap.size A0 c0 t) ∧ Aside0 (Below w.heap.size w w'))
    case atStart => exact ⟨0, rfl, ⟨by omega⟩, ⟨by omega⟩, ⟨fun x h0 h1 => by omega⟩, HX1, HB1⟩
    case round =>
      clear HX1 HB1
      obtain ⟨i, rfl, HI, HK, HA, HX, HB⟩ := hrel
      have h0 : 0 ≤ i := HI.out.1
      by_cases c6 : i < 9
      · obtain ⟨ad, e1⟩ := HX.out.some (by omega)
        cases e1
        have hc := HX.out.cell
        have g1 := HX.out.at i h0 (by omega)
        have g2 := HX.out.at (9 * i) (by omega) (by omega)
        have g3 := HX.out.at (9 + i) (by omega) (by omega)
        have g4 := HX.out.at (9 * i + 1) (by omega) (by omega)
        have hu : unitB t i = (decide (rd t i = 0) && decide (rd t (9 * i) = 0) && decide (rd t (9 + i) = i) && decide (rd t (9 * i + 1) = i)) := rfl
        have HU := Aside0.mk hu
        clear hu
        obtain ⟨v1, hv1⟩ : ∃ v, rd t i = v := ⟨_, rfl⟩
        obtain ⟨v2, hv2⟩ : ∃ v, rd t (9 * i) = v := ⟨_, rfl⟩
        obtain ⟨v3, hv3⟩ : ∃ v, rd t (9 + i) = v := ⟨_, rfl⟩
        obtain ⟨v4, hv4⟩ : ∃ v, rd t (9 * i + 1) = v := ⟨_, rfl⟩
        rw [hv1] at g1 HU
        rw [hv2] at g2 HU
        rw [hv3] at g3 HU
        rw [hv4] at g4 HU
        clear hv1 hv2 hv3 hv4
        have fin : ∀ (b : Bool), unitB t i = b → b = false → (unitsB t && (sharesB t && solvesB t)) = false := fun b hb hf => by
          rw [unitsB_hit h0 c6 (hb.trans hf)]; rfl
        have FIN := Aside0.mk fin
        clear fin
        by_cases t1 : v1 = 0
        · have t1a : (v1 == 0) = true := beq_iff_eq.2 t1
          have t1b : (v1 != 0) = false := by rw [bne, t1a]; rfl
          by_cases t2 : v2 = 0
          · have t2a : (v2 == 0) = true := beq_iff_eq.2 t2
            have t2b : (v2 != 0) = false := by rw [bne, t2a]; rfl
            by_cases t3 : v3 = i
            · have t3a : (v3 == i) = true := beq_iff_eq.2 t3
              have t3b : (v3 != i) = false := by rw [bne, t3a]; rfl
              by_cases t4 : v4 = i
              · have t4a : (v4 == i) = true := beq_iff_eq.2 t4
                have t4b : (v4 != i) = false := by rw [bne, t4a]; rfl
                have HP := Aside0.mk (show unitB t i = true by rw [HU.out, decide_eq_true t1, decide_eq_true t2, decide_eq_true t3, decide_eq_true t4]; rfl)
                clear t1 t2 t3 t4
                go_wp2
                go_roundg (9 - (i.toNat + 1))
                case measure => have := HK.out; omega
                case rel =>
                  refine ⟨i + 1, rfl, ⟨by omega⟩, ⟨by omega⟩, ⟨fun x hx0 hx1 => ?_⟩, HX, HB⟩
                  by_cases e : x = i
                  · rw [e]; exact HP.out
                  · exact HA.out x hx0 (by omega)
              · have t4a : (v4 == i) = false := beq_eq_false_iff_ne.2 t4
                have t4b : (v4 != i) = true := by rw [bne, t4a]; rfl
                have HP := Aside0.mk (FIN.out _ HU.out (by rw [decide_eq_false t4, Bool.and_false]))
                clear t1 t2 t3 t4
                go_wp2
                go_ret
                exact ⟨by rw [HP.out]; rfl, HB.out⟩
            · have t3a : (v3 == i) = false := beq_eq_false_iff_ne.2 t3
              have t3b : (v3 != i) = true := by rw [bne, t3a]; rfl
              have HP := Aside0.mk (FIN.out _ HU.out (by rw [decide_eq_false t3, Bool.and_false, Bool.false_and]))
              clear t1 t2 t3
              go_wp2
              go_ret
              exact ⟨by rw [HP.out]; rfl, HB.out⟩
          · have t2a : (v2 == 0) = false := beq_eq_false_iff_ne.2 t2
            have t2b : (v2 != 0) = true := by rw [bne, t2a]; rfl
            have HP := Aside0.mk (FIN.out _ HU.out (by rw [decide_eq_false t2, Bool.and_false, Bool.false_and, Bool.false_and]))
            clear t1 t2
            go_wp2
            go_ret
            exact ⟨by rw [HP.out]; rfl, HB.out⟩
        · have t1a : (v1 == 0) = false := beq_eq_false_iff_ne.2 t1
          have t1b : (v1 != 0) = true := by rw [bne, t1a]; rfl
          have HP := Aside0.mk (FIN.out _ HU.out (by rw [decide_eq_false t1, Bool.false_and, Bool.false_and, Bool.false_and]))
          clear t1
          go_wp2
          go_ret
          exact ⟨by rw [HP.out]; rfl, HB.out⟩
      · have HU := Aside0.mk (unitsB_iff.2 fun x x0 x1 => HA.out x x0 (by have := HI.out; omega))
        clear HA HK HI
        have hp : Fn3 122 #[.pointer (some ⟨w.heap.size, 0, none⟩)] wr (fun a b c => In9 a ∧ In9 b ∧ In9 c) (fun x y z => .bool (decide (rd t (9 * addN x y + z) = addN (rd t (9 * x + z)) (rd t (9 * y + z))))) :=
          fun W x y z hW hd => isSystem1_calls w.heap.size A0 c0 t W (HX.out.below hW) HN.out x y z hd.1 hd.2.1 hd.2.2
        have hcall := forAll_calls 122 #[.pointer (some ⟨w.heap.size, 0, none⟩)] enters2 _ wr hp
        clear hp
        have es : all3 (fun x y z => decide (rd t (9 * addN x y + z) = addN (rd t (9 * x + z)) (rd t (9 * y + z)))) = sharesB t := rfl
        rw [es] at hcall
        clear es
        by_cases hs : sharesB t = true
        case neg =>
          have hs := Bool.eq_false_iff.2 hs
          rw [hs] at hcall
          have HS := Aside0.mk hs
          have HC := Aside0.mk hcall
          clear hs hcall
          go_wp2_with (go_at_call 121; refine HC.out.mono ?_; rintro e w2 ⟨rfl, hb2⟩)
          go_ret
          exact ⟨by rw [HU.out, HS.out]; rfl, bstep HB.out hb2⟩
        case pos =>
          rw [hs] at hcall
          have HS := Aside0.mk hs
          have HC := Aside0.mk hcall
          clear hs hcall
          go_wp2_with (go_at_call 121; refine HC.out.mono ?_; rintro e w2 ⟨rfl, hb2⟩)
          have HX2 := Aside0.mk (HX.out.below hb2)
          have HB2 := Aside0.mk (bstep HB.out hb2)
          clear HX HB hb2 HC
          go_loopg [48] 9 (fun kq v9 w' => ∃ c : Int, v9 = .int .i64 c ∧ Aside0 (0 ≤ c ∧ c ≤ 9) ∧ Aside0 ((9 : Int) - c ≤ kq) ∧ Aside0 (∀ x y : Int, 0 ≤ y → y < x → x < c → gapsB t x y = true) ∧ Aside0 (BoxT w' w.heap.size A0 c0 t) ∧ Aside0 (Below w.heap.size w w'))
          case atStart => exact ⟨0, rfl, ⟨by omega⟩, ⟨by omega⟩, ⟨fun x y h0 h1 => by omega⟩, HX2, HB2⟩
          case round =>
            clear HX2 HB2
            obtain ⟨c, rfl, HI, HK, HA, HX, HB⟩ := hrel
            have h0 : 0 ≤ c := HI.out.1
            by_cases c7 : c < 9
            · obtain ⟨wo, hwo⟩ : ∃ wo : World, wr = wo := ⟨_, rfl⟩
              subst hwo
              have HXc := Aside0.mk (HX.out.below ((Below.refl _ _).alloc (Nat.le_refl _) (.cells #[.int .i64 c] 3)))
              have HBc := Aside0.mk (HB.out.alloc HB.out.size (.cells #[.int .i64 c] 3))
              have HCc := Aside0.mk (show (wr.alloc (.cells #[.int .i64 c] 3)).cell? ⟨wr.heap.size, 0, none⟩ = some (.int .i64 c) from World.cell?_alloc_at _ _ _ _ rfl)
              go_wp2
              obtain ⟨cb, hcb⟩ : ∃ cb, wr.heap.size = cb := ⟨_, rfl⟩
              rw [hcb] at HCc ⊢
              clear hcb
              go_loopg [52] 9 (fun kq v9 w' => ∃ d : Int, v9 = .int .i64 d ∧ Aside0 (0 ≤ d ∧ d ≤ c) ∧ Aside0 (c - d ≤ kq) ∧ Aside0 (∀ y : Int, 0 ≤ y → y < d → gapsB t c y = true) ∧ Aside0 (w'.cell? ⟨cb, 0, none⟩ = some (.int .i64 c)) ∧ Aside0 (BoxT w' w.heap.size A0 c0 t) ∧ Aside0 (Below w.heap.size w w'))
              case atStart => exact ⟨0, rfl, ⟨by omega⟩, ⟨by omega⟩, ⟨fun y h0 h1 => by omega⟩, HCc, HXc, HBc⟩
              case round =>
                clear HXc HBc HCc HX HB
                obtain ⟨d, rfl, HI2, HK2, HA2, HC, HX, HB⟩ := hrel
                have h02 : 0 ≤ d := HI2.out.1
                by_cases c8 : d < c
                · have hbel := (Below.refl wr.heap.size wr).alloc (Nat.le_refl _) (.cells #[.int .i64 d] 3)
                  have HXd := Aside0.mk (HX.out.below hbel)
                  have HBd := Aside0.mk (HB.out.alloc HB.out.size (.cells #[.int .i64 d] 3))
                  have hcd : (wr.alloc (.cells #[.int .i64 d] 3)).cell? ⟨cb, 0, none⟩ = some (.int .i64 c) := (hbel.cell (World.block_lt_of_cell? wr _ HC.out)).trans HC.out
                  have hdd : (wr.alloc (.cells #[.int .i64 d] 3)).cell? ⟨wr.heap.size, 0, none⟩ = some (.int .i64 d) := World.cell?_alloc_at _ _ _ _ rfl
                  have hp : Fn1 125 #[.pointer (some ⟨w.heap.size, 0, none⟩), .pointer (some ⟨cb, 0, none⟩), .pointer (some ⟨wr.heap.size, 0, none⟩)] (wr.alloc (.cells #[.int .i64 d] 3)) In9 (fun x => .int .i64 (addN (rd t (9 * x + c)) (minusN (rd t (9 * x + d))))) :=
                    fun W x hW hd => isSystem2_calls w.heap.size cb wr.heap.size A0 c0 t W (HXd.out.below hW) HN.out c d ⟨h0, c7⟩ ⟨h02, by omega⟩ ((hW.cell (World.block_lt_of_cell? _ _ hcd)).trans hcd) ((hW.cell (World.block_lt_of_cell? _ _ hdd)).trans hdd) x hd
                  have hcall := isOnce_calls 125 #[.pointer (some ⟨w.heap.size, 0, none⟩), .pointer (some ⟨cb, 0, none⟩), .pointer (some ⟨wr.heap.size, 0, none⟩)] enters3 _ _ hp (fun x _ => addN_range _ _)
                  have eg : onceB (fun x => addN (rd t (9 * x + c)) (minusN (rd t (9 * x + d)))) = gapsB t c d := rfl
                  rw [eg] at hcall
                  have HCD := Aside0.mk hcd
                  clear hp eg hbel hcd hdd
                  by_cases hg : gapsB t c d = true
                  · rw [hg] at hcall
                    have HG := Aside0.mk hg
                    have HCA := Aside0.mk hcall
                    clear hg hcall
                    go_wp2_with (go_at_call 124; refine HCA.out.mono ?_; rintro e w2 ⟨rfl, hb2⟩)
                    go_roundg ((c - (d + 1)).toNat)
                    case measure => have := HK2.out; omega
                    case rel =>
                      refine ⟨d + 1, rfl, ⟨by omega⟩, ⟨by omega⟩, ⟨fun y y0 y1 => ?_⟩, ⟨(hb2.cell (World.block_lt_of_cell? _ _ HCD.out)).trans HCD.out⟩, ⟨HXd.out.below hb2⟩, ⟨bstep HBd.out hb2⟩⟩
                      by_cases e : y = d
                      · rw [e]; exact HG.out
                      · exact HA2.out y y0 (by omega)
                  · have hg := Bool.eq_false_iff.2 hg
                    rw [hg] at hcall
                    have HG := Aside0.mk hg
                    have HCA := Aside0.mk hcall
                    clear hg hcall
                    go_wp2_with (go_at_call 124; refine HCA.out.mono ?_; rintro e w2 ⟨rfl, hb2⟩)
                    go_ret
                    exact ⟨by rw [HU.out, HS.out, solvesB_hit h02 c8 c7 HG.out]; rfl, bstep HBd.out hb2⟩
                · go_wp2
                  go_roundg (9 - (c.toNat + 1))
                  case measure => have := HK.out; omega
                  case rel =>
                    refine ⟨c + 1, rfl, ⟨by omega⟩, ⟨by omega⟩, ⟨fun x y y0 yx x1 => ?_⟩, HX, HB⟩
                    by_cases e : x = c
                    · subst e; exact HA2.out y y0 (by omega)
                    · exact HA.out x y y0 yx (by omega)
            · go_wp2
              go_ret
              have hsol : solvesB t = true := solvesB_all fun x y y0 yx x9 => HA.out x y y0 yx (by have := HI.out; omega)
              exact ⟨by rw [HU.out, HS.out, hsol]; rfl, HB.out⟩
end Go.Proofs.Ytcbkoecanldlpaa.X
namespace Go.Proofs.Ytcbkoecanldlpaa.P
open Go.RowKit Go.Proofs.YtcbkoecanldlpaaW.PrintWords Go.Proofs.YtcbkoecanldlpaaW.PrintLast
def impl_isSystem.f (l0 : List Int) : Option Bool := some (X.sysB l0)
theorem impl_isSystem.calls (A0 : Option Addr) (c0 : Nat) (l0 : List Int) (r : Bool) (w : World) (hr0 : Kd.C (Kd.int .i64) w A0 l0.length l0) (hc0 : l0.length ≤ c0) (h : impl_isSystem.f l0 = some r) :
    Calls Try.prog 61 #[.slice A0 l0.length c0] w fun e w' => e = .returned (.bool r) ∧ Below w.heap.size w w' := by
  obtain rfl := Option.some.inj h
  exact X.isSystem_calls A0 c0 l0 w hr0
end Go.Proofs.Ytcbkoecanldlpaa.P

set_option linter.unusedVariables false
set_option linter.unusedSimpArgs false
namespace Go.Proofs.Ytcbkoecanldlpaa.X
open Go.RowKit Go.Proofs.YtcbkoecanldlpaaW.PrintWords Go.Proofs.YtcbkoecanldlpaaW.PrintLast Go.Proofs.Ytcbkoecanldlpaa.P

set_option maxRecDepth 100000 in
set_option maxHeartbeats 4000000 in
theorem pointsThat_calls (g : Nat) (lb : Array Value) (eg : Eg g) (p : Int → Bool) (w : World) (hp : Fn1 g lb w (fun x => 0 ≤ x ∧ x < 91) (fun x => .bool (p x))) :
    Calls Try.prog 112 #[.func (.func g) #[] lb] w fun e w' => ∃ v : Value, e = .returned v ∧ Kd.R (Kd.int .i64) 3 w' w.heap.size (fun _ => True) v (filI 91 p) ∧ Below w.heap.size w w' := by
  have HP := Aside0.mk hp
  clear hp
  unfold Eg at eg
  go_enter Try.func112, Try.ntmps112
  go_wp2_with ((with_reducible refine gate_dst (N := 5) rfl ?_); refine Kd.R_lit (Kd.int .i64) _ 3 ?hg (N := 5) ?hd (xs := ([] : List Int)) (inner := []) (ok := fun _ => True) (okp := fun _ => True) ?hr ?hp (fun _ hk => hk) trivial (Below.refl _ _) (Nat.le_refl _) (by simp) ?_; (case hd => rfl); (case hg => rfl); (case hr => first | (go_simp; done) | (go_simp; rfl)); (case hp => exact (Reps.none _ _)); intro v0 w0 ho0 hb0 hg0 hnew0; have HO0 := Aside0.mk ho0; have HB0 := Aside0.mk hb0; clear ho0 hb0 hg0 hnew0)
  go_loopg [3, 6] 91 (fun kq v3 v6 w' => ∃ i : Int, v6 = .int .i64 i ∧ Aside0 (0 ≤ i ∧ i ≤ 91) ∧ Aside0 ((91 : Int) - i ≤ kq) ∧ Aside0 (Kd.R (Kd.int .i64) 3 w' w.heap.size (fun _ => True) v3 (filI i.toNat p)) ∧ Aside0 (Below w.heap.size w w'))
  case atStart => exact ⟨0, rfl, ⟨by omega⟩, ⟨by omega⟩, HO0, HB0⟩
  case round =>
    clear HO0 HB0
    obtain ⟨i, rfl, HI, HK, HO, HB⟩ := hrel
    have h0 : 0 ≤ i := HI.out.1
    by_cases c6 : i < 91
    · have hlen : (filI i.toNat p).length ≤ i.toNat := filI_length_le _ _
      have hcall := HP.out wr i HB.out ⟨h0, c6⟩
      dsimp only at hcall
      have hsucc : filI (i + 1).toNat p = filI i.toNat p ++ (if p i = true then [i] else []) := by
        rw [show (i + 1).toNat = i.toNat + 1 by omega, filI_succ, Int.toNat_of_nonneg h0]
      have HSU := Aside0.mk hsucc
      have HL := Aside0.mk hlen
      clear hlen hsucc
      obtain ⟨xs, hxs⟩ : ∃ xs, filI i.toNat p = xs := ⟨_, rfl⟩
      rw [hxs] at HO HSU HL
      clear hxs
      by_cases hv : p i = true
      · rw [hv] at hcall
        have hz : filI (i + 1).toNat p = xs ++ [i] := by rw [HSU.out, if_pos hv]
        have HZ := Aside0.mk hz
        have HC := Aside0.mk hcall
        clear hcall hz hv
        go_wp2_with fail
        refine HC.out.mono ?_
        rintro e w1 ⟨rfl, hb1⟩
        have HB1 := Aside0.mk (bstep HB.out hb1)
        have HO1 := Aside0.mk (Kd.R_below HO.out hb1)
        clear hb1 HO HB
        go_wp2_with (at_builtin; refine Kd.R_append (Kd.int .i64) (w0 := w) w.heap.size rfl (.tmp 12) (.tmp 14) 23 3 (.int .i64 0) 8 rfl Try.underlying23 info3 rfl (by decide) (by omega) u3 xs i [.int .i64 i] (fun _ => True) (fun _ => False) rfl rfl ?aP (fun _ hk => hk.elim) ?aF ?aO ?aB ?aS ?aL ?_; (case aP => exact rfl); (case aB => exact HB1.out); (case aF => exact (fun _ _ => trivial)); (case aO => exact HO1.out); (case aS => exact HB1.out.size); (case aL => have := HL.out; omega); intro v1 w2 ho hb hg hat; have HO2 := Aside0.mk ho; have HB2 := Aside0.mk hb; clear ho hb hg hat)
        go_roundg (91 - (i.toNat + 1))
        case measure => have := HK.out; omega
        case rel => exact ⟨i + 1, rfl, ⟨by omega⟩, ⟨by omega⟩, ⟨by rw [HZ.out]; exact HO2.out⟩, HB2⟩
      · have hv := Bool.eq_false_iff.2 hv
        rw [hv] at hcall
        have hz : filI (i + 1).toNat p = xs := by rw [HSU.out, if_neg (by rw [hv]; simp), List.append_nil]
        have HZ := Aside0.mk hz
        have HC := Aside0.mk hcall
        clear hcall hz hv
        go_wp2_with (go_at_fn g; refine HC.out.mono ?_; rintro e w1 ⟨rfl, hb1⟩)
        go_roundg (91 - (i.toNat + 1))
        case measure => have := HK.out; omega
        case rel => exact ⟨i + 1, rfl, ⟨by omega⟩, ⟨by omega⟩, ⟨by rw [HZ.out]; exact Kd.R_below HO.out hb1⟩, ⟨bstep HB.out hb1⟩⟩
    · go_wp2
      go_ret
      have hi : i = 91 := by have := HI.out; omega
      subst hi
      exact ⟨_, rfl, HO.out, HB.out⟩
end Go.Proofs.Ytcbkoecanldlpaa.X

namespace Go.Proofs.Ytcbkoecanldlpaa.P
open Go.RowKit Go.Proofs.YtcbkoecanldlpaaW.PrintWords Go.Proofs.YtcbkoecanldlpaaW.PrintLast
set_option linter.unusedVariables false
set_option linter.unusedSimpArgs false

def impl_plane_on.f (l0 : List Int) (a1 : Int) (a2 : Int) : Option (Bool) := if a2 = 90 then (some (decide (a1 ≥ 81))) else (if a2 ≥ 81 then (if a1 = 90 then (some true) else (if a1 < 81 then (some ((wrap64 (Int.tdiv a1 9)) == (wrap64 (a2 - 81)))) else (some false))) else (if a1 ≥ 81 then (some (a1 == (wrap64 (81 + (wrap64 (Int.tdiv a2 9)))))) else (if 0 ≤ (wrap64 ((wrap64 (9 * (wrap64 (Int.tdiv a1 9)))) + (wrap64 (Int.tdiv a2 9)))) then (if (wrap64 ((wrap64 (9 * (wrap64 (Int.tdiv a1 9)))) + (wrap64 (Int.tdiv a2 9)))) < (l0.length : Int) then ((impl_add.f (rd l0 (wrap64 ((wrap64 (9 * (wrap64 (Int.tdiv a1 9)))) + (wrap64 (Int.tdiv a2 9))))) (Int.tmod a2 9)).bind fun t241 => (some ((Int.tmod a1 9) == t241))) else (none)) else (none))))
set_option maxHeartbeats 8000000 in
set_option maxRecDepth 100000 in
theorem impl_plane_on.calls (A0 : Option Addr) (c0 : Nat) (l0 : List Int) (a1 : Int) (a2 : Int) (r : Bool) (w : World) (hr0 : Kd.C (Kd.int .i64) w A0 l0.length l0) (hc0 : l0.length ≤ c0) (h : impl_plane_on.f l0 a1 a2 = some r) :
  Calls Try.prog 75 #[.slice A0 l0.length c0, .int .i64 a1, .int .i64 a2] w fun e w' => e = .returned (.bool r) ∧ Drawn0 w w' := by
 have HR0 := Aside0.mk hr0
 have HC0 := Aside0.mk hc0
 clear hr0 hc0
 have H : (if a2 = 90 then (some (decide (a1 ≥ 81))) else (if a2 ≥ 81 then (if a1 = 90 then (some true) else (if a1 < 81 then (some ((wrap64 (Int.tdiv a1 9)) == (wrap64 (a2 - 81)))) else (some false))) else (if a1 ≥ 81 then (some (a1 == (wrap64 (81 + (wrap64 (Int.tdiv a2 9)))))) else (if 0 ≤ (wrap64 ((wrap64 (9 * (wrap64 (Int.tdiv a1 9)))) + (wrap64 (Int.tdiv a2 9)))) then (if (wrap64 ((wrap64 (9 * (wrap64 (Int.tdiv a1 9)))) + (wrap64 (Int.tdiv a2 9)))) < (l0.length : Int) then ((impl_add.f (rd l0 (wrap64 ((wrap64 (9 * (wrap64 (Int.tdiv a1 9)))) + (wrap64 (Int.tdiv a2 9))))) (Int.tmod a2 9)).bind fun t241 => (some ((Int.tmod a1 9) == t241))) else (none)) else (none))))) = some r := h
 clear h
 by_cases c4 : a2 = 90
 ·rw [if_pos c4] at H
  have c4b0 : (a2 == 90) = true := beq_iff_eq.mpr c4
  have c4b1 : (a2 != 90) = false := bne_eq_false_iff_eq.mpr c4
  clear c4
  obtain rfl := Option.some.inj H
  go_enter Try.func75, Try.ntmps75
  go_wp2
  go_ret
  exact ⟨by first | rfl | (simp; done) | (simp [*]; done), by repeat (first | exact Drawn0.refl _ | apply Drawn0.step)⟩
 ·rw [if_neg c4] at H
  have c4b0 : (a2 == 90) = false := beq_eq_false_iff_ne.mpr c4
  have c4b1 : (a2 != 90) = true := bne_iff_ne.mpr c4
  by_cases c5 : a2 ≥ 81
  ·rw [if_pos c5] at H
   have c5b0 : decide (81 ≤ a2) = true := decide_eq_true c5
   clear c5
   by_cases c6 : a1 = 90
   ·rw [if_pos c6] at H
    have c6b0 : (a1 == 90) = true := beq_iff_eq.mpr c6
    have c6b1 : (a1 != 90) = false := bne_eq_false_iff_eq.mpr c6
    clear c6
    obtain rfl := Option.some.inj H
    go_enter Try.func75, Try.ntmps75
    go_wp2
    go_ret
    exact ⟨by first | rfl | (simp; done) | (simp [*]; done), by repeat (first | exact Drawn0.refl _ | apply Drawn0.step)⟩
   ·rw [if_neg c6] at H
    have c6b0 : (a1 == 90) = false := beq_eq_false_iff_ne.mpr c6
    have c6b1 : (a1 != 90) = true := bne_iff_ne.mpr c6
    by_cases c7 : a1 < 81
    ·rw [if_pos c7] at H
     have c7b0 : decide (a1 < 81) = true := decide_eq_true c7
     clear c7
     obtain rfl := Option.some.inj H
     go_enter Try.func75, Try.ntmps75
     go_wp2
     go_ret
     exact ⟨by first | rfl | (simp; done) | (simp [*]; done), by repeat (first | exact Drawn0.refl _ | apply Drawn0.step)⟩
    ·rw [if_neg c7] at H
     have c7b0 : decide (a1 < 81) = false := decide_eq_false c7
     clear c7
     obtain rfl := Option.some.inj H
     go_enter Try.func75, Try.ntmps75
     go_wp2
     go_ret
     exact ⟨by first | rfl | (simp; done) | (simp [*]; done), by repeat (first | exact Drawn0.refl _ | apply Drawn0.step)⟩
  ·rw [if_neg c5] at H
   have c5b0 : decide (81 ≤ a2) = false := decide_eq_false c5
   clear c5
   by_cases c8 : a1 ≥ 81
   ·rw [if_pos c8] at H
    have c8b0 : decide (81 ≤ a1) = true := decide_eq_true c8
    clear c8
    obtain rfl := Option.some.inj H
    go_enter Try.func75, Try.ntmps75
    go_wp2
    go_ret
    exact ⟨by first | rfl | (simp; done) | (simp [*]; done), by repeat (first | exact Drawn0.refl _ | apply Drawn0.step)⟩
   ·rw [if_neg c8] at H
    have c8b0 : decide (81 ≤ a1) = false := decide_eq_false c8
    clear c8
    obtain ⟨ji9, hji9⟩ : ∃ j_ : Int, (wrap64 ((wrap64 (9 * (wrap64 (Int.tdiv a1 9)))) + (wrap64 (Int.tdiv a2 9)))) = j_ := ⟨_, rfl⟩
    replace H : (if 0 ≤ (ji9) then (if (ji9) < (l0.length : Int) then ((impl_add.f (rd l0 (ji9)) (Int.tmod a2 9)).bind fun t241 => (some ((Int.tmod a1 9) == t241))) else (none)) else (none)) = some r := by first | (rw [hji9] at H; exact H) | (simp only [hji9] at H ⊢; exact H)
    have hji9w : (IntKind.i64.wrap ((wrap64 (9 * (wrap64 (Int.tdiv a1 9)))) + (wrap64 (Int.tdiv a2 9)))) = ji9 := (i64_w _).trans hji9
    by_cases c10 : 0 ≤ (ji9)
    ·rw [if_pos c10] at H
     have c10b0 : decide (0 ≤ (ji9)) = true := decide_eq_true c10
     clear c10
     by_cases c11 : (ji9) < (l0.length : Int)
     ·rw [if_pos c11] at H
      have c11b0 : decide ((ji9) < (l0.length : Int)) = true := decide_eq_true c11
      clear c11
      replace H := Option.bind_eq_some_iff.mp H
      obtain ⟨t241, A120, H⟩ := H
      replace H : (some ((Int.tmod a1 9) == t241)) = some r := H
      have A12 := Aside0.mk A120
      clear A120
      obtain rfl := Option.some.inj H
      have p240 : 0 ≤ ((ji9) : Int) := dd_
      have q240 : (ji9) < (l0.length : Int) := dd_
      obtain ⟨ad240, e240, hx240_0⟩ := Kd.at_int HR0.out (ji9) p240 q240
      cases e240
      replace p240 := eq_true p240
      replace q240 := eq_true q240
      go_enter Try.func75, Try.ntmps75
      go_wp2_with (first | (refine goesL_ (some 49) rfl rfl Try.func123 (by kernel_rfl) rfl #[.int .i64 (rd l0 (ji9)), .int .i64 (Int.tmod a2 9)] rfl (by (try simp only [List.map_toArray, List.map_cons, List.map_nil]); first | done | (simp only [hji9]; rfl) | rfl | (simp only [List.length_drop, List.length_take]; rfl)) ?_; (with_reducible refine (impl_add.calls (rd l0 (ji9)) (Int.tmod a2 9) t241 _ A12.out).mono ?_); rintro e w' ⟨rfl, ⟨nd, rfl⟩⟩; refine ⟨_, rfl, ?_⟩))
      go_ret
      exact ⟨by first | rfl | (simp; done) | (simp only [← hji9] <;> (first | rfl | simp)) | (simp [*]; done), by repeat (first | exact Drawn0.refl _ | apply Drawn0.step)⟩
     ·rw [if_neg c11] at H
      exact absurd H (by simp)
    ·rw [if_neg c10] at H
     exact absurd H (by simp)
end Go.Proofs.Ytcbkoecanldlpaa.P

set_option linter.unusedVariables false
set_option linter.unusedSimpArgs false
namespace Go.Proofs.Ytcbkoecanldlpaa.X
open Go.RowKit Go.Proofs.YtcbkoecanldlpaaW.PrintWords Go.Proofs.YtcbkoecanldlpaaW.PrintLast Go.Proofs.Ytcbkoecanldlpaa.P

theorem plane_on_eq {t : List Int} (hn : ninesB t 81 = true) {p l : Int} (hp : In91 p) (hl : In91 l) : impl_plane_on.f t p l = some (onB t p l) := by
  obtain ⟨p0, p1⟩ := hp
  obtain ⟨l0, l1⟩ := hl
  have hlen := (ninesB_iff.1 hn).1
  unfold impl_plane_on.f onB
  by_cases h90 : l = 90
  · rw [if_pos h90, if_pos h90]
  rw [if_neg h90, if_neg h90]
  by_cases h81 : l ≥ 81
  · rw [if_pos h81, if_pos h81]
    by_cases hp90 : p = 90
    · rw [if_pos hp90, decide_eq_true hp90]; rfl
    · rw [if_neg hp90, decide_eq_false hp90, Bool.false_or]
      by_cases hpn : p < 81
      · rw [if_pos hpn, decide_eq_true hpn, Bool.true_and]
        simp (disch := omega) only [w64, tdiv_nn]
        rfl
      · rw [if_neg hpn, decide_eq_false hpn, Bool.false_and]
  · rw [if_neg h81, if_neg h81]
    by_cases hpf : p ≥ 81
    · rw [if_pos hpf, if_pos hpf]
      simp (disch := omega) only [w64, tdiv_nn]
      rfl
    · rw [if_neg hpf, if_neg hpf]
      have hr := nines_rd hn (i := 9 * (p / 9) + l / 9) (by omega) (by omega)
      have ha := impl_add_eq (rd t (9 * (p / 9) + l / 9)) (l % 9) hr ⟨by omega, by omega⟩
      simp (disch := omega) only [w64, tdiv_nn, tmod_nn]
      rw [if_pos (by omega), if_pos (by omega), ha]
      rfl
theorem on_calls (A0 : Option Addr) (c0 : Nat) (t : List Int) (p l : Int) (w : World) (hr : Kd.C (Kd.int .i64) w A0 t.length t) (hc : t.length ≤ c0) (hn : ninesB t 81 = true) (hp : In91 p) (hl : In91 l) :
    Calls Try.prog 75 #[.slice A0 t.length c0, .int .i64 p, .int .i64 l] w fun e w' => e = .returned (.bool (onB t p l)) ∧ Drawn0 w w' :=
  impl_plane_on.calls A0 c0 t p l _ w hr hc (plane_on_eq hn hp hl)
set_option maxHeartbeats 2000000 in
theorem points1_calls (b bl : Nat) (A0 : Option Addr) (c0 : Nat) (t : List Int) (w : World) (hb : BoxT w b A0 c0 t) (hc0 : t.length ≤ c0) (hn : ninesB t 81 = true) (l : Int) (hl : In91 l) (hlc : w.cell? ⟨bl, 0, none⟩ = some (.int .i64 l)) (p : Int) (hp : In91 p) :
    Calls Try.prog 161 #[.int .i64 p, .pointer (some ⟨b, 0, none⟩), .pointer (some ⟨bl, 0, none⟩)] w fun e w' => e = .returned (.bool (onB t p l)) ∧ Below w.heap.size w w' := by
  have HC := Aside0.mk (on_calls A0 c0 t p l w hb.read hc0 hn hp hl)
  have hcell := hb.cell
  clear hb hn hp hl
  obtain ⟨v, hv⟩ : ∃ v, onB t p l = v := ⟨_, rfl⟩
  rw [hv] at HC ⊢
  clear hv
  go_enter Try.func161, Try.ntmps161
  go_wp2_with (go_at_call 75; refine HC.out.mono ?_; rintro e w' ⟨rfl, ⟨nd, rfl⟩⟩)
  go_ret
  exact ⟨rfl, Drawn0.below ⟨⟨_, rfl⟩⟩⟩
theorem entersPts : Eg 161 := enters_of Try.func161 (by kernel_rfl) rfl
set_option maxHeartbeats 2000000 in
theorem points_calls (A0 : Option Addr) (c0 : Nat) (t : List Int) (l : Int) (w : World) (hr : Kd.C (Kd.int .i64) w A0 t.length t) (hc0 : t.length ≤ c0) (hn : ninesB t 81 = true) (hl : In91 l) :
    Calls Try.prog 116 #[.slice A0 t.length c0, .int .i64 l] w fun e w' => ∃ v : Value, e = .returned v ∧ Kd.R (Kd.int .i64) 3 w' w.heap.size (fun _ => True) v (pointsL t l) ∧ Below w.heap.size w w' := by
  have hmf : ∀ (fn : Fn) (first cap : Array Value) (w : World), (Instr.makeFunc fn first cap).run Try.prog w = .ok (.func fn first cap) w := fun _ _ _ _ => rfl
  have hb0 : Below w.heap.size w ((w.alloc (.cells #[.slice A0 t.length c0] 49)).alloc (.cells #[.int .i64 l] 3)) := ((Below.refl _ _).alloc (Nat.le_refl _) _).alloc (by simp) _
  have ha1 : ((w.alloc (.cells #[.slice A0 t.length c0] 49)).alloc (.cells #[.int .i64 l] 3)).cell? ⟨w.heap.size, 0, none⟩ = some (.slice A0 t.length c0) := by
    rw [World.cell?_alloc_past _ _ _ (by simp)]; exact World.cell?_alloc_at _ _ _ _ rfl
  have hb1 : ((w.alloc (.cells #[.slice A0 t.length c0] 49)).alloc (.cells #[.int .i64 l] 3)).cell? ⟨w.heap.size + 1, 0, none⟩ = some (.int .i64 l) := World.cell?_alloc_at _ _ _ _ (by simp)
  have hbx : BoxT ((w.alloc (.cells #[.slice A0 t.length c0] 49)).alloc (.cells #[.int .i64 l] 3)) w.heap.size A0 c0 t := ⟨ha1, Kd.C_below hr hb0⟩
  have HC := Aside0.mk (pointsThat_calls 161 #[.pointer (some ⟨w.heap.size, 0, none⟩), .pointer (some ⟨w.heap.size + 1, 0, none⟩)] entersPts (fun p => onB t p l) _
    (fun W p hW hd => points1_calls _ _ A0 c0 t W (hbx.below hW) hc0 hn l hl ((hW.cell (World.block_lt_of_cell? _ _ hb1)).trans hb1) p hd))
  have HB := Aside0.mk hb0
  clear hr hn hl hb0 ha1 hb1 hbx
  go_enter Try.func116, Try.ntmps116
  go_wp2_with (go_at_call 112; refine HC.out.mono ?_; rintro e w' ⟨v, rfl, ho, hb⟩; have HO := Aside0.mk ho; have HB2 := Aside0.mk hb; clear ho hb)
  go_ret
  exact ⟨_, rfl, Kd.R_lower HO.out HB.out.size, bstep HB.out HB2.out⟩
end Go.Proofs.Ytcbkoecanldlpaa.X
namespace Go.Proofs.Ytcbkoecanldlpaa.P
open Go.RowKit Go.Proofs.YtcbkoecanldlpaaW.PrintWords Go.Proofs.YtcbkoecanldlpaaW.PrintLast
def impl_plane_points.f (l0 : List Int) (a1 : Int) : Option (List Int) := if X.ninesB l0 81 = true ∧ (0 ≤ a1 ∧ a1 < 91) then some (X.pointsL l0 a1) else none
theorem impl_plane_points.calls (A0 : Option Addr) (c0 : Nat) (l0 : List Int) (a1 : Int) (r : List Int) (w : World) (hr0 : Kd.C (Kd.int .i64) w A0 l0.length l0) (hc0 : l0.length ≤ c0) (h : impl_plane_points.f l0 a1 = some r) :
    Calls Try.prog 116 #[.slice A0 l0.length c0, .int .i64 a1] w fun e w' => ∃ v0_ : Value, e = .returned (v0_) ∧ Kd.R (Kd.int .i64) 3 w' w.heap.size (fun _ => True) v0_ r ∧ Below w.heap.size w w' := by
  unfold impl_plane_points.f at h
  by_cases hn : X.ninesB l0 81 = true ∧ (0 ≤ a1 ∧ a1 < 91)
  · rw [if_pos hn] at h
    obtain rfl := Option.some.inj h
    exact X.points_calls A0 c0 l0 a1 w hr0 hc0 hn.1 hn.2
  · rw [if_neg hn] at h; exact absurd h (by simp)
end Go.Proofs.Ytcbkoecanldlpaa.P

namespace Go.Proofs.Ytcbkoecanldlpaa.P
open Go.RowKit Go.Proofs.YtcbkoecanldlpaaW.PrintWords Go.Proofs.YtcbkoecanldlpaaW.PrintLast
set_option linter.unusedVariables false
set_option linter.unusedSimpArgs false

def impl_isPoint.f (a0 : Int) : Option (Bool) := if a0 ≥ 0 then (some (decide (a0 < 91))) else (some false)
set_option maxHeartbeats 8000000 in
set_option maxRecDepth 100000 in
theorem impl_isPoint.calls (a0 : Int) (r : Bool) (w : World) (h : impl_isPoint.f a0 = some r) :
  Calls Try.prog 73 #[.int .i64 a0] w fun e w' => e = .returned (.bool r) ∧ Drawn0 w w' := by
 have H : (if a0 ≥ 0 then (some (decide (a0 < 91))) else (some false)) = some r := h
 clear h
 by_cases c2 : a0 ≥ 0
 ·rw [if_pos c2] at H
  have c2b0 : decide (0 ≤ a0) = true := decide_eq_true c2
  clear c2
  obtain rfl := Option.some.inj H
  go_enter Try.func73, Try.ntmps73
  go_wp2
  go_ret
  exact ⟨by first | rfl | (simp; done) | (simp [*]; done), by repeat (first | exact Drawn0.refl _ | apply Drawn0.step)⟩
 ·rw [if_neg c2] at H
  have c2b0 : decide (0 ≤ a0) = false := decide_eq_false c2
  clear c2
  obtain rfl := Option.some.inj H
  go_enter Try.func73, Try.ntmps73
  go_wp2
  go_ret
  exact ⟨by first | rfl | (simp; done) | (simp [*]; done), by repeat (first | exact Drawn0.refl _ | apply Drawn0.step)⟩
end Go.Proofs.Ytcbkoecanldlpaa.P

namespace Go.Proofs.Ytcbkoecanldlpaa.P
open Go.RowKit Go.Proofs.YtcbkoecanldlpaaW.PrintWords Go.Proofs.YtcbkoecanldlpaaW.PrintLast
set_option linter.unusedVariables false
set_option linter.unusedSimpArgs false

def impl_plane_join.l0 : Nat → List Int → Int → Int → Int → Option (Int)
 | 0, _, _, _, _ => none
 | k + 1, x0, x1, x2, x8 => if x8 < 91 then ((impl_plane_on.f x0 x1 x8).bind fun t242 => (if t242 = true then ((impl_plane_on.f x0 x2 x8).bind fun t243 => (if t243 = true then (some x8) else (impl_plane_join.l0 k x0 x1 x2 (wrap64 (x8 + 1))))) else (impl_plane_join.l0 k x0 x1 x2 (wrap64 (x8 + 1))))) else (some (-1))
def impl_plane_join.f (k : Nat) (l0 : List Int) (a1 : Int) (a2 : Int) : Option (Int) := impl_plane_join.l0 k l0 a1 a2 0
set_option maxHeartbeats 8000000 in
set_option maxRecDepth 100000 in
theorem impl_plane_join.calls (k : Nat) (A0 : Option Addr) (c0 : Nat) (l0 : List Int) (a1 : Int) (a2 : Int) (r : Int) (w : World) (hr0 : Kd.C (Kd.int .i64) w A0 l0.length l0) (hc0 : l0.length ≤ c0) (h : impl_plane_join.f k l0 a1 a2 = some r) :
  Calls Try.prog 74 #[.slice A0 l0.length c0, .int .i64 a1, .int .i64 a2] w fun e w' => e = .returned (.int .i64 r) ∧ Drawn0 w w' := by
 have HR0 := Aside0.mk hr0
 have HC0 := Aside0.mk hc0
 clear hr0 hc0
 have H : (impl_plane_join.l0 k l0 a1 a2 0) = some r := h
 clear h
 have H' := Aside0.mk H
 clear H
 go_enter Try.func74, Try.ntmps74
 go_wp2
 go_loopg [8] k (fun kq v8 w' => ∃ (x8_1 : Int), v8 = .int .i64 x8_1 ∧ Aside0 (impl_plane_join.l0 kq l0 a1 a2 x8_1 = some r) ∧ Aside0 (kq ≤ k) ∧ Drawn0 w w')
 case atStart => exact ⟨(0), (by first | rfl | (simp; done) | (simp [*]; done)), H', ⟨Nat.le_refl _⟩, by repeat (first | exact Drawn0.refl _ | apply Drawn0.step)⟩
 case round =>
  clear H'
  try clear p2
  obtain ⟨x8_1, rfl, HA, HK1, ⟨m1, rfl⟩⟩ := hrel
  cases gk with
  | zero => exact absurd HA.out (by simp [impl_plane_join.l0])
  | succ k1 =>
   have H := HA.out
   clear HA
   simp only [impl_plane_join.l0] at H
   by_cases c4 : x8_1 < 91
   ·rw [if_pos c4] at H
    have c4b0 : decide (x8_1 < 91) = true := decide_eq_true c4
    clear c4
    replace H := Option.bind_eq_some_iff.mp H
    obtain ⟨t242, A50, H⟩ := H
    replace H : (if t242 = true then ((impl_plane_on.f l0 a2 x8_1).bind fun t243 => (if t243 = true then (some x8_1) else (impl_plane_join.l0 k1 l0 a1 a2 (wrap64 (x8_1 + 1))))) else (impl_plane_join.l0 k1 l0 a1 a2 (wrap64 (x8_1 + 1)))) = some r := H
    have A5 := Aside0.mk A50
    clear A50
    by_cases c6 : t242 = true
    ·subst c6
     have H1 : ((impl_plane_on.f l0 a2 x8_1).bind fun t243 => (if t243 = true then (some x8_1) else (impl_plane_join.l0 k1 l0 a1 a2 (wrap64 (x8_1 + 1))))) = some r := by rw [if_pos rfl] at H; exact H
     clear H
     have H := H1
     clear H1
     replace H := Option.bind_eq_some_iff.mp H
     obtain ⟨t243, A70, H⟩ := H
     replace H : (if t243 = true then (some x8_1) else (impl_plane_join.l0 k1 l0 a1 a2 (wrap64 (x8_1 + 1)))) = some r := H
     have A7 := Aside0.mk A70
     clear A70
     by_cases c8 : t243 = true
     ·subst c8
      have H1 : (some x8_1) = some r := by rw [if_pos rfl] at H; exact H
      clear H
      have H := H1
      clear H1
      obtain rfl := Option.some.inj H
      go_wp2_with (first | (refine goesL_ (some 14) rfl rfl Try.func75 (by kernel_rfl) rfl #[.slice A0 l0.length c0, .int .i64 a1, .int .i64 x8_1] rfl ll_ ?_; (with_reducible refine (impl_plane_on.calls _ _ l0 a1 x8_1 true _ ?side1 ?side2 A5.out).mono ?_); (case side1 => exact ss_ HR0); (case side2 => exact HC0.out); rintro e w' ⟨rfl, ⟨nd, rfl⟩⟩; refine ⟨_, rfl, ?_⟩) | (go_at_call 75; (with_reducible refine (impl_plane_on.calls _ _ l0 a2 x8_1 true _ ?side1 ?side2 A7.out).mono ?_); (case side1 => exact ss_ HR0); (case side2 => exact HC0.out); rintro e w' ⟨rfl, ⟨nd, rfl⟩⟩))
      go_ret
      exact ⟨by first | rfl | (simp; done) | (simp [*]; done), by repeat (first | exact Drawn0.refl _ | apply Drawn0.step)⟩
     ·replace c8 := Bool.eq_false_iff.mpr c8
      subst c8
      have H1 : (impl_plane_join.l0 k1 l0 a1 a2 (wrap64 (x8_1 + 1))) = some r := by rw [if_neg (show ¬ (false = true) by decide)] at H; exact H
      clear H
      have H := H1
      clear H1
      have H' := Aside0.mk H
      clear H
      go_wp2_with (first | (refine goesL_ (some 14) rfl rfl Try.func75 (by kernel_rfl) rfl #[.slice A0 l0.length c0, .int .i64 a1, .int .i64 x8_1] rfl ll_ ?_; (with_reducible refine (impl_plane_on.calls _ _ l0 a1 x8_1 true _ ?side1 ?side2 A5.out).mono ?_); (case side1 => exact ss_ HR0); (case side2 => exact HC0.out); rintro e w' ⟨rfl, ⟨nd, rfl⟩⟩; refine ⟨_, rfl, ?_⟩) | (go_at_call 75; (with_reducible refine (impl_plane_on.calls _ _ l0 a2 x8_1 false _ ?side1 ?side2 A7.out).mono ?_); (case side1 => exact ss_ HR0); (case side2 => exact HC0.out); rintro e w' ⟨rfl, ⟨nd, rfl⟩⟩))
      go_roundg k1
      case measure => have := HK1.out; omega
      case rel => exact ⟨(wrap64 (x8_1 + 1)), (by first | rfl | (simp; done) | (simp [*]; done)), H', ⟨by have := HK1.out; omega⟩, by repeat (first | exact Drawn0.refl _ | apply Drawn0.step)⟩
    ·replace c6 := Bool.eq_false_iff.mpr c6
     subst c6
     have H1 : (impl_plane_join.l0 k1 l0 a1 a2 (wrap64 (x8_1 + 1))) = some r := by rw [if_neg (show ¬ (false = true) by decide)] at H; exact H
     clear H
     have H := H1
     clear H1
     have H' := Aside0.mk H
     clear H
     go_wp2_with (first | (refine goesL_ (some 14) rfl rfl Try.func75 (by kernel_rfl) rfl #[.slice A0 l0.length c0, .int .i64 a1, .int .i64 x8_1] rfl ll_ ?_; (with_reducible refine (impl_plane_on.calls _ _ l0 a1 x8_1 false _ ?side1 ?side2 A5.out).mono ?_); (case side1 => exact ss_ HR0); (case side2 => exact HC0.out); rintro e w' ⟨rfl, ⟨nd, rfl⟩⟩; refine ⟨_, rfl, ?_⟩))
     go_roundg k1
     case measure => have := HK1.out; omega
     case rel => exact ⟨(wrap64 (x8_1 + 1)), (by first | rfl | (simp; done) | (simp [*]; done)), H', ⟨by have := HK1.out; omega⟩, by repeat (first | exact Drawn0.refl _ | apply Drawn0.step)⟩
   ·rw [if_neg c4] at H
    have c4b0 : decide (x8_1 < 91) = false := decide_eq_false c4
    clear c4
    obtain rfl := Option.some.inj H
    go_wp2
    go_ret
    exact ⟨by first | rfl | (simp; done) | (simp [*]; done), by repeat (first | exact Drawn0.refl _ | apply Drawn0.step)⟩
end Go.Proofs.Ytcbkoecanldlpaa.P

namespace Go.Proofs.Ytcbkoecanldlpaa.P
open Go.RowKit Go.Proofs.YtcbkoecanldlpaaW.PrintWords Go.Proofs.YtcbkoecanldlpaaW.PrintLast
set_option linter.unusedVariables false
set_option linter.unusedSimpArgs false

def impl_plane_meet.l0 : Nat → List Int → Int → Int → Int → Option (Int)
 | 0, _, _, _, _ => none
 | k + 1, x0, x1, x2, x8 => if x8 < 91 then ((impl_plane_on.f x0 x8 x1).bind fun t300 => (if t300 = true then ((impl_plane_on.f x0 x8 x2).bind fun t301 => (if t301 = true then (some x8) else (impl_plane_meet.l0 k x0 x1 x2 (wrap64 (x8 + 1))))) else (impl_plane_meet.l0 k x0 x1 x2 (wrap64 (x8 + 1))))) else (some (-1))
def impl_plane_meet.f (k : Nat) (l0 : List Int) (a1 : Int) (a2 : Int) : Option (Int) := impl_plane_meet.l0 k l0 a1 a2 0
set_option maxHeartbeats 8000000 in
set_option maxRecDepth 100000 in
theorem impl_plane_meet.calls (k : Nat) (A0 : Option Addr) (c0 : Nat) (l0 : List Int) (a1 : Int) (a2 : Int) (r : Int) (w : World) (hr0 : Kd.C (Kd.int .i64) w A0 l0.length l0) (hc0 : l0.length ≤ c0) (h : impl_plane_meet.f k l0 a1 a2 = some r) :
  Calls Try.prog 141 #[.slice A0 l0.length c0, .int .i64 a1, .int .i64 a2] w fun e w' => e = .returned (.int .i64 r) ∧ Drawn0 w w' := by
 have HR0 := Aside0.mk hr0
 have HC0 := Aside0.mk hc0
 clear hr0 hc0
 have H : (impl_plane_meet.l0 k l0 a1 a2 0) = some r := h
 clear h
 have H' := Aside0.mk H
 clear H
 go_enter Try.func141, Try.ntmps141
 go_wp2
 go_loopg [8] k (fun kq v8 w' => ∃ (x8_1 : Int), v8 = .int .i64 x8_1 ∧ Aside0 (impl_plane_meet.l0 kq l0 a1 a2 x8_1 = some r) ∧ Aside0 (kq ≤ k) ∧ Drawn0 w w')
 case atStart => exact ⟨(0), (by first | rfl | (simp; done) | (simp [*]; done)), H', ⟨Nat.le_refl _⟩, by repeat (first | exact Drawn0.refl _ | apply Drawn0.step)⟩
 case round =>
  clear H'
  try clear c1
  try clear p2
  obtain ⟨x8_1, rfl, HA, HK1, ⟨m1, rfl⟩⟩ := hrel
  cases gk with
  | zero => exact absurd HA.out (by simp [impl_plane_meet.l0])
  | succ k1 =>
   have H := HA.out
   clear HA
   simp only [impl_plane_meet.l0] at H
   by_cases c4 : x8_1 < 91
   ·rw [if_pos c4] at H
    have c4b0 : decide (x8_1 < 91) = true := decide_eq_true c4
    clear c4
    replace H := Option.bind_eq_some_iff.mp H
    obtain ⟨t300, A50, H⟩ := H
    replace H : (if t300 = true then ((impl_plane_on.f l0 x8_1 a2).bind fun t301 => (if t301 = true then (some x8_1) else (impl_plane_meet.l0 k1 l0 a1 a2 (wrap64 (x8_1 + 1))))) else (impl_plane_meet.l0 k1 l0 a1 a2 (wrap64 (x8_1 + 1)))) = some r := H
    have A5 := Aside0.mk A50
    clear A50
    by_cases c6 : t300 = true
    ·subst c6
     have H1 : ((impl_plane_on.f l0 x8_1 a2).bind fun t301 => (if t301 = true then (some x8_1) else (impl_plane_meet.l0 k1 l0 a1 a2 (wrap64 (x8_1 + 1))))) = some r := by rw [if_pos rfl] at H; exact H
     clear H
     have H := H1
     clear H1
     replace H := Option.bind_eq_some_iff.mp H
     obtain ⟨t301, A70, H⟩ := H
     replace H : (if t301 = true then (some x8_1) else (impl_plane_meet.l0 k1 l0 a1 a2 (wrap64 (x8_1 + 1)))) = some r := H
     have A7 := Aside0.mk A70
     clear A70
     by_cases c8 : t301 = true
     ·subst c8
      have H1 : (some x8_1) = some r := by rw [if_pos rfl] at H; exact H
      clear H
      have H := H1
      clear H1
      obtain rfl := Option.some.inj H
      go_wp2_with (first | (refine goesL_ (some 14) rfl rfl Try.func75 (by kernel_rfl) rfl #[.slice A0 l0.length c0, .int .i64 x8_1, .int .i64 a1] rfl ll_ ?_; (with_reducible refine (impl_plane_on.calls _ _ l0 x8_1 a1 true _ ?side1 ?side2 A5.out).mono ?_); (case side1 => exact ss_ HR0); (case side2 => exact HC0.out); rintro e w' ⟨rfl, ⟨nd, rfl⟩⟩; refine ⟨_, rfl, ?_⟩) | (go_at_call 75; (with_reducible refine (impl_plane_on.calls _ _ l0 x8_1 a2 true _ ?side1 ?side2 A7.out).mono ?_); (case side1 => exact ss_ HR0); (case side2 => exact HC0.out); rintro e w' ⟨rfl, ⟨nd, rfl⟩⟩))
      go_ret
      exact ⟨by first | rfl | (simp; done) | (simp [*]; done), by repeat (first | exact Drawn0.refl _ | apply Drawn0.step)⟩
     ·replace c8 := Bool.eq_false_iff.mpr c8
      subst c8
      have H1 : (impl_plane_meet.l0 k1 l0 a1 a2 (wrap64 (x8_1 + 1))) = some r := by rw [if_neg (show ¬ (false = true) by decide)] at H; exact H
      clear H
      have H := H1
      clear H1
      have H' := Aside0.mk H
      clear H
      go_wp2_with (first | (refine goesL_ (some 14) rfl rfl Try.func75 (by kernel_rfl) rfl #[.slice A0 l0.length c0, .int .i64 x8_1, .int .i64 a1] rfl ll_ ?_; (with_reducible refine (impl_plane_on.calls _ _ l0 x8_1 a1 true _ ?side1 ?side2 A5.out).mono ?_); (case side1 => exact ss_ HR0); (case side2 => exact HC0.out); rintro e w' ⟨rfl, ⟨nd, rfl⟩⟩; refine ⟨_, rfl, ?_⟩) | (go_at_call 75; (with_reducible refine (impl_plane_on.calls _ _ l0 x8_1 a2 false _ ?side1 ?side2 A7.out).mono ?_); (case side1 => exact ss_ HR0); (case side2 => exact HC0.out); rintro e w' ⟨rfl, ⟨nd, rfl⟩⟩))
      go_roundg k1
      case measure => have := HK1.out; omega
      case rel => exact ⟨(wrap64 (x8_1 + 1)), (by first | rfl | (simp; done) | (simp [*]; done)), H', ⟨by have := HK1.out; omega⟩, by repeat (first | exact Drawn0.refl _ | apply Drawn0.step)⟩
    ·replace c6 := Bool.eq_false_iff.mpr c6
     subst c6
     have H1 : (impl_plane_meet.l0 k1 l0 a1 a2 (wrap64 (x8_1 + 1))) = some r := by rw [if_neg (show ¬ (false = true) by decide)] at H; exact H
     clear H
     have H := H1
     clear H1
     have H' := Aside0.mk H
     clear H
     go_wp2_with (first | (refine goesL_ (some 14) rfl rfl Try.func75 (by kernel_rfl) rfl #[.slice A0 l0.length c0, .int .i64 x8_1, .int .i64 a1] rfl ll_ ?_; (with_reducible refine (impl_plane_on.calls _ _ l0 x8_1 a1 false _ ?side1 ?side2 A5.out).mono ?_); (case side1 => exact ss_ HR0); (case side2 => exact HC0.out); rintro e w' ⟨rfl, ⟨nd, rfl⟩⟩; refine ⟨_, rfl, ?_⟩))
     go_roundg k1
     case measure => have := HK1.out; omega
     case rel => exact ⟨(wrap64 (x8_1 + 1)), (by first | rfl | (simp; done) | (simp [*]; done)), H', ⟨by have := HK1.out; omega⟩, by repeat (first | exact Drawn0.refl _ | apply Drawn0.step)⟩
   ·rw [if_neg c4] at H
    have c4b0 : decide (x8_1 < 91) = false := decide_eq_false c4
    clear c4
    obtain rfl := Option.some.inj H
    go_wp2
    go_ret
    exact ⟨by first | rfl | (simp; done) | (simp [*]; done), by repeat (first | exact Drawn0.refl _ | apply Drawn0.step)⟩
end Go.Proofs.Ytcbkoecanldlpaa.P

set_option linter.unusedVariables false
set_option linter.unusedSimpArgs false
namespace Go.Proofs.Ytcbkoecanldlpaa.X
open Go.RowKit Go.Proofs.YtcbkoecanldlpaaW.PrintWords Go.Proofs.YtcbkoecanldlpaaW.PrintLast Go.Proofs.Ytcbkoecanldlpaa.P

theorem isPoint_eq (p : Int) : impl_isPoint.f p = some (ptB p) := by
  unfold impl_isPoint.f ptB
  by_cases h : p ≥ 0
  · rw [if_pos h, decide_eq_true h]; simp
  · rw [if_neg h, decide_eq_false h]; simp
theorem isPoint_calls (p : Int) (w : World) : Calls Try.prog 73 #[.int .i64 p] w fun e w' => e = .returned (.bool (ptB p)) ∧ Drawn0 w w' := impl_isPoint.calls p _ w (isPoint_eq p)
theorem contains_calls (A0 : Option Addr) (c0 : Nat) (l : List Int) (hl : l.length ≤ 1048576) (x : Int) (w : World) (hr : Kd.C (Kd.int .i64) w A0 l.length l) (hc : l.length ≤ c0) :
    Calls Try.prog 90 #[.slice A0 l.length c0, .int .i64 x] w fun e w' => e = .returned (.bool (decide (x ∈ l))) ∧ Drawn0 w w' := by
  obtain ⟨k, hk⟩ := (contains_ev l hl x).rounds
  exact slices_Contains_int_int.calls k A0 c0 l x _ w hr hc hk
theorem take_reads {w : World} {ad : Addr} {l : List Int} (hr : Kd.C (Kd.int .i64) w (some ad) l.length l) (i : Nat) (hi : i ≤ l.length) : Kd.C (Kd.int .i64) w (some ad) (l.take i).length (l.take i) := by
  have hm : l.length ≤ 9223372036854775807 := hr.2.1
  have hlen : (l.take i).length = i := by rw [List.length_take]; omega
  refine Kd.C_of_reads (d := (0 : Int)) (h1 := fun _ => rfl) ⟨rfl, by omega, fun hn => ⟨ad, rfl, fun j hj => ?_⟩⟩
  have := tab_at hr (j : Int) (by omega) (by omega)
  rw [Int.toNat_natCast] at this
  rw [this]
  unfold rd
  rw [List.getD_eq_getElem?_getD, List.getD_eq_getElem?_getD, Int.toNat_natCast, List.getElem?_take_of_lt (by omega)]
set_option maxRecDepth 100000 in
set_option maxHeartbeats 4000000 in
theorem areDifferent_calls (A0 : Option Addr) (c0 : Nat) (l : List Int) (hl : l.length ≤ 1048576) (w : World) (hr : Kd.C (Kd.int .i64) w A0 l.length l) (hc : l.length ≤ c0) :
    Calls Try.prog 126 #[.slice A0 l.length c0] w fun e w' => e = .returned (.bool (diffB l)) ∧ Drawn0 w w' := by
  have HR := Aside0.mk hr
  clear hr
  go_enter Try.func126, Try.ntmps126
  go_wp2
  go_loopg [7] l.length (fun kq v7 w' => ∃ i : Int, v7 = .int .i64 i ∧ Aside0 (0 ≤ i ∧ i ≤ l.length) ∧ Aside0 ((l.length : Int) - i ≤ kq) ∧ Aside0 (∀ j : Int, 0 ≤ j → j < i → newB l j = true) ∧ Aside0 (Drawn0 w w'))
  case atStart => exact ⟨0, rfl, ⟨by omega⟩, ⟨by omega⟩, ⟨fun x h0 h1 => by omega⟩, ⟨Drawn0.refl _⟩⟩
  case round =>
    obtain ⟨i, rfl, HI, HK, HA, HD⟩ := hrel
    have h0 : 0 ≤ i := HI.out.1
    by_cases c6 : i < (l.length : Int)
    · obtain ⟨ad, e1⟩ := tab_some HR.out (by omega)
      cases e1
      have HTw := Kd.C_below HR.out HD.out.below
      have g1 := tab_at HTw i h0 c6
      have hn : newB l i = (ptB (rd l i) && !decide (rd l i ∈ l.take i.toNat)) := rfl
      have P1 := isPoint_calls (rd l i)
      have P2 : ∀ W, Drawn0 wr W → Calls Try.prog 90 #[.slice (some ad) i.toNat c0, .int .i64 (rd l i)] W fun e w' => e = .returned (.bool (decide (rd l i ∈ l.take i.toNat))) ∧ Drawn0 W w' := fun W hW => by
        have hlt : (l.take i.toNat).length = i.toNat := by rw [List.length_take]; omega
        have := contains_calls (some ad) c0 (l.take i.toNat) (by omega) (rd l i) W (take_reads (Kd.C_below HTw hW.below) i.toNat (by omega)) (by omega)
        rwa [hlt] at this
      have hcap : i ≤ (c0 : Int) := by omega
      obtain ⟨x, hx⟩ : ∃ x, rd l i = x := ⟨_, rfl⟩
      rw [hx] at g1 hn P1 P2
      clear hx HTw
      by_cases e1 : ptB x = true
      case neg =>
        have e1 := Bool.eq_false_iff.2 e1
        rw [e1] at P1 hn
        have HP := Aside0.mk P1
        have HF := Aside0.mk (diffB_hit h0 c6 (by rw [hn]; rfl))
        clear P1 P2 hn e1
        go_wp2_with (go_at_call 73; refine (HP.out _).mono ?_; rintro e w' ⟨rfl, ⟨nd, rfl⟩⟩)
        go_ret
        exact ⟨by rw [HF.out]; rfl, HD.out.step _⟩
      case pos =>
        rw [e1] at P1 hn
        have HP := Aside0.mk P1
        by_cases e2 : x ∈ l.take i.toNat
        · rw [decide_eq_true e2] at P2 hn
          have HP2 := Aside0.mk P2
          have HF := Aside0.mk (diffB_hit h0 c6 (by rw [hn]; rfl))
          clear P1 P2 hn e1 e2
          go_wp2_with (first | (go_at_call 73; refine (HP.out _).mono ?_; rintro e w' ⟨rfl, ⟨nd, rfl⟩⟩) | (go_at_call 90; refine (HP2.out _ ⟨⟨_, rfl⟩⟩).mono ?_; rintro e w' ⟨rfl, ⟨nd2, rfl⟩⟩))
          go_ret
          exact ⟨by rw [HF.out]; rfl, HD.out.step _⟩
        · rw [decide_eq_false e2] at P2 hn
          have HP2 := Aside0.mk P2
          have HF := Aside0.mk hn
          clear P1 P2 hn e1 e2
          go_wp2_with (first | (go_at_call 73; refine (HP.out _).mono ?_; rintro e w' ⟨rfl, ⟨nd, rfl⟩⟩) | (go_at_call 90; refine (HP2.out _ ⟨⟨_, rfl⟩⟩).mono ?_; rintro e w' ⟨rfl, ⟨nd2, rfl⟩⟩))
          go_roundg (l.length - (i.toNat + 1))
          case measure => have := HK.out; omega
          case rel =>
            refine ⟨i + 1, rfl, ⟨by omega⟩, ⟨by omega⟩, ⟨fun x hx0 hx1 => ?_⟩, ⟨HD.out.step _⟩⟩
            by_cases e : x = i
            · rw [e]; exact HF.out
            · exact HA.out x hx0 (by omega)
    · go_wp2
      go_ret
      exact ⟨by rw [diffB_all fun j j0 j1 => HA.out j j0 (by have := HI.out; omega)]; rfl, HD.out⟩
end Go.Proofs.Ytcbkoecanldlpaa.X
namespace Go.Proofs.Ytcbkoecanldlpaa.P
open Go.RowKit Go.Proofs.YtcbkoecanldlpaaW.PrintWords Go.Proofs.YtcbkoecanldlpaaW.PrintLast
def impl_areDifferent.f (l0 : List Int) : Option Bool := if l0.length ≤ 1048576 then some (X.diffB l0) else none
theorem impl_areDifferent.calls (A0 : Option Addr) (c0 : Nat) (l0 : List Int) (r : Bool) (w : World) (hr0 : Kd.C (Kd.int .i64) w A0 l0.length l0) (hc0 : l0.length ≤ c0) (h : impl_areDifferent.f l0 = some r) :
    Calls Try.prog 126 #[.slice A0 l0.length c0] w fun e w' => e = .returned (.bool r) ∧ Drawn0 w w' := by
  unfold impl_areDifferent.f at h
  by_cases hn : l0.length ≤ 1048576
  · rw [if_pos hn] at h
    obtain rfl := Option.some.inj h
    exact X.areDifferent_calls A0 c0 l0 hn w hr0 hc0
  · rw [if_neg hn] at h; exact absurd h (by simp)
end Go.Proofs.Ytcbkoecanldlpaa.P
