/- The law FnMoveCentre of the given program: for every input the call returns true, and each argument reads afterwards as it read before. No conditions. (Part 4 of 4; the last part holds the theorem.) -/
import Derived.Test.YtmfijochjkpaaaaMFnMoveCentre0
import Derived.Test.YtmfijochjkpaaaaMFnMoveCentre2
import Derived.Test.YtmfijochjkpaaaaMFnMoveCentre1
import Derived.Test.YtmfijochjkpaaaaWApart
import Derived.Test.YtmfijochjkpaaaaWN
import Derived.Test.YtmfijochjkpaaaaWMore
import Derived.Test.YtmfijochjkpaaaaRows
import Derived.WalkKit
import Derived.ProofKit
import Derived.OpenShut
import Derived.ShutString
import Derived.ChangeOld
import Derived.Below
import Derived.SizedLaws
import Derived.Test.YtmfijochjkpaaaaWSized
namespace Go.Proofs.Ytmfijochjkpaaaa.P
open Go.RowKit Go.Proofs.YtmfijochjkpaaaaW.PrintWords Go.Proofs.YtmfijochjkpaaaaW.PrintLast
set_option linter.unusedVariables false
set_option linter.unusedSimpArgs false

/-! ### laws_FnMoveCentre: function 10 -/
mutual
def laws_FnMoveCentre.j0 : Nat → List Int → List Int → Int → Int → Bool → Option (Bool)
 | 0, _, _, _, _, _ => none
 | k + 1, x3, x4, x5, x6, x32 => if x32 = true then (some (x5 == x6)) else ((impl_PlaneLines.f x3 x5).bind fun bt1089 => (laws_FnMoveCentre.l0 k x3 x4 x5 bt1089.1 bt1089.2 0))
def laws_FnMoveCentre.l0 : Nat → List Int → List Int → Int → List Int → Bool → Int → Option (Bool)
 | 0, _, _, _, _, _, _ => none
 | k + 1, x3, x4, x5, x7, x8, x9 => if x9 < (x7.length : Int) then (if 0 ≤ x9 then ((impl_MoveLine.f k x3 x4 (rd x7 x9)).bind fun bt1094 => (if bt1094.2 = true then (if bt1094.1 = (rd x7 x9) then (laws_FnMoveCentre.l0 k x3 x4 x5 x7 x8 (wrap64 (x9 + 1))) else (some false)) else (some false))) else (none)) else (if x8 = true then (if 0 ≤ x5 then (if x5 < (x4.length : Int) then (some ((rd x4 x5) == x5)) else (none)) else (none)) else (some false))
end
def laws_FnMoveCentre.f (k : Nat) (l0 : List Int) : Option (Bool) := if (l0.length : Int) > 1048576 then (some true) else ((spec_DrawMoveCentre.f k l0).bind fun bt1081 => ((impl_MoveCentre.f bt1081.1 bt1081.2).bind fun t1087 => ((spec_MoveCentre.f k bt1081.1 bt1081.2).bind fun t1088 => (if t1087 = t1088 then (laws_FnMoveCentre.j0 k bt1081.1 bt1081.2 t1087 t1088 (decide (t1087 < 0))) else (laws_FnMoveCentre.j0 k bt1081.1 bt1081.2 t1087 t1088 true)))))
set_option maxHeartbeats 8000000 in
set_option maxRecDepth 100000 in
theorem laws_FnMoveCentre.calls (k : Nat) (A0 : Option Addr) (c0 : Nat) (l0 : List Int) (r : Bool) (w : World) (hr0 : Kd.C (Kd.int .u8) w A0 l0.length l0) (hc0 : l0.length ≤ c0) (h : laws_FnMoveCentre.f k l0 = some r) :
  Calls Try.prog 10 #[.slice A0 l0.length c0] w fun e w' => e = .returned (.bool r) ∧ Below w.heap.size w w' := by
 have HR0 := Aside0.mk hr0
 have HC0 := Aside0.mk hc0
 clear hr0 hc0
 have HB := Aside0.mk (Below.refl w.heap.size w)
 have H : (if (l0.length : Int) > 1048576 then (some true) else ((spec_DrawMoveCentre.f k l0).bind fun bt1081 => ((impl_MoveCentre.f bt1081.1 bt1081.2).bind fun t1087 => ((spec_MoveCentre.f k bt1081.1 bt1081.2).bind fun t1088 => (if t1087 = t1088 then (laws_FnMoveCentre.j0 k bt1081.1 bt1081.2 t1087 t1088 (decide (t1087 < 0))) else (laws_FnMoveCentre.j0 k bt1081.1 bt1081.2 t1087 t1088 true)))))) = some r := h
 clear h
 by_cases c2 : (l0.length : Int) > 1048576
 ·rw [if_pos c2] at H
  have c2b0 : decide (1048576 < (l0.length : Int)) = true := decide_eq_true c2
  have c2b1 : decide (1048576 < l0.length) = true := decide_eq_true (by omega)
  clear c2
  obtain rfl := Option.some.inj H
  go_enter Try.func10, Try.ntmps10
  go_wp2
  go_ret
  exact ⟨by first | rfl | (simp [errW_none, errW_some] <;> rfl) | (simp [*, errW_none, errW_some] <;> rfl), by repeat (first | (with_reducible first | exact HB.out | apply below_alloc | apply pw_below_drewN | apply below_drew1) | exact HB.out)⟩
 ·rw [if_neg c2] at H
  have c2b0 : decide (1048576 < (l0.length : Int)) = false := decide_eq_false c2
  have c2b1 : decide (1048576 < l0.length) = false := decide_eq_false (by omega)
  clear c2
  replace H := Option.bind_eq_some_iff.mp H
  obtain ⟨⟨t1081, t1082⟩, A30, H⟩ := H
  replace H : ((impl_MoveCentre.f t1081 t1082).bind fun t1087 => ((spec_MoveCentre.f k t1081 t1082).bind fun t1088 => (if t1087 = t1088 then (laws_FnMoveCentre.j0 k t1081 t1082 t1087 t1088 (decide (t1087 < 0))) else (laws_FnMoveCentre.j0 k t1081 t1082 t1087 t1088 true)))) = some r := H
  have A3 := Aside0.mk A30
  clear A30
  replace H := Option.bind_eq_some_iff.mp H
  obtain ⟨t1087, A40, H⟩ := H
  replace H : ((spec_MoveCentre.f k t1081 t1082).bind fun t1088 => (if t1087 = t1088 then (laws_FnMoveCentre.j0 k t1081 t1082 t1087 t1088 (decide (t1087 < 0))) else (laws_FnMoveCentre.j0 k t1081 t1082 t1087 t1088 true))) = some r := H
  have A4 := Aside0.mk A40
  clear A40
  replace H := Option.bind_eq_some_iff.mp H
  obtain ⟨t1088, A50, H⟩ := H
  replace H : (if t1087 = t1088 then (laws_FnMoveCentre.j0 k t1081 t1082 t1087 t1088 (decide (t1087 < 0))) else (laws_FnMoveCentre.j0 k t1081 t1082 t1087 t1088 true)) = some r := H
  have A5 := Aside0.mk A50
  clear A50
  have HC6 := Aside0.mk H
  clear H
  go_enter Try.func10, Try.ntmps10
  go_upto_region 6 with (first | (refine goesL_ (some 17) rfl rfl Try.func43 (by kernel_rfl) rfl #[.slice A0 l0.length c0] rfl (by (try simp only [List.map_toArray, List.map_cons, List.map_nil]); first | done | rfl | (simp only [List.length_drop, List.length_take]; rfl)) ?_; (with_reducible refine (spec_DrawMoveCentre.calls k _ _ l0 t1081 t1082 _ ?side1 ?side2 A3.out).mono ?_); (case side1 => repeat (first | exact HR0.out | (with_reducible refine Kd.C_alloc ?_ _) | (with_reducible refine Kd.C_drewN ?_ _) | (with_reducible refine Kd.C_drew ?_))); (case side2 => exact HC0.out); rintro e w7 ⟨v1083, v1085, rfl, ho0, ho1, hb⟩; refine ⟨_, rfl, ?_⟩; have n0_ := Aside0.mk (Kd.R_lower ho0 (below_size (by repeat (first | (with_reducible first | exact HB.out | apply below_alloc | apply pw_below_drewN | apply below_drew1) | exact HB.out)))); have n1_ := Aside0.mk (Kd.R_lower ho1 (below_size (by repeat (first | (with_reducible first | exact HB.out | apply below_alloc | apply pw_below_drewN | apply below_drew1) | exact HB.out)))); have n2_ := Aside0.mk (below_step (by repeat (first | (with_reducible first | exact HB.out | apply below_alloc | apply pw_below_drewN | apply below_drew1) | exact HB.out)) hb); clear HB; have HO1084 := n0_; have HO1086 := n1_; have HB := n2_; clear n0_ n1_ n2_; (try clear hb); (try clear hb2); (try clear hk); (try clear hi); (try clear ho0); (try clear ho1); obtain ⟨Ao8, co8, eo8⟩ := Kd.R_slice HO1084.out; subst eo8; obtain ⟨Ao9, co9, eo9⟩ := Kd.R_slice HO1086.out; subst eo9) | (refine goesL_ (some 22) rfl rfl Try.func44 (by kernel_rfl) rfl #[.slice Ao8 t1081.length co8, .slice Ao9 t1082.length co9] rfl (by (try simp only [List.map_toArray, List.map_cons, List.map_nil]); first | done | rfl | (simp only [List.length_drop, List.length_take]; rfl)) ?_; (with_reducible refine (impl_MoveCentre.calls _ _ t1081 _ _ t1082 t1087 _ ?side1 ?side2 ?side3 ?side4 A4.out).mono ?_); (case side1 => repeat (first | exact (Kd.R_reads' HO1084.out).2.2 | (with_reducible refine Kd.C_alloc ?_ _) | (with_reducible refine Kd.C_drewN ?_ _) | (with_reducible refine Kd.C_drew ?_))); (case side2 => exact (Kd.R_reads' HO1084.out).2.1); (case side3 => repeat (first | exact (Kd.R_reads' HO1086.out).2.2 | (with_reducible refine Kd.C_alloc ?_ _) | (with_reducible refine Kd.C_drewN ?_ _) | (with_reducible refine Kd.C_drew ?_))); (case side4 => exact (Kd.R_reads' HO1086.out).2.1); rintro e w10 ⟨rfl, hb⟩; refine ⟨_, rfl, ?_⟩; have n0_ := Aside0.mk (Kd.R_below (by (with_reducible repeat (first | apply Kd.R_alloc | apply Kd.R_drewN | apply Kd.R_drew)); exact HO1084.out) hb); have n1_ := Aside0.mk (Kd.R_below (by (with_reducible repeat (first | apply Kd.R_alloc | apply Kd.R_drewN | apply Kd.R_drew)); exact HO1086.out) hb); have n2_ := Aside0.mk (below_step (by repeat (first | (with_reducible first | exact HB.out | apply below_alloc | apply pw_below_drewN | apply below_drew1) | exact HB.out)) hb); clear HO1084; clear HO1086; clear HB; have HO1084 := n0_; have HO1086 := n1_; have HB := n2_; clear n0_ n1_ n2_; (try clear hb); (try clear hb2); (try clear hk); (try clear hi)) | (refine goesL_ (some 25) rfl rfl Try.func45 (by kernel_rfl) rfl #[.slice Ao8 t1081.length co8, .slice Ao9 t1082.length co9] rfl (by (try simp only [List.map_toArray, List.map_cons, List.map_nil]); first | done | rfl | (simp only [List.length_drop, List.length_take]; rfl)) ?_; (with_reducible refine (spec_MoveCentre.calls k _ _ t1081 _ _ t1082 t1088 _ ?side1 ?side2 ?side3 ?side4 A5.out).mono ?_); (case side1 => repeat (first | exact (Kd.R_reads' HO1084.out).2.2 | (with_reducible refine Kd.C_alloc ?_ _) | (with_reducible refine Kd.C_drewN ?_ _) | (with_reducible refine Kd.C_drew ?_))); (case side2 => exact (Kd.R_reads' HO1084.out).2.1); (case side3 => repeat (first | exact (Kd.R_reads' HO1086.out).2.2 | (with_reducible refine Kd.C_alloc ?_ _) | (with_reducible refine Kd.C_drewN ?_ _) | (with_reducible refine Kd.C_drew ?_))); (case side4 => exact (Kd.R_reads' HO1086.out).2.1); rintro e w11 ⟨rfl, hb⟩; refine ⟨_, rfl, ?_⟩; have n0_ := Aside0.mk (Kd.R_below (by (with_reducible repeat (first | apply Kd.R_alloc | apply Kd.R_drewN | apply Kd.R_drew)); exact HO1084.out) hb); have n1_ := Aside0.mk (Kd.R_below (by (with_reducible repeat (first | apply Kd.R_alloc | apply Kd.R_drewN | apply Kd.R_drew)); exact HO1086.out) hb); have n2_ := Aside0.mk (below_step (by repeat (first | (with_reducible first | exact HB.out | apply below_alloc | apply pw_below_drewN | apply below_drew1) | exact HB.out)) hb); clear HO1084; clear HO1086; clear HB; have HO1084 := n0_; have HO1086 := n1_; have HB := n2_; clear n0_ n1_ n2_; (try clear hb); (try clear hb2); (try clear hk); (try clear hi)))
  (try simp only [Act.put, List.setIfInBounds_toArray, List.set_cons_zero, List.set_cons_succ])
  go_cut [32] (fun v32 wc => ∃ (kq : Nat) (x32_5 : Bool), v32 = .bool x32_5 ∧ Aside0 (laws_FnMoveCentre.j0 kq t1081 t1082 t1087 t1088 x32_5 = some r) ∧ Aside0 (kq ≤ k) ∧ Aside0 (Kd.R (Kd.int .i64) 3 wc w.heap.size (fun k_ => some k_ ≠ ((.slice Ao9 t1082.length co9) : Value).ownBlock) (.slice Ao8 t1081.length co8) t1081) ∧ Aside0 (Kd.R (Kd.int .i64) 3 wc w.heap.size (fun k_ => some k_ ≠ ((.slice Ao8 t1081.length co8) : Value).ownBlock) (.slice Ao9 t1082.length co9) t1082) ∧ Aside0 (Below w.heap.size w wc))
  case first =>
   have H := HC6.out
   clear HC6
   by_cases c12 : t1087 = t1088
   ·rw [if_pos c12] at H
    have c12b0 : (t1087 == t1088) = true := beq_iff_eq.mpr c12
    have c12b1 : (t1087 != t1088) = false := bne_eq_false_iff_eq.mpr c12
    clear c12
    (first | rw [c12b0] | (simp only [i64_w, i32_w]; rw [c12b0]) | skip)
    have H' := Aside0.mk H
    clear H
    go_wp2
    go_meet
    case rel => exact ⟨_, (decide (t1087 < 0)), (by first | rfl | (simp; done) | (simp [*]; done)), H', ⟨by first | omega | exact Nat.le_refl _⟩, ⟨by (with_reducible repeat (first | apply Kd.R_alloc | apply Kd.R_drewN | apply Kd.R_drew)); exact HO1084.out⟩, ⟨by (with_reducible repeat (first | apply Kd.R_alloc | apply Kd.R_drewN | apply Kd.R_drew)); exact HO1086.out⟩, ⟨by repeat (first | (with_reducible first | exact HB.out | apply below_alloc | apply pw_below_drewN | apply below_drew1) | exact HB.out)⟩⟩
   ·rw [if_neg c12] at H
    have c12b0 : (t1087 == t1088) = false := beq_eq_false_iff_ne.mpr c12
    have c12b1 : (t1087 != t1088) = true := bne_iff_ne.mpr c12
    (first | rw [c12b0] | (simp only [i64_w, i32_w]; rw [c12b0]) | skip)
    have H' := Aside0.mk H
    clear H
    go_wp2
    go_meet
    case rel => exact ⟨_, (true), (by first | rfl | (simp; done) | (simp [*]; done)), H', ⟨by first | omega | exact Nat.le_refl _⟩, ⟨by (with_reducible repeat (first | apply Kd.R_alloc | apply Kd.R_drewN | apply Kd.R_drew)); exact HO1084.out⟩, ⟨by (with_reducible repeat (first | apply Kd.R_alloc | apply Kd.R_drewN | apply Kd.R_drew)); exact HO1086.out⟩, ⟨by repeat (first | (with_reducible first | exact HB.out | apply below_alloc | apply pw_below_drewN | apply below_drew1) | exact HB.out)⟩⟩
  case rest =>
   clear HC6
   try clear c1
   try clear c2
   try clear c2b0
   try clear c2b1
   try clear p2
   try clear c4
   try clear c10
   try clear c12
   try clear c12b0
   try clear c12b1
   obtain ⟨kq, x32_5, rfl, HA, HJ5, HO_3, HO_4, HB⟩ := hcut
   cases kq with
   | zero => exact absurd HA.out (by simp [laws_FnMoveCentre.j0])
   | succ kj5 =>
    have H := HA.out
    clear HA
    simp only [laws_FnMoveCentre.j0] at H
    by_cases c13 : x32_5 = true
    ·subst c13
     have H1 : (some (t1087 == t1088)) = some r := by rw [if_pos rfl] at H; exact H
     clear H
     have H := H1
     clear H1
     obtain rfl := Option.some.inj H
     go_wp2
     go_ret
     exact ⟨by first | rfl | (simp [errW_none, errW_some] <;> rfl) | (simp [*, errW_none, errW_some] <;> rfl), by repeat (first | (with_reducible first | exact HB.out | apply below_alloc | apply pw_below_drewN | apply below_drew1) | exact HB.out)⟩
    ·replace c13 := Bool.eq_false_iff.mpr c13
     subst c13
     have H1 : ((impl_PlaneLines.f t1081 t1087).bind fun bt1089 => (laws_FnMoveCentre.l0 kj5 t1081 t1082 t1087 bt1089.1 bt1089.2 0)) = some r := by rw [if_neg (show ¬ (false = true) by decide)] at H; exact H
     clear H
     have H := H1
     clear H1
     replace H := Option.bind_eq_some_iff.mp H
     obtain ⟨⟨t1089, t1090⟩, A140, H⟩ := H
     replace H : (laws_FnMoveCentre.l0 kj5 t1081 t1082 t1087 t1089 t1090 0) = some r := H
     have A14 := Aside0.mk A140
     clear A140
     have H' := Aside0.mk H
     clear H
     go_wp2_with (first | (refine goesL_ (some 39) rfl rfl Try.func46 (by kernel_rfl) rfl #[.slice Ao8 t1081.length co8, .int .i64 t1087] rfl (by (try simp only [List.map_toArray, List.map_cons, List.map_nil]); first | done | rfl | (simp only [List.length_drop, List.length_take]; rfl)) ?_; (with_reducible refine (impl_PlaneLines.calls _ _ t1081 t1087 t1089 t1090 _ ?side1 ?side2 A14.out).mono ?_); (case side1 => repeat (first | exact (Kd.R_reads' HO_3.out).2.2 | (with_reducible refine Kd.C_alloc ?_ _) | (with_reducible refine Kd.C_drewN ?_ _) | (with_reducible refine Kd.C_drew ?_))); (case side2 => exact (Kd.R_reads' HO_3.out).2.1); rintro e w15 ⟨v1091, rfl, ho0, hb⟩; refine ⟨_, rfl, ?_⟩; have n0_ := Aside0.mk (Kd.R_elder' (by (with_reducible repeat (first | apply Kd.R_alloc | apply Kd.R_drewN | apply Kd.R_drew)); exact HO_3.out) (Kd.R_base ho0) hb); have n1_ := Aside0.mk (Kd.R_elder' (by (with_reducible repeat (first | apply Kd.R_alloc | apply Kd.R_drewN | apply Kd.R_drew)); exact HO_4.out) (Kd.R_base ho0) hb); have n2_ := Aside0.mk (Kd.R_lower (Kd.R_new' (Kd.R_new' ho0 (Kd.R_lt (by (with_reducible repeat (first | apply Kd.R_alloc | apply Kd.R_drewN | apply Kd.R_drew)); exact HO_3.out))) (Kd.R_lt (by (with_reducible repeat (first | apply Kd.R_alloc | apply Kd.R_drewN | apply Kd.R_drew)); exact HO_4.out))) (below_size (by repeat (first | (with_reducible first | exact HB.out | apply below_alloc | apply pw_below_drewN | apply below_drew1) | exact HB.out)))); have n3_ := Aside0.mk (below_step (by repeat (first | (with_reducible first | exact HB.out | apply below_alloc | apply pw_below_drewN | apply below_drew1) | exact HB.out)) hb); clear HO_3; clear HO_4; clear HB; have HO_3 := n0_; have HO_4 := n1_; have HO1092 := n2_; have HB := n3_; clear n0_ n1_ n2_ n3_; (try clear hb); (try clear hb2); (try clear hk); (try clear hi); (try clear ho0)))
     go_loopg [9] kj5 (fun kq v9 w' => ∃ (x9_2 : Int), v9 = .int .i64 x9_2 ∧ Aside0 (laws_FnMoveCentre.l0 kq t1081 t1082 t1087 t1089 t1090 x9_2 = some r) ∧ Aside0 (kq ≤ kj5) ∧ Aside0 (Kd.R (Kd.int .i64) 3 w' w.heap.size (fun k_ => some k_ ≠ ((.slice Ao9 t1082.length co9) : Value).ownBlock ∧ some k_ ≠ (v1091 : Value).ownBlock) (.slice Ao8 t1081.length co8) t1081) ∧ Aside0 (Kd.R (Kd.int .i64) 3 w' w.heap.size (fun k_ => some k_ ≠ ((.slice Ao8 t1081.length co8) : Value).ownBlock ∧ some k_ ≠ (v1091 : Value).ownBlock) (.slice Ao9 t1082.length co9) t1082) ∧ Aside0 (Kd.R (Kd.int .i64) 3 w' w.heap.size (fun k_ => some k_ ≠ ((.slice Ao8 t1081.length co8) : Value).ownBlock ∧ some k_ ≠ ((.slice Ao9 t1082.length co9) : Value).ownBlock) v1091 t1089) ∧ Aside0 (Below w.heap.size w w'))
     case atStart => exact ⟨(0), (by first | rfl | (simp; done) | (simp [*]; done)), H', ⟨Nat.le_refl _⟩, ⟨by (with_reducible repeat (first | apply Kd.R_alloc | apply Kd.R_drewN | apply Kd.R_drew)); exact HO_3.out⟩, ⟨by (with_reducible repeat (first | apply Kd.R_alloc | apply Kd.R_drewN | apply Kd.R_drew)); exact HO_4.out⟩, ⟨by (with_reducible repeat (first | apply Kd.R_alloc | apply Kd.R_drewN | apply Kd.R_drew)); exact Kd.R_mono HO1092.out (fun _ hk => ⟨hk.1.2, hk.2⟩)⟩, ⟨by repeat (first | (with_reducible first | exact HB.out | apply below_alloc | apply pw_below_drewN | apply below_drew1) | exact HB.out)⟩⟩
     case round =>
      clear H'
      try clear c1
      try clear c2
      try clear c2b0
      try clear c2b1
      try clear p2
      try clear c4
      try clear c10
      try clear c12
      try clear c12b0
      try clear c12b1
      try clear c13
      try clear p2
      obtain ⟨x9_2, rfl, HA, HK2, HO_3, HO_4, HO_7, HB⟩ := hrel
      cases gk with
      | zero => exact absurd HA.out (by simp [laws_FnMoveCentre.l0])
      | succ k2 =>
       have H := HA.out
       clear HA
       simp only [laws_FnMoveCentre.l0] at H
       by_cases c16 : x9_2 < (t1089.length : Int)
       ·rw [if_pos c16] at H
        have c16b0 : decide (x9_2 < (t1089.length : Int)) = true := decide_eq_true c16
        clear c16
        by_cases c17 : 0 ≤ x9_2
        ·rw [if_pos c17] at H
         have c17b0 : decide (0 ≤ x9_2) = true := decide_eq_true c17
         clear c17
         replace H := Option.bind_eq_some_iff.mp H
         obtain ⟨⟨t1094, t1095⟩, A180, H⟩ := H
         replace H : (if t1095 = true then (if t1094 = (rd t1089 x9_2) then (laws_FnMoveCentre.l0 k2 t1081 t1082 t1087 t1089 t1090 (wrap64 (x9_2 + 1))) else (some false)) else (some false)) = some r := H
         have A18 := Aside0.mk A180
         clear A180
         by_cases c19 : t1095 = true
         ·subst c19
          have H1 : (if t1094 = (rd t1089 x9_2) then (laws_FnMoveCentre.l0 k2 t1081 t1082 t1087 t1089 t1090 (wrap64 (x9_2 + 1))) else (some false)) = some r := by rw [if_pos rfl] at H; exact H
          clear H
          have H := H1
          clear H1
          by_cases c20 : t1094 = (rd t1089 x9_2)
          ·rw [if_pos c20] at H
           have c20b0 : (t1094 == (rd t1089 x9_2)) = true := beq_iff_eq.mpr c20
           have c20b1 : (t1094 != (rd t1089 x9_2)) = false := bne_eq_false_iff_eq.mpr c20
           clear c20
           have H' := Aside0.mk H
           clear H
           obtain ⟨Ao21, co21, eo21⟩ := Kd.R_slice HO_7.out
           subst eo21
           have p1093 : 0 ≤ (x9_2 : Int) := of_decide_eq_true (by first | (with_reducible assumption) | assumption)
           have q1093 : x9_2 < (t1089.length : Int) := of_decide_eq_true (by first | (with_reducible assumption) | assumption)
           obtain ⟨ad1093, e1093, hx1093_0⟩ := Kd.at_int (Kd.R_reads' HO_7.out).2.2 x9_2 p1093 q1093
           cases e1093
           replace p1093 := eq_true p1093
           replace q1093 := eq_true q1093
           go_wp2_with (first | (refine goesL_ (some 55) rfl rfl Try.func19 (by kernel_rfl) rfl #[.slice Ao8 t1081.length co8, .slice Ao9 t1082.length co9, .int .i64 (rd t1089 x9_2)] rfl (by (try simp only [List.map_toArray, List.map_cons, List.map_nil]); first | done | rfl | (simp only [List.length_drop, List.length_take]; rfl)) ?_; (with_reducible refine (impl_MoveLine.calls k2 _ _ t1081 _ _ t1082 (rd t1089 x9_2) t1094 true _ ?side1 ?side2 ?side3 ?side4 A18.out).mono ?_); (case side1 => repeat (first | exact (Kd.R_reads' HO_3.out).2.2 | (with_reducible refine Kd.C_alloc ?_ _) | (with_reducible refine Kd.C_drewN ?_ _) | (with_reducible refine Kd.C_drew ?_))); (case side2 => exact (Kd.R_reads' HO_3.out).2.1); (case side3 => repeat (first | exact (Kd.R_reads' HO_4.out).2.2 | (with_reducible refine Kd.C_alloc ?_ _) | (with_reducible refine Kd.C_drewN ?_ _) | (with_reducible refine Kd.C_drew ?_))); (case side4 => exact (Kd.R_reads' HO_4.out).2.1); rintro e w22 ⟨rfl, hb⟩; refine ⟨_, rfl, ?_⟩; have n0_ := Aside0.mk (Kd.R_below (by (with_reducible repeat (first | apply Kd.R_alloc | apply Kd.R_drewN | apply Kd.R_drew)); exact HO_3.out) hb); have n1_ := Aside0.mk (Kd.R_below (by (with_reducible repeat (first | apply Kd.R_alloc | apply Kd.R_drewN | apply Kd.R_drew)); exact HO_4.out) hb); have n2_ := Aside0.mk (Kd.R_below (by (with_reducible repeat (first | apply Kd.R_alloc | apply Kd.R_drewN | apply Kd.R_drew)); exact HO_7.out) hb); have n3_ := Aside0.mk (below_step (by repeat (first | (with_reducible first | exact HB.out | apply below_alloc | apply pw_below_drewN | apply below_drew1) | exact HB.out)) hb); clear HO_3; clear HO_4; clear HO_7; clear HB; have HO_3 := n0_; have HO_4 := n1_; have HO_7 := n2_; have HB := n3_; clear n0_ n1_ n2_ n3_; (try clear hb); (try clear hb2); (try clear hk); (try clear hi); have p1096 : 0 ≤ (x9_2 : Int) := of_decide_eq_true (by first | (with_reducible assumption) | assumption); have q1096 : x9_2 < (t1089.length : Int) := of_decide_eq_true (by first | (with_reducible assumption) | assumption); obtain ⟨ad1096, e1096, hx1096_0⟩ := Kd.at_int (Kd.R_reads' HO_7.out).2.2 x9_2 p1096 q1096; obtain rfl : ad1093 = ad1096 := (by injection e1096); replace p1096 := eq_true p1096; replace q1096 := eq_true q1096))
           go_roundg k2
           case measure => have := HJ5.out; have := HK2.out; omega
           case rel => exact ⟨(wrap64 (x9_2 + 1)), (by first | rfl | (simp; done) | (simp [*]; done)), H', ⟨by have := HJ5.out; have := HK2.out; omega⟩, ⟨by (with_reducible repeat (first | apply Kd.R_alloc | apply Kd.R_drewN | apply Kd.R_drew)); exact HO_3.out⟩, ⟨by (with_reducible repeat (first | apply Kd.R_alloc | apply Kd.R_drewN | apply Kd.R_drew)); exact HO_4.out⟩, ⟨by (with_reducible repeat (first | apply Kd.R_alloc | apply Kd.R_drewN | apply Kd.R_drew)); exact HO_7.out⟩, ⟨by repeat (first | (with_reducible first | exact HB.out | apply below_alloc | apply pw_below_drewN | apply below_drew1) | exact HB.out)⟩⟩
          ·rw [if_neg c20] at H
           have c20b0 : (t1094 == (rd t1089 x9_2)) = false := beq_eq_false_iff_ne.mpr c20
           have c20b1 : (t1094 != (rd t1089 x9_2)) = true := bne_iff_ne.mpr c20
           obtain rfl := Option.some.inj H
           obtain ⟨Ao23, co23, eo23⟩ := Kd.R_slice HO_7.out
           subst eo23
           have p1093 : 0 ≤ (x9_2 : Int) := of_decide_eq_true (by first | (with_reducible assumption) | assumption)
           have q1093 : x9_2 < (t1089.length : Int) := of_decide_eq_true (by first | (with_reducible assumption) | assumption)
           obtain ⟨ad1093, e1093, hx1093_0⟩ := Kd.at_int (Kd.R_reads' HO_7.out).2.2 x9_2 p1093 q1093
           cases e1093
           replace p1093 := eq_true p1093
           replace q1093 := eq_true q1093
           go_wp2_with (first | (refine goesL_ (some 55) rfl rfl Try.func19 (by kernel_rfl) rfl #[.slice Ao8 t1081.length co8, .slice Ao9 t1082.length co9, .int .i64 (rd t1089 x9_2)] rfl (by (try simp only [List.map_toArray, List.map_cons, List.map_nil]); first | done | rfl | (simp only [List.length_drop, List.length_take]; rfl)) ?_; (with_reducible refine (impl_MoveLine.calls k2 _ _ t1081 _ _ t1082 (rd t1089 x9_2) t1094 true _ ?side1 ?side2 ?side3 ?side4 A18.out).mono ?_); (case side1 => repeat (first | exact (Kd.R_reads' HO_3.out).2.2 | (with_reducible refine Kd.C_alloc ?_ _) | (with_reducible refine Kd.C_drewN ?_ _) | (with_reducible refine Kd.C_drew ?_))); (case side2 => exact (Kd.R_reads' HO_3.out).2.1); (case side3 => repeat (first | exact (Kd.R_reads' HO_4.out).2.2 | (with_reducible refine Kd.C_alloc ?_ _) | (with_reducible refine Kd.C_drewN ?_ _) | (with_reducible refine Kd.C_drew ?_))); (case side4 => exact (Kd.R_reads' HO_4.out).2.1); rintro e w24 ⟨rfl, hb⟩; refine ⟨_, rfl, ?_⟩; have n0_ := Aside0.mk (Kd.R_below (by (with_reducible repeat (first | apply Kd.R_alloc | apply Kd.R_drewN | apply Kd.R_drew)); exact HO_3.out) hb); have n1_ := Aside0.mk (Kd.R_below (by (with_reducible repeat (first | apply Kd.R_alloc | apply Kd.R_drewN | apply Kd.R_drew)); exact HO_4.out) hb); have n2_ := Aside0.mk (Kd.R_below (by (with_reducible repeat (first | apply Kd.R_alloc | apply Kd.R_drewN | apply Kd.R_drew)); exact HO_7.out) hb); have n3_ := Aside0.mk (below_step (by repeat (first | (with_reducible first | exact HB.out | apply below_alloc | apply pw_below_drewN | apply below_drew1) | exact HB.out)) hb); clear HO_3; clear HO_4; clear HO_7; clear HB; have HO_3 := n0_; have HO_4 := n1_; have HO_7 := n2_; have HB := n3_; clear n0_ n1_ n2_ n3_; (try clear hb); (try clear hb2); (try clear hk); (try clear hi); have p1096 : 0 ≤ (x9_2 : Int) := of_decide_eq_true (by first | (with_reducible assumption) | assumption); have q1096 : x9_2 < (t1089.length : Int) := of_decide_eq_true (by first | (with_reducible assumption) | assumption); obtain ⟨ad1096, e1096, hx1096_0⟩ := Kd.at_int (Kd.R_reads' HO_7.out).2.2 x9_2 p1096 q1096; obtain rfl : ad1093 = ad1096 := (by injection e1096); replace p1096 := eq_true p1096; replace q1096 := eq_true q1096))
           go_ret
           exact ⟨by first | rfl | (simp [errW_none, errW_some] <;> rfl) | (simp [*, errW_none, errW_some] <;> rfl), by repeat (first | (with_reducible first | exact HB.out | apply below_alloc | apply pw_below_drewN | apply below_drew1) | exact HB.out)⟩
         ·replace c19 := Bool.eq_false_iff.mpr c19
          subst c19
          have H1 : (some false) = some r := by rw [if_neg (show ¬ (false = true) by decide)] at H; exact H
          clear H
          have H := H1
          clear H1
          obtain rfl := Option.some.inj H
          obtain ⟨Ao25, co25, eo25⟩ := Kd.R_slice HO_7.out
          subst eo25
          have p1093 : 0 ≤ (x9_2 : Int) := of_decide_eq_true (by first | (with_reducible assumption) | assumption)
          have q1093 : x9_2 < (t1089.length : Int) := of_decide_eq_true (by first | (with_reducible assumption) | assumption)
          obtain ⟨ad1093, e1093, hx1093_0⟩ := Kd.at_int (Kd.R_reads' HO_7.out).2.2 x9_2 p1093 q1093
          cases e1093
          replace p1093 := eq_true p1093
          replace q1093 := eq_true q1093
          go_wp2_with (first | (refine goesL_ (some 55) rfl rfl Try.func19 (by kernel_rfl) rfl #[.slice Ao8 t1081.length co8, .slice Ao9 t1082.length co9, .int .i64 (rd t1089 x9_2)] rfl (by (try simp only [List.map_toArray, List.map_cons, List.map_nil]); first | done | rfl | (simp only [List.length_drop, List.length_take]; rfl)) ?_; (with_reducible refine (impl_MoveLine.calls k2 _ _ t1081 _ _ t1082 (rd t1089 x9_2) t1094 false _ ?side1 ?side2 ?side3 ?side4 A18.out).mono ?_); (case side1 => repeat (first | exact (Kd.R_reads' HO_3.out).2.2 | (with_reducible refine Kd.C_alloc ?_ _) | (with_reducible refine Kd.C_drewN ?_ _) | (with_reducible refine Kd.C_drew ?_))); (case side2 => exact (Kd.R_reads' HO_3.out).2.1); (case side3 => repeat (first | exact (Kd.R_reads' HO_4.out).2.2 | (with_reducible refine Kd.C_alloc ?_ _) | (with_reducible refine Kd.C_drewN ?_ _) | (with_reducible refine Kd.C_drew ?_))); (case side4 => exact (Kd.R_reads' HO_4.out).2.1); rintro e w26 ⟨rfl, hb⟩; refine ⟨_, rfl, ?_⟩; have n0_ := Aside0.mk (Kd.R_below (by (with_reducible repeat (first | apply Kd.R_alloc | apply Kd.R_drewN | apply Kd.R_drew)); exact HO_3.out) hb); have n1_ := Aside0.mk (Kd.R_below (by (with_reducible repeat (first | apply Kd.R_alloc | apply Kd.R_drewN | apply Kd.R_drew)); exact HO_4.out) hb); have n2_ := Aside0.mk (Kd.R_below (by (with_reducible repeat (first | apply Kd.R_alloc | apply Kd.R_drewN | apply Kd.R_drew)); exact HO_7.out) hb); have n3_ := Aside0.mk (below_step (by repeat (first | (with_reducible first | exact HB.out | apply below_alloc | apply pw_below_drewN | apply below_drew1) | exact HB.out)) hb); clear HO_3; clear HO_4; clear HO_7; clear HB; have HO_3 := n0_; have HO_4 := n1_; have HO_7 := n2_; have HB := n3_; clear n0_ n1_ n2_ n3_; (try clear hb); (try clear hb2); (try clear hk); (try clear hi)))
          go_ret
          exact ⟨by first | rfl | (simp [errW_none, errW_some] <;> rfl) | (simp [*, errW_none, errW_some] <;> rfl), by repeat (first | (with_reducible first | exact HB.out | apply below_alloc | apply pw_below_drewN | apply below_drew1) | exact HB.out)⟩
        ·rw [if_neg c17] at H
         exact absurd H (by simp)
       ·rw [if_neg c16] at H
        have c16b0 : decide (x9_2 < (t1089.length : Int)) = false := decide_eq_false c16
        clear c16
        by_cases c27 : t1090 = true
        ·subst c27
         have H1 : (if 0 ≤ t1087 then (if t1087 < (t1082.length : Int) then (some ((rd t1082 t1087) == t1087)) else (none)) else (none)) = some r := by rw [if_pos rfl] at H; exact H
         clear H
         have H := H1
         clear H1
         by_cases c28 : 0 ≤ t1087
         ·rw [if_pos c28] at H
          have c28b0 : decide (0 ≤ t1087) = true := decide_eq_true c28
          clear c28
          by_cases c29 : t1087 < (t1082.length : Int)
          ·rw [if_pos c29] at H
           have c29b0 : decide (t1087 < (t1082.length : Int)) = true := decide_eq_true c29
           clear c29
           obtain rfl := Option.some.inj H
           obtain ⟨Ao30, co30, eo30⟩ := Kd.R_slice HO_7.out
           subst eo30
           have p1097 : 0 ≤ (t1087 : Int) := of_decide_eq_true (by first | (with_reducible assumption) | assumption)
           have q1097 : t1087 < (t1082.length : Int) := of_decide_eq_true (by first | (with_reducible assumption) | assumption)
           obtain ⟨ad1097, e1097, hx1097_0⟩ := Kd.at_int (Kd.R_reads' HO_4.out).2.2 t1087 p1097 q1097
           cases e1097
           replace p1097 := eq_true p1097
           replace q1097 := eq_true q1097
           go_wp2
           go_ret
           exact ⟨by first | rfl | (simp [errW_none, errW_some] <;> rfl) | (simp [*, errW_none, errW_some] <;> rfl), by repeat (first | (with_reducible first | exact HB.out | apply below_alloc | apply pw_below_drewN | apply below_drew1) | exact HB.out)⟩
          ·rw [if_neg c29] at H
           exact absurd H (by simp)
         ·rw [if_neg c28] at H
          exact absurd H (by simp)
        ·replace c27 := Bool.eq_false_iff.mpr c27
         subst c27
         have H1 : (some false) = some r := by rw [if_neg (show ¬ (false = true) by decide)] at H; exact H
         clear H
         have H := H1
         clear H1
         obtain rfl := Option.some.inj H
         obtain ⟨Ao31, co31, eo31⟩ := Kd.R_slice HO_7.out
         subst eo31
         go_wp2
         go_ret
         exact ⟨by first | rfl | (simp [errW_none, errW_some] <;> rfl) | (simp [*, errW_none, errW_some] <;> rfl), by repeat (first | (with_reducible first | exact HB.out | apply below_alloc | apply pw_below_drewN | apply below_drew1) | exact HB.out)⟩

/-- THE ONE PURE STATEMENT of laws_FnMoveCentre: yours. -/
def laws_FnMoveCentre.Pure : Prop := ∀ (l0 : List Int), l0.length ≤ maxLen → l0.length * 1 ≤ 140737488351232 → (∀ x ∈ l0, (Lit.int .u8 x).wf = true) → ∃ k, laws_FnMoveCentre.f k l0 = some true
theorem laws_FnMoveCentre.walk (P : laws_FnMoveCentre.Pure) (a0 : Option Addr) (len0 cap0 : Nat) (z0 : List Int) (w : World) (w0 : (a0 = none ∧ len0 = 0 ∧ cap0 = 0 ∧ z0 = []) ∨ ∃ x, a0 = some x ∧ len0 ≤ cap0 ∧ cap0 ≤ maxLen ∧ z0.length = cap0 ∧ (∀ i, i < z0.length → w.cell? (x.add i) = some (.int .u8 (z0.getD i 0))) ∧ ∀ n ∈ z0, (Lit.int .u8 n).wf = true) (y0 : len0 * 1 ≤ 140737488351232) :
  Calls Try.prog 10 #[.slice a0 len0 cap0] w fun e w' => e = .returned (.bool true) ∧ Below w.heap.size w w' := by
 obtain ⟨l0, rfl, hr0, hm0, hw0, hc0⟩ := ReadsInt.ofRowC w0
 obtain ⟨k, h⟩ := P l0 hm0 y0 hw0
 refine (laws_FnMoveCentre.calls k _ _ l0 true w (Kd.C_of_reads (d := (0 : Int)) (h1 := fun _ => rfl) hr0) hc0 h).mono ?_
 rintro e w' ⟨rfl, hd⟩
 exact ⟨rfl, hd⟩


end Go.Proofs.Ytmfijochjkpaaaa.P

set_option linter.unusedVariables false
set_option linter.unusedSimpArgs false
namespace Go.Proofs.Ytmfijochjkpaaaa.X
open Go.RowKit Go.Proofs.YtmfijochjkpaaaaW.PrintWords Go.Proofs.YtmfijochjkpaaaaW.PrintLast Go.Proofs.Ytmfijochjkpaaaa.P

/-- What a reader reads. -/
def RdS (s : List Int) : Prop := s.length ≤ 2000 ∧ ∀ x ∈ s, 0 ≤ x ∧ x ≤ 255
theorem u8_range {x : Int} (h : (Lit.int .u8 x).wf = true) : 0 ≤ x ∧ x ≤ 255 := by
  simp [Lit.wf, IntKind.min, IntKind.max, IntKind.signed, IntKind.bits] at h
  omega
theorem open_ev (l : List Int) (h : ∀ x ∈ l, (Lit.int .u8 x).wf = true) : ∃ s, RdS s ∧ spec_l6Open.f l = some (s, 0) := by
  unfold spec_l6Open.f
  by_cases hl : (l.length : Int) > 2000
  · rw [if_pos hl, if_pos (by omega)]
    exact ⟨_, ⟨by rw [List.length_take]; omega, fun x hx => u8_range (h x (List.mem_of_mem_take hx))⟩, rfl⟩
  · rw [if_neg hl]
    exact ⟨_, ⟨by omega, fun x hx => u8_range (h x hx)⟩, rfl⟩
theorem xor_nn {a b : Int} (h0 : 0 ≤ a) (h1 : a < 9223372036854775808) (h2 : 0 ≤ b) (h3 : b < 9223372036854775808) : 0 ≤ Go.bits .xor .i64 a b := by
  obtain ⟨x, rfl⟩ := Int.eq_ofNat_of_zero_le h0
  obtain ⟨y, rfl⟩ := Int.eq_ofNat_of_zero_le h2
  have hx : x ^^^ y < 2 ^ 63 := Nat.xor_lt_two_pow (by omega) (by omega)
  have e1 : (BitVec.ofInt 64 (x : Int)).toNat = x := by
    rw [BitVec.ofInt_natCast, BitVec.toNat_ofNat]; exact Nat.mod_eq_of_lt (by omega)
  have e2 : (BitVec.ofInt 64 (y : Int)).toNat = y := by
    rw [BitVec.ofInt_natCast, BitVec.toNat_ofNat]; exact Nat.mod_eq_of_lt (by omega)
  have e : Go.bits .xor .i64 (x : Int) (y : Int) = IntKind.i64.wrap ((BitVec.ofInt 64 (x : Int) ^^^ BitVec.ofInt 64 (y : Int)).toNat : Int) := rfl
  rw [e, BitVec.toNat_xor, e1, e2]
  generalize x ^^^ y = z at hx
  simp [IntKind.wrap, IntKind.bits, IntKind.signed]
  omega
theorem tmod_range {a n : Int} (h : 0 ≤ a) (hn : 1 ≤ n) : 0 ≤ Int.tmod a n ∧ Int.tmod a n < n := by
  rw [tmod_nn h]
  exact ⟨Int.emod_nonneg _ (by omega), Int.emod_lt_of_pos _ (by omega)⟩
theorem rd_byte {s : List Int} (hs : RdS s) {i : Int} (h0 : 0 ≤ i) (h1 : i < s.length) : 0 ≤ rd s i ∧ rd s i ≤ 255 := hs.2 _ (rd_mem h1 h0)
theorem pick_j0 (s : List Int) (hs : RdS s) (p : Int) (h0 : 0 ≤ p) (h1 : p ≤ 1099511627776) (n : Int) (n0 : 1 ≤ n) (n1 : n ≤ 1000000) :
    ∃ v, (0 ≤ v ∧ v < n) ∧ Ev (fun k => spec_l6Rd_pick.j0 k n ((s.length : Int) == 0) s (p + 1)) (v, p + 1) := by
  have hl := hs.1
  by_cases e : s.length = 0
  · refine ⟨0, by omega, ?_⟩
    refine Ev.step (fun k => by rw [spec_l6Rd_pick.j0]) ?_
    refine Ev.pos (by rw [e]; rfl) (Ev.done rfl)
  have ez : wrap64 (p + 1 - 1) = p := by rw [w64 (by omega) (by omega)]; omega
  have er : ∀ i : Int, 0 ≤ i → i < s.length → wrap64 (rd s i) = rd s i := fun i i0 i1 => by
    have := rd_byte hs i0 i1; exact w64 (by omega) (by omega)
  by_cases hp : p < s.length
  · obtain ⟨b0, b1⟩ := rd_byte hs h0 hp
    refine ⟨Int.tmod (rd s p) n, tmod_range b0 n0, ?_⟩
    refine Ev.step (fun k => by rw [spec_l6Rd_pick.j0]) ?_
    rw [ez]
    refine Ev.neg (by simp; intro hh; apply e; simp [hh]) (Ev.pos hp (Ev.pos h0 (Ev.neg (by omega) ?_)))
    rw [er p h0 hp]
    exact Ev.done rfl
  · have hL : (1 : Int) ≤ s.length := by omega
    have ha : 0 ≤ p % (s.length : Int) ∧ p % (s.length : Int) < s.length := ⟨Int.emod_nonneg _ (by omega), Int.emod_lt_of_pos _ (by omega)⟩
    have hb : 0 ≤ (p * 7 + 3) % (s.length : Int) ∧ (p * 7 + 3) % (s.length : Int) < s.length := ⟨Int.emod_nonneg _ (by omega), Int.emod_lt_of_pos _ (by omega)⟩
    have hd : 0 ≤ p / (s.length : Int) ∧ p / (s.length : Int) ≤ p := ⟨Int.ediv_nonneg h0 (by omega), Int.ediv_le_self _ h0⟩
    obtain ⟨a0, a1⟩ := rd_byte hs ha.1 ha.2
    obtain ⟨b0, b1⟩ := rd_byte hs hb.1 hb.2
    have ea := er _ ha.1 ha.2
    have eb := er _ hb.1 hb.2
    have e7 : wrap64 (wrap64 (p * 7) + 3) = p * 7 + 3 := by rw [w64 (x := p * 7) (by omega) (by omega), w64 (by omega) (by omega)]
    have em : Int.tmod p (s.length : Int) = p % (s.length : Int) := tmod_nn h0
    have en : Int.tmod (p * 7 + 3) (s.length : Int) = (p * 7 + 3) % (s.length : Int) := tmod_nn (by omega)
    have ed : Int.tdiv p (s.length : Int) = p / (s.length : Int) := tdiv_nn h0
    generalize hA : rd s (p % (s.length : Int)) = A at *
    generalize hB : rd s ((p * 7 + 3) % (s.length : Int)) = B at *
    generalize hD : p / (s.length : Int) = D at *
    have eX : wrap64 (wrap64 (wrap64 (wrap64 (A * 131) + wrap64 (B * 1117)) + wrap64 (p * 29)) + wrap64 (wrap64 D * 53)) = A * 131 + B * 1117 + p * 29 + D * 53 := by
      rw [w64 (x := A * 131) (by omega) (by omega), w64 (x := B * 1117) (by omega) (by omega), w64 (x := A * 131 + B * 1117) (by omega) (by omega), w64 (x := p * 29) (by omega) (by omega), w64 (x := D) (by omega) (by omega), w64 (x := D * 53) (by omega) (by omega), w64 (x := A * 131 + B * 1117 + p * 29) (by omega) (by omega), w64 (by omega) (by omega)]
    have hX0 : 0 ≤ A * 131 + B * 1117 + p * 29 + D * 53 := by omega
    have hX1 : A * 131 + B * 1117 + p * 29 + D * 53 ≤ 9223372036854775807 := by omega
    generalize A * 131 + B * 1117 + p * 29 + D * 53 = X at *
    have eY : wrap64 (Int.tdiv X 64) = X / 64 := by rw [tdiv_nn hX0]; exact w64 (by omega) (by omega)
    refine ⟨Int.tmod (Go.bits .xor .i64 X (X / 64)) n, tmod_range (xor_nn hX0 (by omega) (by omega) (by omega)) n0, ?_⟩
    refine Ev.step (fun k => by rw [spec_l6Rd_pick.j0]) ?_
    rw [ez]
    refine Ev.neg (by simp; intro hh; apply e; simp [hh]) (Ev.neg hp (Ev.neg (by omega) ?_))
    rw [e7, em, en, ed, hA, hB, ea, eb, eX, eY]
    exact Ev.pos ha.1 (Ev.pos ha.2 (Ev.pos hb.1 (Ev.pos hb.2 (Ev.neg (by omega) (Ev.done rfl)))))
/-- A number from 0 to n - 1, and the reader is one further. -/
theorem pick_ev {s : List Int} (hs : RdS s) {p : Int} (h0 : 0 ≤ p) (h1 : p ≤ 1099511627776) {n : Int} (n0 : 1 ≤ n) (n1 : n ≤ 1000000) :
    ∃ v, (0 ≤ v ∧ v < n) ∧ Ev (fun k => spec_l6Rd_pick.f k s p n) (v, p + 1) := by
  obtain ⟨v, hv, he⟩ := pick_j0 s hs p h0 h1 n n0 n1
  refine ⟨v, hv, ?_⟩
  unfold spec_l6Rd_pick.f
  rw [w64 (by omega) (by omega)]
  exact Ev.neg (by omega) he


/-! ### The five tables -/
def kindL (c : Int) : List Int := (spec_l2Of.f 300 c).getD []
theorem five {P : Int → Prop} (h : ∀ i : Fin 5, P (i.val : Int)) (a : Int) (h0 : 0 ≤ a) (h1 : a < 5) : P a := by
  have := h ⟨a.toNat, by omega⟩
  simpa [Int.toNat_of_nonneg h0] using this
theorem kindL_some : ∀ i : Fin 5, spec_l2Of.f 300 (i.val : Int) = some (kindL (i.val : Int)) := by decide +kernel
theorem kindL_nines : ∀ i : Fin 5, ninesB (kindL (i.val : Int)) 81 = true := by decide +kernel
theorem kind_ev (c : Int) (h0 : 0 ≤ c) (h1 : c < 5) : Ev (fun k => spec_l2Of.f k c) (kindL c) :=
  Ev.of (fun k => spec_l2Of.mono c k) (five (P := fun c => spec_l2Of.f 300 c = some (kindL c)) kindL_some c h0 h1)
theorem kind_nines (c : Int) (h0 : 0 ≤ c) (h1 : c < 5) : ninesB (kindL c) 81 = true := five (P := fun c => ninesB (kindL c) 81 = true) kindL_nines c h0 h1
/-- What is drawn for a system: a kind's table, that with one entry set, or too short. -/
def DrawnT (t : List Int) : Prop := ∃ c : Int, 0 ≤ c ∧ c < 5 ∧ (t = kindL c ∨ (∃ i v : Int, 0 ≤ i ∧ i < 81 ∧ 0 ≤ v ∧ v < 9 ∧ t = (kindL c).set i.toNat v) ∨ t = (kindL c).take 80)
theorem DrawnT.len {t : List Int} (h : DrawnT t) : t.length ≤ 81 := by
  obtain ⟨c, c0, c1, h⟩ := h
  have hl := (ninesB_iff.1 (kind_nines c c0 c1)).1
  rcases h with rfl | ⟨i, v, _, _, _, _, rfl⟩ | rfl
  · omega
  · rw [List.length_set]; omega
  · rw [List.length_take]; omega
theorem system_ev {s : List Int} (hs : RdS s) {p : Int} (h0 : 0 ≤ p) (h1 : p ≤ 1099511000000) : ∃ t q, DrawnT t ∧ (p ≤ q ∧ q ≤ p + 5) ∧ Ev (fun k => spec_l91System.f k s p) (t, q) := by
  obtain ⟨c, hc, ec⟩ := pick_ev hs h0 (by omega) (n := 5) (by omega) (by omega)
  obtain ⟨a, ha, ea⟩ := pick_ev hs (p := p + 1) (by omega) (by omega) (n := 30) (by omega) (by omega)
  obtain ⟨i, hi, ei⟩ := pick_ev hs (p := p + 1 + 1) (by omega) (by omega) (n := 9) (by omega) (by omega)
  obtain ⟨j, hj, ej⟩ := pick_ev hs (p := p + 1 + 1 + 1) (by omega) (by omega) (n := 9) (by omega) (by omega)
  obtain ⟨v, hv, ev⟩ := pick_ev hs (p := p + 1 + 1 + 1 + 1) (by omega) (by omega) (n := 9) (by omega) (by omega)
  have hl := (ninesB_iff.1 (kind_nines c hc.1 hc.2)).1
  have ew : wrap64 (wrap64 (9 * i) + j) = 9 * i + j := by rw [w64 (x := 9 * i) (by omega) (by omega), w64 (by omega) (by omega)]
  by_cases e : a = 0
  · refine ⟨(kindL c).set (9 * i + j).toNat v, p + 1 + 1 + 1 + 1 + 1, ⟨c, hc.1, hc.2, .inr (.inl ⟨9 * i + j, v, by omega, by omega, hv.1, hv.2, rfl⟩)⟩, by omega, ?_⟩
    unfold spec_l91System.f
    refine Ev.bind ec (Ev.bind (kind_ev c hc.1 hc.2) (Ev.bind ea (Ev.pos e (Ev.bind ei (Ev.bind ej (Ev.bind ev ?_))))))
    dsimp only
    rw [ew]
    exact Ev.pos (by omega) (Ev.pos (by omega) (Ev.done rfl))
  by_cases e1 : a = 1
  · refine ⟨(kindL c).take 80, p + 1 + 1, ⟨c, hc.1, hc.2, .inr (.inr rfl)⟩, by omega, ?_⟩
    unfold spec_l91System.f
    refine Ev.bind ec (Ev.bind (kind_ev c hc.1 hc.2) (Ev.bind ea (Ev.neg e (Ev.pos e1 (Ev.pos ?_ (Ev.done rfl))))))
    omega
  · refine ⟨kindL c, p + 1 + 1, ⟨c, hc.1, hc.2, .inl rfl⟩, by omega, ?_⟩
    unfold spec_l91System.f
    exact Ev.bind ec (Ev.bind (kind_ev c hc.1 hc.2) (Ev.bind ea (Ev.neg e (Ev.neg e1 (Ev.done rfl)))))

end Go.Proofs.Ytmfijochjkpaaaa.X

set_option linter.unusedVariables false
set_option linter.unusedSimpArgs false
namespace Go.Proofs.Ytmfijochjkpaaaa.X
open Go.RowKit Go.Proofs.YtmfijochjkpaaaaW.PrintWords Go.Proofs.YtmfijochjkpaaaaW.PrintLast Go.Proofs.Ytmfijochjkpaaaa.P

theorem l5Far_loop (g : Int → Int) (hg : ∀ p : Int, 81 ≤ p → g p = p) (n : Nat) : ∀ (i : Int), 81 ≤ i → i + n = 91 → Ev (fun k => spec_l5Far.l0 k (mapI i.toNat g) i) (mapI 91 g) := by
  induction n with
  | zero =>
    intro i h0 h1
    refine Ev.step (fun k => by rw [spec_l5Far.l0]) ?_
    refine Ev.neg (by omega) (Ev.done ?_)
    rw [show i.toNat = 91 by omega]
  | succ n ih =>
    intro i h0 h1
    have hlen : (mapI i.toNat g).length = i.toNat := mapI_length _ _
    refine Ev.step (fun k => by rw [spec_l5Far.l0]) ?_
    simp (disch := omega) only [w64]
    refine Ev.pos (by omega) (Ev.pos (by omega) ?_)
    have := ih (i + 1) (by omega) (by omega)
    rw [show (i + 1).toNat = i.toNat + 1 by omega, mapI_succ, Int.toNat_of_nonneg (by omega), hg i h0] at this
    exact this
theorem l5Far_ev (g : Int → Int) (hg : ∀ p : Int, 81 ≤ p → g p = p) : Ev (fun k => spec_l5Far.f k (mapI 81 g)) (mapI 91 g) := l5Far_loop g hg 10 81 (by omega) (by omega)

end Go.Proofs.Ytmfijochjkpaaaa.X

set_option linter.unusedVariables false
set_option linter.unusedSimpArgs false
namespace Go.Proofs.Ytmfijochjkpaaaa.X
open Go.RowKit Go.Proofs.YtmfijochjkpaaaaW.PrintWords Go.Proofs.YtmfijochjkpaaaaW.PrintLast Go.Proofs.Ytmfijochjkpaaaa.P

theorem specShift_l0 (a b : Int) (ha : In9 a) (hb : In9 b) (n : Nat) : ∀ (i : Int), 0 ≤ i → i + n = 81 →
    Ev (fun k => spec_MoveShift.l0 k a b (mapI i.toNat fun p => if p < 81 then shiftF a b (p / 9) (p % 9) else p) i) (shiftL a b, true) := by
  induction n with
  | zero =>
    intro i h0 h1
    refine Ev.step (fun k => by rw [spec_MoveShift.l0]) ?_
    refine Ev.neg (by omega) ?_
    rw [show i.toNat = 81 by omega]
    exact Ev.bind (l5Far_ev _ fun p hp => if_neg (by omega)) (Ev.done rfl)
  | succ n ih =>
    intro i h0 h1
    have hlen := mapI_length i.toNat (fun p => if p < 81 then shiftF a b (p / 9) (p % 9) else p)
    have h1a := spec_l1Add_eq (i / 9) a ⟨by omega, by omega⟩ ha
    have h1b := spec_l1Add_eq (i % 9) b ⟨by omega, by omega⟩ hb
    obtain ⟨r0, r1⟩ := addN_range (i / 9) a
    obtain ⟨s0, s1⟩ := addN_range (i % 9) b
    refine Ev.step (fun k => by rw [spec_MoveShift.l0]) ?_
    simp (disch := omega) only [w64, tdiv_nn, tmod_nn, h1a, h1b, Option.bind_some]
    refine Ev.pos (by omega) (Ev.pos (by omega) ?_)
    have := ih (i + 1) (by omega) (by omega)
    rw [show (i + 1).toNat = i.toNat + 1 by omega, mapI_succ, Int.toNat_of_nonneg (by omega), if_pos (by omega)] at this
    exact this
theorem specShift_ev (t : List Int) (hl : t.length ≤ 1048576) (a b : Int) : Ev (fun k => spec_MoveShift.f k t a b) (shiftR t a b) := by
  unfold spec_MoveShift.f shiftR
  refine Ev.fix rfl (Ev.bind (SystemIn_ev t hl) ?_)
  by_cases hs : sysB t = true
  case neg =>
    rw [Bool.eq_false_iff.2 hs]
    refine Ev.neg (by simp) ?_
    refine Ev.step (fun k => by rw [spec_MoveShift.j0]) ?_
    exact Ev.pos rfl (Ev.done rfl)
  refine Ev.pos hs (Ev.fix (l1In_eq a) ?_)
  rw [hs]
  by_cases ha : isN a = true
  case neg =>
    rw [Bool.eq_false_iff.2 ha]
    refine Ev.neg (by simp) ?_
    refine Ev.step (fun k => by rw [spec_MoveShift.j0]) ?_
    exact Ev.pos rfl (Ev.done rfl)
  refine Ev.pos ha (Ev.fix (l1In_eq b) ?_)
  rw [ha]
  by_cases hb : isN b = true
  case neg =>
    rw [Bool.eq_false_iff.2 hb]
    refine Ev.step (fun k => by rw [spec_MoveShift.j0]) ?_
    exact Ev.pos rfl (Ev.done rfl)
  rw [hb]
  refine Ev.step (fun k => by rw [spec_MoveShift.j0]) ?_
  refine Ev.neg (by simp) ?_
  exact specShift_l0 a b (isN_iff.1 ha) (isN_iff.1 hb) 81 0 (by omega) (by omega)
theorem shiftR_length (t : List Int) (a b : Int) : (shiftR t a b).1.length ≤ 1048576 := by
  unfold shiftR
  by_cases hs : (sysB t && (isN a && isN b)) = true
  · rw [if_pos hs]; show (shiftL a b).length ≤ _; unfold shiftL moveL; rw [mapI_length]; omega
  · rw [if_neg hs]; exact Nat.zero_le _

end Go.Proofs.Ytmfijochjkpaaaa.X

set_option linter.unusedVariables false
set_option linter.unusedSimpArgs false
namespace Go.Proofs.Ytmfijochjkpaaaa.X
open Go.RowKit Go.Proofs.YtmfijochjkpaaaaW.PrintWords Go.Proofs.YtmfijochjkpaaaaW.PrintLast Go.Proofs.Ytmfijochjkpaaaa.P

theorem kernelB_hit {t : List Int} {k a b : Int} (ha : In9 a) (hb : In9 b) (h : kerB t k a b = false) : kernelB t k = false :=
  all3_hit ha hb (⟨by omega, by omega⟩ : In9 0) h
theorem kernelB_all {t : List Int} {k : Int} (h : ∀ a b : Int, In9 a → In9 b → kerB t k a b = true) : kernelB t k = true := all3_iff.2 fun a b _ ha hb _ => h a b ha hb
theorem l2Kernel_l1 {t : List Int} (hn : ninesB t 81 = true) {k : Int} (hk : In9 k) (a : Int) (ha : In9 a) (hr : (∀ b : Int, 0 ≤ b → b < 9 → kerB t k a b = true) → Ev (fun n => spec_l2Kernel.l0 n t k (a + 1)) (kernelB t k)) (d : Nat) :
    ∀ b : Int, 0 ≤ b → b + d = 9 → (∀ y : Int, 0 ≤ y → y < b → kerB t k a y = true) → Ev (fun n => spec_l2Kernel.l1 n t k a b) (kernelB t k) := by
  have hl := (ninesB_iff.1 hn).1
  obtain ⟨a0, a1⟩ := ha
  obtain ⟨k0, k1⟩ := hk
  induction d with
  | zero =>
    intro b h0 h1 h
    refine Ev.step (fun n => by rw [spec_l2Kernel.l1]) ?_
    rw [w64 (x := a + 1) (by omega) (by omega)]
    exact Ev.neg (by omega) (hr fun y y0 y1 => h y y0 (by omega))
  | succ d ih =>
    intro b h0 h1 h
    obtain ⟨p10, p11⟩ := nines_rd hn (i := 9 * a + b) (by omega) (by omega)
    obtain ⟨p30, p31⟩ := nines_rd hn (i := 9 * k + a) (by omega) (by omega)
    obtain ⟨p60, p61⟩ := nines_rd hn (i := 9 * k + b) (by omega) (by omega)
    obtain ⟨s0, s1⟩ := addN_range a b
    have e1 := spec_l1Add_eq a b ⟨a0, a1⟩ ⟨h0, by omega⟩
    have e2 := spec_l1Add_eq (rd t (9 * k + a)) (rd t (9 * k + b)) ⟨p30, p31⟩ ⟨p60, p61⟩
    have hker : kerB t k a b = ((rd t (9 * k + rd t (9 * a + b)) == rd t (9 * rd t (9 * k + a) + b)) && (rd t (9 * k + addN a b) == addN (rd t (9 * k + a)) (rd t (9 * k + b)))) := rfl
    have z1 : wrap64 (wrap64 (9 * a) + b) = 9 * a + b := by rw [w64 (x := 9 * a) (by omega) (by omega)]; exact w64 (by omega) (by omega)
    have z2 : wrap64 (wrap64 (9 * k) + rd t (9 * a + b)) = 9 * k + rd t (9 * a + b) := by rw [w64 (x := 9 * k) (by omega) (by omega)]; exact w64 (by omega) (by omega)
    have z3 : wrap64 (wrap64 (9 * k) + a) = 9 * k + a := by rw [w64 (x := 9 * k) (by omega) (by omega)]; exact w64 (by omega) (by omega)
    have z4 : wrap64 (wrap64 (9 * rd t (9 * k + a)) + b) = 9 * rd t (9 * k + a) + b := by rw [w64 (x := 9 * rd t (9 * k + a)) (by omega) (by omega)]; exact w64 (by omega) (by omega)
    have z5 : wrap64 (wrap64 (9 * k) + addN a b) = 9 * k + addN a b := by rw [w64 (x := 9 * k) (by omega) (by omega)]; exact w64 (by omega) (by omega)
    have z6 : wrap64 (wrap64 (9 * k) + b) = 9 * k + b := by rw [w64 (x := 9 * k) (by omega) (by omega)]; exact w64 (by omega) (by omega)
    have z7 : wrap64 (b + 1) = b + 1 := w64 (by omega) (by omega)
    refine Ev.step (fun n => by rw [spec_l2Kernel.l1]) ?_
    simp only [z1, z2, z3, z4, e1, e2, Option.bind_some, z5, z6, z7]
    refine Ev.pos (by omega) (Ev.pos (by omega) (Ev.pos (by omega) (Ev.pos (by omega) (Ev.pos (by omega) (Ev.pos (by omega) (Ev.pos (by omega) (Ev.pos (by omega) (Ev.pos (by omega) ?_))))))))
    by_cases c1 : rd t (9 * k + rd t (9 * a + b)) = rd t (9 * rd t (9 * k + a) + b)
    case neg =>
      refine Ev.neg c1 (Ev.done ?_)
      rw [kernelB_hit (t := t) (k := k) (a := a) (b := b) ⟨a0, a1⟩ ⟨h0, by omega⟩ (by rw [hker, beq_eq_false_iff_ne.2 c1, Bool.false_and])]
    refine Ev.pos c1 (Ev.pos (by omega) (Ev.pos (by omega) (Ev.pos (by omega) (Ev.pos (by omega) ?_))))
    by_cases c2 : rd t (9 * k + addN a b) = addN (rd t (9 * k + a)) (rd t (9 * k + b))
    case neg =>
      refine Ev.neg c2 (Ev.done ?_)
      rw [kernelB_hit (t := t) (k := k) (a := a) (b := b) ⟨a0, a1⟩ ⟨h0, by omega⟩ (by rw [hker, beq_eq_false_iff_ne.2 c2, Bool.and_false])]
    refine Ev.pos c2 (ih (b + 1) (by omega) (by omega) fun y y0 y1 => ?_)
    by_cases e : y = b
    · rw [e, hker, beq_iff_eq.2 c1, beq_iff_eq.2 c2]; rfl
    · exact h y y0 (by omega)
theorem l2Kernel_l0 {t : List Int} (hn : ninesB t 81 = true) {k : Int} (hk : In9 k) (d : Nat) : ∀ a : Int, 0 ≤ a → a + d = 9 → (∀ x y : Int, 0 ≤ x → x < a → 0 ≤ y → y < 9 → kerB t k x y = true) → Ev (fun n => spec_l2Kernel.l0 n t k a) (kernelB t k) := by
  induction d with
  | zero =>
    intro a h0 h1 h
    refine Ev.step (fun n => by rw [spec_l2Kernel.l0]) ?_
    refine Ev.neg (by omega) (Ev.done ?_)
    rw [kernelB_all fun x y hx hy => h x y hx.1 (by have := hx.2; omega) hy.1 hy.2]
  | succ d ih =>
    intro a h0 h1 h
    refine Ev.step (fun n => by rw [spec_l2Kernel.l0]) ?_
    refine Ev.pos (by omega) (l2Kernel_l1 hn hk a ⟨h0, by omega⟩ (fun hb => ih (a + 1) (by omega) (by omega) fun x y x0 x1 y0 y1 => ?_) 9 0 (by omega) (by omega) (fun y y0 y1 => by omega))
    by_cases e : x = a
    · rw [e]; exact hb y y0 y1
    · exact h x y x0 (by omega) y0 y1
theorem l2Kernel_ev {t : List Int} (hn : ninesB t 81 = true) {k : Int} (hk : In9 k) : Ev (fun n => spec_l2Kernel.f n t k) (kernelB t k) :=
  l2Kernel_l0 hn hk 9 0 (by omega) (by omega) (fun x y x0 x1 => by omega)
theorem specStretch_l0 {t : List Int} (hn : ninesB t 81 = true) {m : Int} (hm : In9 m) (n : Nat) : ∀ (i : Int), 0 ≤ i → i + n = 81 →
    Ev (fun k => spec_MoveStretch.l0 k t m (mapI i.toNat fun p => if p < 81 then stretchF t m (p / 9) (p % 9) else p) i) (stretchL t m, true) := by
  have hl := (ninesB_iff.1 hn).1
  obtain ⟨m0, m1⟩ := hm
  induction n with
  | zero =>
    intro i h0 h1
    refine Ev.step (fun k => by rw [spec_MoveStretch.l0]) ?_
    refine Ev.neg (by omega) ?_
    rw [show i.toNat = 81 by omega]
    exact Ev.bind (l5Far_ev _ fun p hp => if_neg (by omega)) (Ev.done rfl)
  | succ n ih =>
    intro i h0 h1
    have hlen := mapI_length i.toNat (fun p => if p < 81 then stretchF t m (p / 9) (p % 9) else p)
    obtain ⟨q10, q11⟩ := nines_rd hn (i := 9 * m + i / 9) (by omega) (by omega)
    obtain ⟨q20, q21⟩ := nines_rd hn (i := 9 * m + i % 9) (by omega) (by omega)
    have d1 : Int.tdiv i 9 = i / 9 := tdiv_nn h0
    have d2 : Int.tmod i 9 = i % 9 := tmod_nn h0
    have z0 : wrap64 (9 * m) = 9 * m := w64 (by omega) (by omega)
    have z1 : wrap64 (i / 9) = i / 9 := w64 (by omega) (by omega)
    have z2 : wrap64 (9 * m + i / 9) = 9 * m + i / 9 := w64 (by omega) (by omega)
    have z3 : wrap64 (9 * m + i % 9) = 9 * m + i % 9 := w64 (by omega) (by omega)
    have z4 : wrap64 (wrap64 (9 * rd t (9 * m + i / 9)) + rd t (9 * m + i % 9)) = 9 * rd t (9 * m + i / 9) + rd t (9 * m + i % 9) := by rw [w64 (x := 9 * _) (by omega) (by omega)]; exact w64 (by omega) (by omega)
    have z5 : wrap64 (i + 1) = i + 1 := w64 (by omega) (by omega)
    refine Ev.step (fun k => by rw [spec_MoveStretch.l0]) ?_
    simp only [d1, d2, z0, z1, z2, z3, z4, z5]
    refine Ev.pos (by omega) (Ev.pos (by omega) (Ev.pos (by omega) (Ev.pos (by omega) (Ev.pos (by omega) (Ev.pos (by omega) ?_)))))
    have := ih (i + 1) (by omega) (by omega)
    rw [show (i + 1).toNat = i.toNat + 1 by omega, mapI_succ, Int.toNat_of_nonneg (by omega), if_pos (by omega)] at this
    exact this
theorem specStretch_ev (t : List Int) (hl : t.length ≤ 1048576) (m : Int) : Ev (fun k => spec_MoveStretch.f k t m) (stretchR t m) := by
  unfold spec_MoveStretch.f stretchR stretchOk
  refine Ev.fix rfl (Ev.bind (SystemIn_ev t hl) ?_)
  by_cases hs : sysB t = true
  case neg =>
    rw [Bool.eq_false_iff.2 hs]
    refine Ev.neg (by simp) (Ev.step (fun k => by rw [spec_MoveStretch.j0]) ?_)
    exact Ev.pos rfl (Ev.done rfl)
  have hn := (sysB_parts hs).1
  refine Ev.pos hs (Ev.fix (l6In_eq m 1 8) ?_)
  rw [hs]
  by_cases hm : (decide (1 ≤ m) && decide (m ≤ 8)) = true
  case neg =>
    rw [Bool.eq_false_iff.2 hm]
    have : (true && (m != 0 && decide (m ∈ kernelL t))) = false := by
      cases e : (true && (m != 0 && decide (m ∈ kernelL t))) with
      | false => rfl
      | true =>
        simp at e hm
        have := kernelL_mem e.2
        exact absurd (hm (by have := this.1; omega)) (by have := this.2; omega)
    rw [this]
    refine Ev.neg (by simp) (Ev.step (fun k => by rw [spec_MoveStretch.j0]) ?_)
    exact Ev.pos rfl (Ev.done rfl)
  have hm2 : 1 ≤ m ∧ m ≤ 8 := by simpa using hm
  have hmm : In9 m := ⟨by omega, by omega⟩
  have hne : (m != 0) = true := by rw [bne_iff_ne]; omega
  have hk : decide (m ∈ kernelL t) = kernelB t m := by
    cases e : kernelB t m with
    | true => exact decide_eq_true (mem_filI.2 ⟨hmm.1, hmm.2, e⟩)
    | false => exact decide_eq_false fun h => by have := (mem_filI.1 h).2.2; rw [e] at this; exact absurd this (by decide)
  refine Ev.pos hm (Ev.bind (l2Kernel_ev hn hmm) (Ev.step (fun k => by rw [spec_MoveStretch.j0]) ?_))
  rw [hne, hk]
  cases kernelB t m with
  | false => exact Ev.pos (by decide) (Ev.done rfl)
  | true =>
    refine Ev.neg (by decide) ?_
    exact specStretch_l0 hn hmm 81 0 (by omega) (by omega)
theorem stretchR_length (t : List Int) (a : Int) : (stretchR t a).1.length ≤ 1048576 := by
  unfold stretchR
  by_cases hs : stretchOk t a = true
  · rw [if_pos hs]; show (stretchL t a).length ≤ _; unfold stretchL moveL; rw [mapI_length]; omega
  · rw [if_neg hs]; exact Nat.zero_le _

end Go.Proofs.Ytmfijochjkpaaaa.X

set_option linter.unusedVariables false
set_option linter.unusedSimpArgs false
namespace Go.Proofs.Ytmfijochjkpaaaa.X
open Go.RowKit Go.Proofs.YtmfijochjkpaaaaW.PrintWords

theorem off_ex (t : List Int) {l : Int} (hl : In91 l) : ∃ q, In91 q ∧ onB t q l = false := by
  rcases line_cases hl.1 hl.2 with ⟨m, b, m0, m1, b0, b1, rfl⟩ | ⟨c, c0, c1, rfl⟩ | rfl
  · refine ⟨90, ⟨by omega, by omega⟩, Bool.eq_false_iff.2 fun h => ?_⟩
    have := (on_far (by omega) m0 m1 b0 b1).1 h; omega
  · refine ⟨81, ⟨by omega, by omega⟩, Bool.eq_false_iff.2 fun h => ?_⟩
    have := (on_far_vert (by omega) c0 c1).1 h; omega
  · refine ⟨0, ⟨by omega, by omega⟩, Bool.eq_false_iff.2 fun h => ?_⟩
    have := on_inf.1 h; omega
theorem perm_rd {m : List Int} (hm : permB m = true) {p : Int} (hp : In91 p) : In91 (rd m p) :=
  diffB_pt (permB_diff hm) hp.1 (by have := permB_len hm; have := hp.2; omega)
theorem perm_inj {m : List Int} (hm : permB m = true) {p q : Int} (hp : In91 p) (hq : In91 q) (e : rd m p = rd m q) : p = q :=
  diffB_inj (permB_diff hm) hp.1 (by have := permB_len hm; have := hp.2; omega) hq.1 (by have := permB_len hm; have := hq.2; omega) e
theorem perm_onto {m : List Int} (hm : permB m = true) {q : Int} (hq : In91 q) : ∃ p, In91 p ∧ rd m p = q := by
  obtain ⟨i, hi, he⟩ := pigeon 91 (fun i => (rd m (i : Int)).toNat) (fun i h => by obtain ⟨u0, u1⟩ := perm_rd hm (p := (i : Int)) ⟨by omega, by omega⟩; omega)
    (fun i j h h' e => by
      have a := perm_rd hm (p := (i : Int)) ⟨by omega, by omega⟩
      have b := perm_rd hm (p := (j : Int)) ⟨by omega, by omega⟩
      have a0 := a.1; have b0 := b.1
      have := perm_inj hm (p := (i : Int)) (q := (j : Int)) ⟨by omega, by omega⟩ ⟨by omega, by omega⟩ (by omega)
      omega) q.toNat (by have := hq.1; have := hq.2; omega)
  have a := (perm_rd hm (p := (i : Int)) ⟨by omega, by omega⟩).1
  have := hq.1
  exact ⟨i, ⟨by omega, by omega⟩, by omega⟩
theorem toLine_in {t m : List Int} (h : moveB t m = true) {l : Int} (hl : In91 l) : In91 (toLine t m l) := by
  obtain ⟨hs, hm, _⟩ := moveB_parts h
  exact (toLine_spec hs hm hl).2.2.2
theorem toLine_on {t m : List Int} (h : moveB t m = true) {l p : Int} (hl : In91 l) (hp : In91 p) (ho : onB t p l = true) : onB t (rd m p) (toLine t m l) = true := by
  obtain ⟨hs, hm, hk⟩ := moveB_parts h
  have := hk l hl.1 hl.2
  unfold lineOk at this
  rw [Bool.not_eq_true', List.any_eq_false] at this
  have := this p (mem_pointsL.2 ⟨hp.1, hp.2, ho⟩)
  simpa using this
/-- A line on which the images of two points of l are is the image of l. -/
theorem toLine_eq {t m : List Int} (h : moveB t m = true) {l k p q : Int} (hl : In91 l) (hk : In91 k) (hp : In91 p) (hq : In91 q) (hne : p ≠ q) (p1 : onB t p l = true) (q1 : onB t q l = true) (p2 : onB t (rd m p) k = true) (q2 : onB t (rd m q) k = true) : toLine t m l = k := by
  obtain ⟨hs, hm, _⟩ := moveB_parts h
  have a := perm_rd hm hp
  have b := perm_rd hm hq
  have c := toLine_in h hl
  exact join_uniq hs a.1 a.2 b.1 b.2 (fun e => hne (perm_inj hm hp hq e)) c.1 c.2 hk.1 hk.2 (toLine_on h hl hp p1) (toLine_on h hl hq q1) p2 q2
theorem two_pts {t : List Int} (h : sysB t = true) {l : Int} (hl : In91 l) : ∃ a b, In91 a ∧ In91 b ∧ a ≠ b ∧ onB t a l = true ∧ onB t b l = true := by
  have h2 := pointsL_two h hl.1 hl.2
  have a := pointsL_rd (t := t) (l := l) (i := 0) (by omega) (by omega)
  have b := pointsL_rd (t := t) (l := l) (i := 1) (by omega) (by omega)
  have hlt := filI_lt (n := 91) (p := fun p => onB t p l) (i := 0) (j := 1) (by omega) (by omega) (show (1 : Int) < (pointsL t l).length by omega)
  exact ⟨_, _, a.1, b.1, fun e => by have h3 : rd (pointsL t l) 0 < rd (pointsL t l) 1 := hlt; omega, a.2, b.2⟩
/-- A point is on a line exactly if its image is on the line's. -/
theorem toLine_iff {t m : List Int} (h : moveB t m = true) {l p : Int} (hl : In91 l) (hp : In91 p) : onB t (rd m p) (toLine t m l) = onB t p l := by
  obtain ⟨hs, hm, _⟩ := moveB_parts h
  cases e : onB t p l with
  | true => exact toLine_on h hl hp e
  | false =>
    refine Bool.eq_false_iff.2 fun hon => ?_
    have hL := toLine_in h hl
    obtain ⟨z, hz, hzo⟩ := off_ex t hL
    obtain ⟨q, hq, hqz⟩ := perm_onto hm hz
    by_cases hqp : q = p
    · rw [hqp] at hqz; rw [hqz, hzo] at hon; exact absurd hon (by decide)
    · obtain ⟨k0, k1, kq, kp⟩ := joinI_spec hs hq.1 hq.2 hp.1 hp.2 hqp
      have hkl : joinI t q p ≠ l := fun ee => by rw [ee, e] at kp; exact absurd kp (by decide)
      obtain ⟨a0, a1, ak, al⟩ := meetI_spec hs k0 k1 hl.1 hl.2 hkl
      have hap : meetI t (joinI t q p) l ≠ p := fun ee => by rw [ee, e] at al; exact absurd al (by decide)
      have e2 := toLine_eq h ⟨k0, k1⟩ hL ⟨a0, a1⟩ hp hap ak kp (toLine_on h hl ⟨a0, a1⟩ al) hon
      have := toLine_on h ⟨k0, k1⟩ hq kq
      rw [e2, hqz, hzo] at this
      exact absurd this (by decide)
theorem toLine_inj {t m : List Int} (h : moveB t m = true) {l k : Int} (hl : In91 l) (hk : In91 k) (e : toLine t m l = toLine t m k) : l = k := by
  obtain ⟨hs, hm, _⟩ := moveB_parts h
  obtain ⟨a, b, ha, hb, hne, al, bl⟩ := two_pts hs hl
  have h1 := toLine_iff h hk ha
  have h2 := toLine_iff h hk hb
  rw [← e, toLine_iff h hl ha, al] at h1
  rw [← e, toLine_iff h hl hb, bl] at h2
  exact join_uniq hs ha.1 ha.2 hb.1 hb.2 hne hl.1 hl.2 hk.1 hk.2 al bl h1.symm h2.symm
/-- What maps points one to one onto points, and lines into lines, is a move. -/
theorem move_of {t m : List Int} (hs : sysB t = true) (hm : permB m = true) (f : Int → Int) (hf : ∀ l, In91 l → In91 (f l)) (ho : ∀ p l, In91 p → In91 l → onB t p l = true → onB t (rd m p) (f l) = true) : moveB t m = true := by
  refine moveB_all hs hm fun l l0 l1 => ?_
  have hl : In91 l := ⟨l0, l1⟩
  obtain ⟨a, b, hne, hin⟩ := toLine_spec hs hm hl
  have h2 := pointsL_two hs l0 l1
  have p0 := pointsL_rd (t := t) (l := l) (i := 0) (by omega) (by omega)
  have p1 := pointsL_rd (t := t) (l := l) (i := 1) (by omega) (by omega)
  have e : toLine t m l = f l := joinI_eq hs a.1 a.2 b.1 b.2 hne (hf l hl).1 (hf l hl).2 (ho _ _ p0.1 hl p0.2) (ho _ _ p1.1 hl p1.2)
  unfold lineOk
  rw [Bool.not_eq_true', List.any_eq_false]
  intro p hp
  obtain ⟨p0, p1, hpo⟩ := mem_pointsL.1 hp
  rw [e, ho p l ⟨p0, p1⟩ hl hpo]; decide
theorem toLine_of {t m : List Int} (h : moveB t m = true) (f : Int → Int) (hf : ∀ l, In91 l → In91 (f l)) (ho : ∀ p l, In91 p → In91 l → onB t p l = true → onB t (rd m p) (f l) = true) {l : Int} (hl : In91 l) : toLine t m l = f l := by
  obtain ⟨hs, hm, _⟩ := moveB_parts h
  obtain ⟨a, b, ha, hb, hne, al, bl⟩ := two_pts hs hl
  exact toLine_eq h hl (hf l hl) ha hb hne al bl (ho _ _ ha hl al) (ho _ _ hb hl bl)
theorem permB_of {m : List Int} (hl : m.length = 91) (h : ∀ p, In91 p → In91 (rd m p)) (hi : ∀ p q, In91 p → In91 q → rd m p = rd m q → p = q) : permB m = true := by
  unfold permB
  rw [decide_eq_true hl, Bool.true_and]
  refine diffB_all fun i i0 i1 => ?_
  have hi91 : In91 i := ⟨i0, by omega⟩
  unfold newB
  rw [ptB_iff.2 (h i hi91), Bool.true_and, Bool.not_eq_true', decide_eq_false_iff_not]
  intro hm
  obtain ⟨j, hj, e⟩ := List.mem_take_iff_getElem.1 hm
  rw [← rd_cast m j (by omega)] at e
  have := hi (j : Int) i ⟨by omega, by omega⟩ hi91 e
  omega

/-! ### the way back, one move behind another -/
def backN (m : List Int) : Nat → List Int
  | 0 => List.replicate 91 0
  | n + 1 => (backN m n).set (rd m (n : Int)).toNat (n : Int)
def backL (m : List Int) : List Int := backN m 91
theorem backN_length (m : List Int) (n : Nat) : (backN m n).length = 91 := by
  induction n with
  | zero => simp [backN]
  | succ n ih => unfold backN; rw [List.length_set, ih]
theorem backL_length (m : List Int) : (backL m).length = 91 := by unfold backL; exact backN_length m 91
theorem rd_setC {l : List Int} {i j v : Int} (i0 : 0 ≤ i) (i1 : i < l.length) (j0 : 0 ≤ j) : rd (l.set i.toNat v) j = if j = i then v else rd l j := by
  unfold rd
  rw [List.getD_eq_getElem?_getD, List.getD_eq_getElem?_getD, List.getElem?_set]
  by_cases e : j = i
  · rw [if_pos e, if_pos (by omega), if_pos (by omega)]; rfl
  · rw [if_neg e, if_neg (by omega)]
theorem backN_rd {m : List Int} (hm : permB m = true) (n : Nat) (hn : n ≤ 91) : ∀ p : Int, 0 ≤ p → p < n → rd (backN m n) (rd m p) = p := by
  induction n with
  | zero => intro p h0 h1; omega
  | succ n ih =>
    intro p h0 h1
    have a := perm_rd hm (p := (n : Int)) ⟨by omega, by omega⟩
    have b := perm_rd hm (p := p) ⟨by omega, by omega⟩
    unfold backN
    rw [rd_setC a.1 (by rw [backN_length]; have := a.2; omega) b.1]
    by_cases e : p = n
    · rw [e, if_pos rfl]
    · rw [if_neg (fun ee => e (perm_inj hm ⟨by omega, by omega⟩ ⟨by omega, by omega⟩ ee))]
      exact ih (by omega) p h0 (by omega)
theorem back_rd {m : List Int} (hm : permB m = true) {p : Int} (hp : In91 p) : rd (backL m) (rd m p) = p := backN_rd hm 91 (by omega) p hp.1 hp.2
theorem back_rd2 {m : List Int} (hm : permB m = true) {q : Int} (hq : In91 q) : rd m (rd (backL m) q) = q := by
  obtain ⟨p, hp, rfl⟩ := perm_onto hm hq
  rw [back_rd hm hp]
def behL (m n : List Int) : List Int := mapI 91 fun p => rd n (rd m p)
theorem behL_rd (m n : List Int) {p : Int} (hp : In91 p) : rd (behL m n) p = rd n (rd m p) := rd_mapI hp.1 hp.2
theorem back_in {m : List Int} (hm : permB m = true) {q : Int} (hq : In91 q) : In91 (rd (backL m) q) := by
  obtain ⟨p, hp, rfl⟩ := perm_onto hm hq
  rw [back_rd hm hp]; exact hp
theorem back_perm {m : List Int} (hm : permB m = true) : permB (backL m) = true :=
  permB_of (backN_length m 91) (fun q hq => back_in hm hq) fun p q hp hq e => by
    have := congrArg (rd m) e
    rwa [back_rd2 hm hp, back_rd2 hm hq] at this
theorem beh_perm {m n : List Int} (hm : permB m = true) (hn : permB n = true) : permB (behL m n) = true :=
  permB_of (mapI_length _ _) (fun p hp => by rw [behL_rd _ _ hp]; exact perm_rd hn (perm_rd hm hp)) fun p q hp hq e => by
    rw [behL_rd _ _ hp, behL_rd _ _ hq] at e
    exact perm_inj hm hp hq (perm_inj hn (perm_rd hm hp) (perm_rd hm hq) e)
theorem beh_move {t m n : List Int} (hm : moveB t m = true) (hn : moveB t n = true) : moveB t (behL m n) = true := by
  obtain ⟨hs, pm, _⟩ := moveB_parts hm
  obtain ⟨_, pn, _⟩ := moveB_parts hn
  refine move_of hs (beh_perm pm pn) (fun l => toLine t n (toLine t m l)) (fun l hl => toLine_in hn (toLine_in hm hl)) fun p l hp hl ho => ?_
  rw [behL_rd _ _ hp]
  exact toLine_on hn (toLine_in hm hl) (perm_rd pm hp) (toLine_on hm hl hp ho)
theorem beh_line {t m n : List Int} (hm : moveB t m = true) (hn : moveB t n = true) {l : Int} (hl : In91 l) : toLine t (behL m n) l = toLine t n (toLine t m l) := by
  obtain ⟨hs, pm, _⟩ := moveB_parts hm
  refine toLine_of (beh_move hm hn) (fun l => toLine t n (toLine t m l)) (fun l hl => toLine_in hn (toLine_in hm hl)) (fun p l hp hl ho => ?_) hl
  rw [behL_rd _ _ hp]
  exact toLine_on hn (toLine_in hm hl) (perm_rd pm hp) (toLine_on hm hl hp ho)
/-- Lines are moved onto all lines. -/
theorem toLine_onto {t m : List Int} (h : moveB t m = true) {k : Int} (hk : In91 k) : ∃ l, In91 l ∧ toLine t m l = k := by
  obtain ⟨hs, hm, _⟩ := moveB_parts h
  obtain ⟨a, b, ha, hb, hne, al, bl⟩ := two_pts hs hk
  have ia := back_in hm ha
  have ib := back_in hm hb
  have hne' : rd (backL m) a ≠ rd (backL m) b := fun e => hne (by rw [← back_rd2 hm ha, e, back_rd2 hm hb])
  have hj := joinI_spec hs ia.1 ia.2 ib.1 ib.2 hne'
  exact ⟨_, ⟨hj.1, hj.2.1⟩, toLine_eq h ⟨hj.1, hj.2.1⟩ hk ia ib hne' hj.2.2.1 hj.2.2.2 (by rw [back_rd2 hm ha]; exact al) (by rw [back_rd2 hm hb]; exact bl)⟩
theorem back_move {t m : List Int} (h : moveB t m = true) : moveB t (backL m) = true := by
  obtain ⟨hs, hm, _⟩ := moveB_parts h
  refine moveB_all hs (back_perm hm) fun l l0 l1 => ?_
  obtain ⟨k, hk, e⟩ := toLine_onto h (k := l) ⟨l0, l1⟩
  have hin : ∀ p, In91 p → onB t p l = true → onB t (rd (backL m) p) k = true := fun p hp ho => by
    have := toLine_iff h hk (back_in hm hp)
    rw [back_rd2 hm hp, e, ho] at this
    exact this.symm
  obtain ⟨a, b, hne, _⟩ := toLine_spec hs (back_perm hm) (l := l) ⟨l0, l1⟩
  have h2 := pointsL_two hs l0 l1
  have p0 := pointsL_rd (t := t) (l := l) (i := 0) (by omega) (by omega)
  have p1 := pointsL_rd (t := t) (l := l) (i := 1) (by omega) (by omega)
  have e : toLine t (backL m) l = k := joinI_eq hs a.1 a.2 b.1 b.2 hne hk.1 hk.2 (hin _ p0.1 p0.2) (hin _ p1.1 p1.2)
  unfold lineOk
  rw [Bool.not_eq_true', List.any_eq_false]
  intro p hp
  obtain ⟨p0, p1, hpo⟩ := mem_pointsL.1 hp
  rw [e, hin p ⟨p0, p1⟩ hpo]; decide

end Go.Proofs.Ytmfijochjkpaaaa.X

namespace Go.Proofs.Ytmfijochjkpaaaa.P
open Go.RowKit Go.Proofs.YtmfijochjkpaaaaW.PrintWords Go.Proofs.YtmfijochjkpaaaaW.PrintLast
set_option linter.unusedVariables false
set_option linter.unusedSimpArgs false

/-! ### impl_behind: function 84 -/
def impl_behind.l0 : Nat → List Int → List Int → List Int → Int → Int → Option (List Int)
 | 0, _, _, _, _, _ => none
 | k + 1, x1, x5, x9, x10, x11 => if x11 < x10 then (if 0 ≤ x11 then (if x11 < (x9.length : Int) then (if 0 ≤ (rd x9 x11) then (if (rd x9 x11) < (x1.length : Int) then (if x5.length < 17592186044416 then (impl_behind.l0 k x1 (x5 ++ [rd x1 (rd x9 x11)]) x9 x10 (wrap64 (x11 + 1))) else (none)) else (none)) else (none)) else (none)) else (none)) else (some x5)
def impl_behind.f (k : Nat) (l0 : List Int) (l1 : List Int) : Option (List Int) := impl_behind.l0 k l1 (([] : List Int)) l0 (l0.length : Int) 0
set_option maxHeartbeats 8000000 in
set_option maxRecDepth 100000 in
theorem impl_behind.calls (k : Nat) (A0 : Option Addr) (c0 : Nat) (l0 : List Int) (A1 : Option Addr) (c1 : Nat) (l1 : List Int) (r : List Int) (w : World) (hr0 : Kd.C (Kd.int .i64) w A0 l0.length l0) (hc0 : l0.length ≤ c0) (hr1 : Kd.C (Kd.int .i64) w A1 l1.length l1) (hc1 : l1.length ≤ c1) (h : impl_behind.f k l0 l1 = some r) :
  Calls Try.prog 84 #[.slice A0 l0.length c0, .slice A1 l1.length c1] w fun e w' => ∃ v0_ : Value, e = .returned (v0_) ∧ Kd.R (Kd.int .i64) 3 w' w.heap.size (fun _ => True) v0_ r ∧ Below w.heap.size w w' := by
 have HR0 := Aside0.mk hr0
 have HC0 := Aside0.mk hc0
 clear hr0 hc0
 have HR1 := Aside0.mk hr1
 have HC1 := Aside0.mk hc1
 clear hr1 hc1
 have HB := Aside0.mk (Below.refl w.heap.size w)
 have H : (impl_behind.l0 k l1 (([] : List Int)) l0 (l0.length : Int) 0) = some r := h
 clear h
 obtain ⟨y727, hy727⟩ : ∃ y_ : List Int, y_ = (([] : List Int)) := ⟨_, rfl⟩
 replace H : (impl_behind.l0 k l1 y727 l0 (l0.length : Int) 0) = some r := by first | (rw [hy727]; with_reducible exact H) | (have H2_ := (Option.bind_some _ _).symm.trans H; rw [hy727]; with_reducible exact H2_) | (have H2_ := (Option.bind_some _ _).symm.trans H; with_reducible exact H2_) | with_reducible exact H | (rw [hy727]; exact H) | exact H
 have Ny727 := Aside0.mk hy727
 clear hy727
 have H' := Aside0.mk H
 clear H
 go_enter Try.func84, Try.ntmps84
 go_wp2_with (first | ((with_reducible refine gate_dst (N := 8) rfl ?_); refine Kd.R_lit (Kd.int .i64) _ 3 ?hg (N := 8) ?hd (xs := ([] : List Int)) (inner := []) (ok := fun _ => True) (okp := fun _ => True) ?hr ?hp (fun _ hk => hk) trivial (Below.refl _ _) (Nat.le_refl _) (by simp) ?_; (case hd => rfl); (case hg => rfl); (case hr => first | (go_simp; done) | (go_simp; rfl)); (case hp => exact (Reps.none _ _)); intro v728 w3 ho4 hb hg_ hnew_; clear hg_ hnew_; (first | rw [← Ny727.out] at ho4 | (simp only [Int.reduceToNat] at ho4; rw [← Ny727.out] at ho4)); have n0_ := Aside0.mk (Kd.R_lower ho4 (below_size (by repeat (first | (with_reducible first | exact HB.out | apply below_alloc | apply pw_below_drewN | apply below_drew1) | exact HB.out)))); have n1_ := Aside0.mk (below_step (by repeat (first | (with_reducible first | exact HB.out | apply below_alloc | apply pw_below_drewN | apply below_drew1) | exact HB.out)) hb); clear HB; have HO729 := n0_; have HB := n1_; clear n0_ n1_; clear hb ho4))
 go_loopg [5, 11] k (fun kq v5 v11 w' => ∃ (x5_1 : List Int) (x11_1 : Int), v11 = .int .i64 x11_1 ∧ Aside0 (impl_behind.l0 kq l1 x5_1 l0 (l0.length : Int) x11_1 = some r) ∧ Aside0 (kq ≤ k) ∧ Aside0 (Kd.R (Kd.int .i64) 3 w' w.heap.size (fun _ => True) v5 x5_1) ∧ Aside0 (Below w.heap.size w w'))
 case atStart => exact ⟨(y727), (0), (by first | rfl | (simp; done) | (simp [*]; done)), H', ⟨Nat.le_refl _⟩, ⟨by (with_reducible repeat (first | apply Kd.R_alloc | apply Kd.R_drewN | apply Kd.R_drew)); exact HO729.out⟩, ⟨by repeat (first | (with_reducible first | exact HB.out | apply below_alloc | apply pw_below_drewN | apply below_drew1) | exact HB.out)⟩⟩
 case round =>
  clear H'
  try clear c1
  try clear p2
  obtain ⟨x5_1, x11_1, rfl, HA, HK1, HO_5, HB⟩ := hrel
  cases gk with
  | zero => exact absurd HA.out (by simp [impl_behind.l0])
  | succ k1 =>
   have H := HA.out
   clear HA
   simp only [impl_behind.l0] at H
   by_cases c5 : x11_1 < (l0.length : Int)
   ·rw [if_pos c5] at H
    have c5b0 : decide (x11_1 < (l0.length : Int)) = true := decide_eq_true c5
    clear c5
    by_cases c6 : 0 ≤ x11_1
    ·rw [if_pos c6] at H
     have c6b0 : decide (0 ≤ x11_1) = true := decide_eq_true c6
     clear c6
     by_cases c7 : x11_1 < (l0.length : Int)
     ·rw [if_pos c7] at H
      have c7b0 : decide (x11_1 < (l0.length : Int)) = true := decide_eq_true c7
      clear c7
      by_cases c8 : 0 ≤ (rd l0 x11_1)
      ·rw [if_pos c8] at H
       have c8b0 : decide (0 ≤ (rd l0 x11_1)) = true := decide_eq_true c8
       clear c8
       by_cases c9 : (rd l0 x11_1) < (l1.length : Int)
       ·rw [if_pos c9] at H
        have c9b0 : decide ((rd l0 x11_1) < (l1.length : Int)) = true := decide_eq_true c9
        clear c9
        by_cases c10 : x5_1.length < 17592186044416
        ·rw [if_pos c10] at H
         have LMc10 := Aside0.mk c10
         clear c10
         obtain ⟨y732, hy732⟩ : ∃ y_ : List Int, y_ = (x5_1 ++ [rd l1 (rd l0 x11_1)]) := ⟨_, rfl⟩
         replace H : (impl_behind.l0 k1 l1 y732 l0 (l0.length : Int) (wrap64 (x11_1 + 1))) = some r := by first | (rw [hy732]; with_reducible exact H) | (have H2_ := (Option.bind_some _ _).symm.trans H; rw [hy732]; with_reducible exact H2_) | (have H2_ := (Option.bind_some _ _).symm.trans H; with_reducible exact H2_) | with_reducible exact H | (rw [hy732]; exact H) | exact H
         have Ny732 := Aside0.mk hy732
         clear hy732
         have H' := Aside0.mk H
         clear H
         have p730 : 0 ≤ (x11_1 : Int) := of_decide_eq_true (by first | (with_reducible assumption) | assumption)
         have q730 : x11_1 < (l0.length : Int) := of_decide_eq_true (by first | (with_reducible assumption) | assumption)
         obtain ⟨ad730, e730, hx730_0⟩ := Kd.at_int HR0.out x11_1 p730 q730
         cases e730
         replace hx730_0 := (HB.out.cell (World.block_lt_of_cell? w _ hx730_0)).trans hx730_0
         replace p730 := eq_true p730
         replace q730 := eq_true q730
         have p731 : 0 ≤ ((rd l0 x11_1) : Int) := of_decide_eq_true (by first | (with_reducible assumption) | assumption)
         have q731 : (rd l0 x11_1) < (l1.length : Int) := of_decide_eq_true (by first | (with_reducible assumption) | assumption)
         obtain ⟨ad731, e731, hx731_0⟩ := Kd.at_int HR1.out (rd l0 x11_1) p731 q731
         cases e731
         replace hx731_0 := (HB.out.cell (World.block_lt_of_cell? w _ hx731_0)).trans hx731_0
         replace p731 := eq_true p731
         replace q731 := eq_true q731
         go_wp2_with (first | (at_builtin; refine Kd.R_append (Kd.int .i64) (w0 := w) w.heap.size rfl (.tmp 15) (.tmp 20) 23 3 (.int .i64 0) 8 rfl Try.underlying23 info3 rfl (by decide) (by omega) u5 x5_1 (rd l1 (rd l0 x11_1)) [.int .i64 (rd l1 (rd l0 x11_1))] (fun _ => True) (fun _ => False) rfl rfl ?aP (fun _ hk => hk.elim) ?aF ?aO ?aB ?aS ?aL ?_; (case aP => exact rfl); (case aB => exact (by repeat (first | (with_reducible first | exact HB.out | apply below_alloc | apply pw_below_drewN | apply below_drew1) | exact HB.out))); (case aF => exact (fun _ _ => trivial)); (case aO => exact (by (with_reducible repeat (first | apply Kd.R_alloc | apply Kd.R_drewN | apply Kd.R_drew)); exact HO_5.out)); (case aS => exact (below_size (by repeat (first | (with_reducible first | exact HB.out | apply below_alloc | apply pw_below_drewN | apply below_drew1) | exact HB.out)))); (case aL => have := LMc10.out; omega); intro v733 w11 ho hb hg hat; rw [← Ny732.out] at ho; have n0_ := Aside0.mk (hb); have n1_ := Aside0.mk (ho); clear HB; clear HO_5; have HB := n0_; have HO734 := n1_; clear n0_ n1_; clear ho hb hg hat))
         go_roundg k1
         case measure => have := HK1.out; omega
         case rel => exact ⟨(y732), (wrap64 (x11_1 + 1)), (by first | rfl | (simp; done) | (simp [*]; done)), H', ⟨by have := HK1.out; omega⟩, ⟨by (with_reducible repeat (first | apply Kd.R_alloc | apply Kd.R_drewN | apply Kd.R_drew)); exact HO734.out⟩, ⟨by repeat (first | (with_reducible first | exact HB.out | apply below_alloc | apply pw_below_drewN | apply below_drew1) | exact HB.out)⟩⟩
        ·rw [if_neg c10] at H
         exact absurd H (by simp)
       ·rw [if_neg c9] at H
        exact absurd H (by simp)
      ·rw [if_neg c8] at H
       exact absurd H (by simp)
     ·rw [if_neg c7] at H
      exact absurd H (by simp)
    ·rw [if_neg c6] at H
     exact absurd H (by simp)
   ·rw [if_neg c5] at H
    have c5b0 : decide (x11_1 < (l0.length : Int)) = false := decide_eq_false c5
    clear c5
    obtain rfl := Option.some.inj H
    go_wp2
    go_ret
    exact ⟨_, by first | rfl | (simp [errW_none, errW_some] <;> rfl) | (simp [*, errW_none, errW_some] <;> rfl), by (with_reducible repeat (first | apply Kd.R_alloc | apply Kd.R_drewN | apply Kd.R_drew)); exact HO_5.out, by repeat (first | (with_reducible first | exact HB.out | apply below_alloc | apply pw_below_drewN | apply below_drew1) | exact HB.out)⟩


end Go.Proofs.Ytmfijochjkpaaaa.P

set_option linter.unusedVariables false
set_option linter.unusedSimpArgs false
namespace Go.Proofs.Ytmfijochjkpaaaa.X
open Go.RowKit Go.Proofs.YtmfijochjkpaaaaW.PrintWords Go.Proofs.YtmfijochjkpaaaaW.PrintLast Go.Proofs.Ytmfijochjkpaaaa.P

theorem behind_l0 {m n : List Int} (hm : permB m = true) (hn : permB n = true) (d : Nat) : ∀ i : Nat, i + d = 91 → Ev (fun k => impl_behind.l0 k n (mapI i fun p => rd n (rd m p)) m 91 (i : Int)) (behL m n) := by
  have hl := permB_len hm
  have hl2 := permB_len hn
  induction d with
  | zero =>
    intro i h1
    have e : i = 91 := by omega
    subst e
    refine Ev.step (fun k => by rw [impl_behind.l0]) ?_
    exact Ev.neg (by omega) (Ev.done rfl)
  | succ d ih =>
    intro i h1
    obtain ⟨a0, a1⟩ := perm_rd hm (p := (i : Int)) ⟨by omega, by omega⟩
    have nx := ih (i + 1) (by omega)
    rw [mapI_succ] at nx
    have z : wrap64 ((i : Int) + 1) = ((i + 1 : Nat) : Int) := by rw [w64 (by omega) (by omega)]; rfl
    have hlm := mapI_length i fun p => rd n (rd m p)
    refine Ev.step (fun k => by rw [impl_behind.l0]) ?_
    rw [z]
    exact Ev.pos (by omega) (Ev.pos (by omega) (Ev.pos (by omega) (Ev.pos a0 (Ev.pos (by omega) (Ev.pos (by omega) nx)))))
theorem behind_ev {m n : List Int} (hm : permB m = true) (hn : permB n = true) : Ev (fun k => impl_behind.f k m n) (behL m n) := by
  have h := behind_l0 hm hn 91 0 (by omega)
  unfold impl_behind.f
  rw [permB_len hm]
  exact h

end Go.Proofs.Ytmfijochjkpaaaa.X

set_option linter.unusedVariables false
set_option linter.unusedSimpArgs false
namespace Go.Proofs.Ytmfijochjkpaaaa.X
open Go.RowKit Go.Proofs.YtmfijochjkpaaaaW.PrintWords Go.Proofs.YtmfijochjkpaaaaW.PrintLast Go.Proofs.Ytmfijochjkpaaaa.P

theorem l3In_eq (p : Int) : spec_l3In.f p = some (ptB p) := by
  unfold spec_l3In.f ptB
  rw [l6In_eq]
  show some _ = _
  rw [show decide (p ≤ 90) = decide (p < 91) from decide_eq_decide.2 (by omega)]
theorem l3On_eq {t : List Int} (hn : ninesB t 81 = true) {p l : Int} (hp : In91 p) (hl : In91 l) : spec_l3On.f t p l = some (onB t p l) := by
  obtain ⟨p0, p1⟩ := hp
  obtain ⟨l0, l1⟩ := hl
  have hlen := (ninesB_iff.1 hn).1
  unfold spec_l3On.f onB
  by_cases h90 : l = 90
  · rw [if_pos h90, if_pos h90]
  rw [if_neg h90, if_neg h90]
  by_cases h81 : l ≥ 81
  · rw [if_pos h81, if_pos h81]
    by_cases hp90 : p = 90
    · rw [if_pos hp90, decide_eq_true hp90]; rfl
    · rw [if_neg hp90, decide_eq_false hp90, Bool.false_or]
      by_cases hpn : p < 81
      · rw [if_pos hpn, decide_eq_true hpn, Bool.true_and]
        simp (disch := omega) only [w64, tdiv_nn]
        rfl
      · rw [if_neg hpn, decide_eq_false hpn, Bool.false_and]
  · rw [if_neg h81, if_neg h81]
    by_cases hpf : p ≥ 81
    · rw [if_pos hpf, if_pos hpf]
      simp (disch := omega) only [w64, tdiv_nn]
      refine congrArg some ?_
      rw [show decide (p = 81 + l / 9) = decide (p - 81 = l / 9) from decide_eq_decide.2 (by omega)]
      rfl
    · rw [if_neg hpf, if_neg hpf]
      have hr := nines_rd hn (i := 9 * (p / 9) + l / 9) (by omega) (by omega)
      have ha := spec_l1Add_eq (rd t (9 * (p / 9) + l / 9)) (l % 9) hr ⟨by omega, by omega⟩
      simp (disch := omega) only [w64, tdiv_nn, tmod_nn]
      rw [show p / 9 * 9 = 9 * (p / 9) by omega, if_pos (by omega), if_pos (by omega), ha]
      rfl
theorem l3Points_loop {t : List Int} (hn : ninesB t 81 = true) {l : Int} (hl : In91 l) (d : Nat) : ∀ (i : Nat), i + d = 91 → Ev (fun k => spec_l3Points.l0 k t l (filI i fun p => onB t p l) (i : Int)) (pointsL t l) := by
  induction d with
  | zero =>
    intro i h1
    have e : i = 91 := by omega
    subst e
    refine Ev.step (fun k => by rw [spec_l3Points.l0]) ?_
    exact Ev.neg (by omega) (Ev.done rfl)
  | succ d ih =>
    intro i h1
    have hlen := filI_length_le i fun p => onB t p l
    have e1 := l3On_eq hn (p := (i : Int)) ⟨by omega, by omega⟩ hl
    have nx := ih (i + 1) (by omega)
    rw [filI_succ] at nx
    have z : wrap64 ((i : Int) + 1) = ((i + 1 : Nat) : Int) := by rw [w64 (by omega) (by omega)]; rfl
    refine Ev.step (fun k => by rw [spec_l3Points.l0]) ?_
    rw [z]
    refine Ev.pos (by omega) (Ev.fix e1 ?_)
    by_cases a : onB t (i : Int) l = true
    · rw [if_pos a] at nx
      exact Ev.pos a (Ev.pos (by omega) nx)
    · rw [if_neg a, List.append_nil] at nx
      exact Ev.neg a nx
theorem l3Points_ev {t : List Int} (hn : ninesB t 81 = true) {l : Int} (hl : In91 l) : Ev (fun k => spec_l3Points.f k t l) (pointsL t l) :=
  l3Points_loop hn hl 91 0 (by omega)
theorem l3Join_loop {t : List Int} (hn : ninesB t 81 = true) {p q : Int} (hp : In91 p) (hq : In91 q) (hj : ∃ l : Int, 0 ≤ l ∧ l < 91 ∧ onB t p l = true ∧ onB t q l = true) (d : Nat) : ∀ (i : Int), 0 ≤ i → i + d = 91 → (∀ l : Int, 0 ≤ l → l < i → (onB t p l && onB t q l) = false) → Ev (fun k => spec_l3Join.l0 k t p q i) (joinI t p q) := by
  induction d with
  | zero =>
    intro i h0 h1 h
    obtain ⟨l, l0, l1, a, b⟩ := hj
    have := h l l0 (by omega)
    rw [a, b] at this; exact absurd this (by decide)
  | succ d ih =>
    intro i h0 h1 h
    have e1 := l3On_eq hn hp (l := i) ⟨h0, by omega⟩
    have e2 := l3On_eq hn hq (l := i) ⟨h0, by omega⟩
    refine Ev.step (fun k => by rw [spec_l3Join.l0]) ?_
    simp (disch := omega) only [w64, e1, e2, Option.bind_some]
    refine Ev.pos (by omega) ?_
    have next : (onB t p i && onB t q i) = false → Ev (fun k => spec_l3Join.l0 k t p q (i + 1)) (joinI t p q) := fun hb => ih (i + 1) (by omega) (by omega) fun l l0 l1 => by
      by_cases e : l = i
      · rw [e]; exact hb
      · exact h l l0 (by omega)
    by_cases a : onB t p i = true
    · refine Ev.pos a ?_
      by_cases b : onB t q i = true
      · refine Ev.pos b (Ev.done ?_)
        unfold joinI
        rw [firstI_some i h0 (by omega) (by rw [a, b]; rfl) h]
      · exact Ev.neg b (next (by rw [Bool.eq_false_iff.2 b, Bool.and_false]))
    · exact Ev.neg a (next (by rw [Bool.eq_false_iff.2 a, Bool.false_and]))
/-- The join of two different points of a system's plane. -/
theorem l3Join_ev {t : List Int} (h : sysB t = true) {p q : Int} (hp : In91 p) (hq : In91 q) (hne : p ≠ q) : Ev (fun k => spec_l3Join.f k t p q) (joinI t p q) :=
  l3Join_loop (sysB_parts h).1 hp hq (join_ex h hp.1 hp.2 hq.1 hq.2 hne) 91 0 (by omega) (by omega) (fun l h0 h1 => by omega)

end Go.Proofs.Ytmfijochjkpaaaa.X

set_option linter.unusedVariables false
set_option linter.unusedSimpArgs false
namespace Go.Proofs.Ytmfijochjkpaaaa.X
open Go.RowKit Go.Proofs.YtmfijochjkpaaaaW.PrintWords Go.Proofs.YtmfijochjkpaaaaW.PrintLast Go.Proofs.Ytmfijochjkpaaaa.P

/-! ### l5Perm -/
theorem seen_take {l : List Int} {i : Int} (h0 : 0 ≤ i) (h1 : i ≤ l.length) {v : Int} (hv : 0 ≤ v) : seenO (rd l) i v.toNat = true ↔ v ∈ l.take i.toNat := by
  unfold seenO
  simp only [List.any_eq_true, List.mem_range, decide_eq_true_eq]
  rw [List.mem_take_iff_getElem]
  constructor
  · rintro ⟨z, hz, e⟩
    refine ⟨z, by omega, ?_⟩
    rw [← rd_cast l z (by omega), e]; omega
  · rintro ⟨z, hz, e⟩
    refine ⟨z, by omega, ?_⟩
    rw [rd_cast l z (by omega), e]; omega
theorem l5Perm_loop (m : List Int) (hl : m.length ≤ 1048576) (d : Nat) : ∀ (i : Int), 0 ≤ i → i + d = m.length → (∀ j : Int, 0 ≤ j → j < i → newB m j = true) → Ev (fun k => spec_l5Perm.l0 k m (bL 91 (seenO (rd m) i)) i) (permB m) := by
  induction d with
  | zero =>
    intro i h0 h1 h
    refine Ev.step (fun k => by rw [spec_l5Perm.l0]) ?_
    refine Ev.neg (by omega) (Ev.done ?_)
    unfold permB
    rw [diffB_all fun j j0 j1 => h j j0 (by omega), Bool.and_true]
    refine congrArg some ?_
    by_cases e : m.length = 91
    · rw [decide_eq_true e, e]; rfl
    · rw [decide_eq_false e]
      exact beq_eq_false_iff_ne.2 (by omega)
  | succ d ih =>
    intro i h0 h1 h
    refine Ev.step (fun k => by rw [spec_l5Perm.l0]) ?_
    have z : wrap64 (i + 1) = i + 1 := w64 (by omega) (by omega)
    rw [z, l3In_eq]
    refine Ev.pos (by omega) (Ev.pos h0 (Ev.fix rfl ?_))
    by_cases hp : ptB (rd m i) = true
    case neg =>
      refine Ev.neg hp (Ev.done ?_)
      have hnb : newB m i = false := by unfold newB; rw [Bool.eq_false_iff.2 hp, Bool.false_and]
      unfold permB
      rw [diffB_hit h0 (by omega) hnb, Bool.and_false]
    obtain ⟨v0, v1⟩ := ptB_iff.1 hp
    have z4 := bL_rd (n := 91) (s := seenO (rd m) i) (rd m i) v0 v1
    have hs := bL_seen (n := 91) (rd m) i h0 (rd m i) v0 rfl
    rw [z4, bL_length, hs]
    refine Ev.pos hp (Ev.pos v0 (Ev.pos v1 ?_))
    have hst := seen_take (l := m) (i := i) h0 (by omega) v0
    by_cases e : seenO (rd m) i (rd m i).toNat = true
    · refine Ev.pos e (Ev.done ?_)
      have hnb : newB m i = false := by unfold newB; rw [decide_eq_true (hst.1 e), Bool.not_true, Bool.and_false]
      unfold permB
      rw [diffB_hit h0 (by omega) hnb, Bool.and_false]
    · refine Ev.neg e (ih (i + 1) (by omega) (by omega) fun j j0 j1 => ?_)
      by_cases ej : j = i
      · rw [ej]; unfold newB; rw [hp, decide_eq_false (fun hm => e (hst.2 hm))]; rfl
      · exact h j j0 (by omega)
theorem l5Perm_ev (m : List Int) (hl : m.length ≤ 1048576) : Ev (fun k => spec_l5Perm.f k m) (permB m) := by
  unfold spec_l5Perm.f
  rw [bL_replicate]
  exact Ev.pos (by omega) (l5Perm_loop m hl m.length 0 (by omega) (by omega) (fun j h0 h1 => by omega))

/-! ### l5Line, l5In -/
def lineR (t m : List Int) (l : Int) : Int × Bool := if lineOk t m l = true then (toLine t m l, true) else (0, false)
theorem l5Line_loop {t m : List Int} (hs : sysB t = true) (hm : permB m = true) {l : Int} (hl : In91 l) (d : Nat) : ∀ (i : Int), 0 ≤ i → i + d = (pointsL t l).length → (∀ j : Int, 0 ≤ j → j < i → onB t (rd m (rd (pointsL t l) j)) (toLine t m l) = true) → Ev (fun k => spec_l5Line.l0 k t m (pointsL t l) (toLine t m l) i) (lineR t m l) := by
  have hlen := permB_len hm
  have h91 : (pointsL t l).length ≤ 91 := filI_length_le _ _
  obtain ⟨_, _, _, htl⟩ := toLine_spec hs hm hl
  induction d with
  | zero =>
    intro i h0 h1 h
    refine Ev.step (fun k => by rw [spec_l5Line.l0]) ?_
    refine Ev.neg (by omega) (Ev.done ?_)
    have : lineOk t m l = true := by
      unfold lineOk
      rw [Bool.not_eq_true', List.any_eq_false]
      intro p hp
      obtain ⟨j, hj, rfl⟩ := List.mem_iff_getElem.1 hp
      have := h (j : Int) (by omega) (by omega)
      rw [rd_cast _ j hj] at this
      rw [this]; decide
    unfold lineR; rw [if_pos this]
  | succ d ih =>
    intro i h0 h1 h
    obtain ⟨⟨a0, a1⟩, _⟩ := pointsL_rd (t := t) (l := l) (i := i) h0 (by omega)
    have hv := diffB_pt (permB_diff hm) a0 (by omega)
    have e1 := l3On_eq (sysB_parts hs).1 hv htl
    refine Ev.step (fun k => by rw [spec_l5Line.l0]) ?_
    rw [w64 (x := i + 1) (by omega) (by omega)]
    refine Ev.pos (by omega) (Ev.pos h0 (Ev.pos a0 (Ev.pos (by omega) (Ev.fix e1 ?_))))
    by_cases e : onB t (rd m (rd (pointsL t l) i)) (toLine t m l) = true
    · refine Ev.pos e (ih (i + 1) (by omega) (by omega) fun j j0 j1 => ?_)
      by_cases ej : j = i
      · rw [ej]; exact e
      · exact h j j0 (by omega)
    · refine Ev.neg e (Ev.done ?_)
      have : lineOk t m l = false := by
        unfold lineOk
        rw [Bool.not_eq_false', List.any_eq_true]
        exact ⟨_, rd_mem (by omega) h0, by rw [Bool.eq_false_iff.2 e]; rfl⟩
      unfold lineR; rw [this]; rfl
theorem l5Line_ev {t m : List Int} (hs : sysB t = true) (hm : permB m = true) {l : Int} (hl : In91 l) : Ev (fun k => spec_l5Line.f k t m l) (lineR t m l) := by
  have hn := (sysB_parts hs).1
  have hlen := permB_len hm
  have h2 := pointsL_two hs hl.1 hl.2
  obtain ⟨p0, p1, hne, htl⟩ := toLine_spec hs hm hl
  obtain ⟨⟨a0, a1⟩, _⟩ := pointsL_rd (t := t) (l := l) (i := 0) (by omega) (by omega)
  obtain ⟨⟨b0, b1⟩, _⟩ := pointsL_rd (t := t) (l := l) (i := 1) (by omega) (by omega)
  obtain ⟨j0, j1, j2, j3⟩ := joinI_spec hs p0.1 p0.2 p1.1 p1.2 hne
  unfold spec_l5Line.f
  refine Ev.bind (l3Points_ev hn hl) ?_
  refine Ev.pos (by omega) (Ev.pos a0 (Ev.pos (by omega) (Ev.pos (by omega) (Ev.pos b0 (Ev.pos (by omega) (Ev.bind (l3Join_ev hs p0 p1 hne) ?_))))))
  refine l5Line_loop hs hm hl ((pointsL t l).length - 2) 2 (by omega) (by omega) fun j j0' j1' => ?_
  have : j = 0 ∨ j = 1 := by omega
  rcases this with rfl | rfl
  · exact j2
  · exact j3
theorem l5In_loop {t m : List Int} (hs : sysB t = true) (hm : permB m = true) (d : Nat) : ∀ (i : Int), 0 ≤ i → i + d = 91 → (∀ l : Int, 0 ≤ l → l < i → lineOk t m l = true) → Ev (fun k => spec_l5In.l0 k t m i) (moveB t m) := by
  induction d with
  | zero =>
    intro i h0 h1 h
    refine Ev.step (fun k => by rw [spec_l5In.l0]) ?_
    refine Ev.neg (by omega) (Ev.done ?_)
    rw [moveB_all hs hm fun l l0 l1 => h l l0 (by omega)]
  | succ d ih =>
    intro i h0 h1 h
    refine Ev.step (fun k => by rw [spec_l5In.l0]) ?_
    rw [w64 (x := i + 1) (by omega) (by omega)]
    refine Ev.pos (by omega) (Ev.bind (l5Line_ev hs hm (l := i) ⟨h0, by omega⟩) ?_)
    unfold lineR
    by_cases e : lineOk t m i = true
    · rw [if_pos e]
      refine Ev.pos rfl (ih (i + 1) (by omega) (by omega) fun l l0 l1 => ?_)
      by_cases el : l = i
      · rw [el]; exact e
      · exact h l l0 (by omega)
    · rw [if_neg e]
      refine Ev.neg (by decide) (Ev.done ?_)
      rw [moveB_hit h0 (by omega) (Bool.eq_false_iff.2 e)]
theorem l5In_ev {t m : List Int} (hs : sysB t = true) (hl : m.length ≤ 1048576) : Ev (fun k => spec_l5In.f k t m) (moveB t m) := by
  unfold spec_l5In.f
  refine Ev.bind (l5Perm_ev m hl) ?_
  by_cases hm : permB m = true
  · exact Ev.pos hm (l5In_loop hs hm 91 0 (by omega) (by omega) fun l h0 h1 => by omega)
  · refine Ev.neg hm (Ev.done ?_)
    unfold moveB; rw [Bool.eq_false_iff.2 hm]; simp
theorem MoveIn_ev {t m : List Int} (ht : t.length ≤ 1048576) (hl : m.length ≤ 1048576) : Ev (fun k => spec_MoveIn.f k t m) (moveB t m) := by
  unfold spec_MoveIn.f
  refine Ev.bind (SystemIn_ev t ht) ?_
  by_cases hs : sysB t = true
  · exact Ev.pos hs (Ev.bind (l5In_ev hs hl) (Ev.done rfl))
  · refine Ev.neg hs (Ev.done ?_)
    unfold moveB; rw [Bool.eq_false_iff.2 hs]; rfl

end Go.Proofs.Ytmfijochjkpaaaa.X

namespace Go.Proofs.Ytmfijochjkpaaaa.P
open Go.RowKit Go.Proofs.YtmfijochjkpaaaaW.PrintWords Go.Proofs.YtmfijochjkpaaaaW.PrintLast Go.Proofs.YtmfijochjkpaaaaW.PrintMore
set_option linter.unusedVariables false
set_option linter.unusedSimpArgs false

/-! ### impl_MoveTimes: function 33 -/
def impl_MoveTimes.f (k : Nat) (l0 : List Int) (l1 : List Int) (l2 : List Int) : Option (List Int × Bool) := (impl_isMove.f l0 l1).bind fun t735 => (if t735 = true then ((impl_isMove.f l0 l2).bind fun t736 => (if t736 = true then ((impl_behind.f k l1 l2).bind fun t737 => (some (t737, true))) else (some (([] : List Int), false)))) else (some (([] : List Int), false)))
set_option maxHeartbeats 8000000 in
set_option maxRecDepth 100000 in
theorem impl_MoveTimes.calls (k : Nat) (A0 : Option Addr) (c0 : Nat) (l0 : List Int) (A1 : Option Addr) (c1 : Nat) (l1 : List Int) (A2 : Option Addr) (c2 : Nat) (l2 : List Int) (r1 : List Int) (r2 : Bool) (w : World) (hr0 : Kd.C (Kd.int .i64) w A0 l0.length l0) (hc0 : l0.length ≤ c0) (hr1 : Kd.C (Kd.int .i64) w A1 l1.length l1) (hc1 : l1.length ≤ c1) (hr2 : Kd.C (Kd.int .i64) w A2 l2.length l2) (hc2 : l2.length ≤ c2) (h : impl_MoveTimes.f k l0 l1 l2 = some (r1, r2)) :
  Calls Try.prog 33 #[.slice A0 l0.length c0, .slice A1 l1.length c1, .slice A2 l2.length c2] w fun e w' => ∃ v0_ : Value, e = .returned (.tuple #[v0_, .bool r2]) ∧ Kd.R (Kd.int .i64) 3 w' w.heap.size (fun _ => True) v0_ r1 ∧ Below w.heap.size w w' := by
 have HR0 := Aside0.mk hr0
 have HC0 := Aside0.mk hc0
 clear hr0 hc0
 have HR1 := Aside0.mk hr1
 have HC1 := Aside0.mk hc1
 clear hr1 hc1
 have HR2 := Aside0.mk hr2
 have HC2 := Aside0.mk hc2
 clear hr2 hc2
 have HB := Aside0.mk (Below.refl w.heap.size w)
 have H : ((impl_isMove.f l0 l1).bind fun t735 => (if t735 = true then ((impl_isMove.f l0 l2).bind fun t736 => (if t736 = true then ((impl_behind.f k l1 l2).bind fun t737 => (some (t737, true))) else (some (([] : List Int), false)))) else (some (([] : List Int), false)))) = some (r1, r2) := h
 clear h
 replace H := Option.bind_eq_some_iff.mp H
 obtain ⟨t735, A40, H⟩ := H
 replace H : (if t735 = true then ((impl_isMove.f l0 l2).bind fun t736 => (if t736 = true then ((impl_behind.f k l1 l2).bind fun t737 => (some (t737, true))) else (some (([] : List Int), false)))) else (some (([] : List Int), false))) = some (r1, r2) := H
 have A4 := Aside0.mk A40
 clear A40
 by_cases c5 : t735 = true
 ·subst c5
  have H1 : ((impl_isMove.f l0 l2).bind fun t736 => (if t736 = true then ((impl_behind.f k l1 l2).bind fun t737 => (some (t737, true))) else (some (([] : List Int), false)))) = some (r1, r2) := by rw [if_pos rfl] at H; exact H
  clear H
  have H := H1
  clear H1
  replace H := Option.bind_eq_some_iff.mp H
  obtain ⟨t736, A60, H⟩ := H
  replace H : (if t736 = true then ((impl_behind.f k l1 l2).bind fun t737 => (some (t737, true))) else (some (([] : List Int), false))) = some (r1, r2) := H
  have A6 := Aside0.mk A60
  clear A60
  by_cases c7 : t736 = true
  ·subst c7
   have H1 : ((impl_behind.f k l1 l2).bind fun t737 => (some (t737, true))) = some (r1, r2) := by rw [if_pos rfl] at H; exact H
   clear H
   have H := H1
   clear H1
   replace H := Option.bind_eq_some_iff.mp H
   obtain ⟨t737, A80, H⟩ := H
   replace H : (some (t737, true)) = some (r1, r2) := H
   have A8 := Aside0.mk A80
   clear A80
   simp only [Option.some.injEq, Prod.mk.injEq] at H
   obtain ⟨rfl, rfl⟩ := H
   go_enter Try.func33, Try.ntmps33
   go_wp2_with (first | (refine goesL_ (some 10) rfl rfl Try.func69 (by kernel_rfl) rfl #[.slice A0 l0.length c0, .slice A1 l1.length c1] rfl (by (try simp only [List.map_toArray, List.map_cons, List.map_nil]); first | done | rfl | (simp only [List.length_drop, List.length_take]; rfl)) ?_; (with_reducible refine (impl_isMove.calls _ _ l0 _ _ l1 true _ ?side1 ?side2 ?side3 ?side4 A4.out).mono ?_); (case side1 => repeat (first | exact HR0.out | (with_reducible refine Kd.C_alloc ?_ _) | (with_reducible refine Kd.C_drewN ?_ _) | (with_reducible refine Kd.C_drew ?_))); (case side2 => exact HC0.out); (case side3 => repeat (first | exact HR1.out | (with_reducible refine Kd.C_alloc ?_ _) | (with_reducible refine Kd.C_drewN ?_ _) | (with_reducible refine Kd.C_drew ?_))); (case side4 => exact HC1.out); rintro e w9 ⟨rfl, hb⟩; refine ⟨_, rfl, ?_⟩; have n0_ := Aside0.mk (below_step (by repeat (first | (with_reducible first | exact HB.out | apply below_alloc | apply pw_below_drewN | apply below_drew1) | exact HB.out)) hb); clear HB; have HB := n0_; clear n0_; (try clear hb); (try clear hb2); (try clear hk); (try clear hi)) | (go_at_call 69; (with_reducible refine (impl_isMove.calls _ _ l0 _ _ l2 true _ ?side1 ?side2 ?side3 ?side4 A6.out).mono ?_); (case side1 => repeat (first | exact (Kd.C_below HR0.out HB.out) | (with_reducible refine Kd.C_alloc ?_ _) | (with_reducible refine Kd.C_drewN ?_ _) | (with_reducible refine Kd.C_drew ?_))); (case side2 => exact HC0.out); (case side3 => repeat (first | exact (Kd.C_below HR2.out HB.out) | (with_reducible refine Kd.C_alloc ?_ _) | (with_reducible refine Kd.C_drewN ?_ _) | (with_reducible refine Kd.C_drew ?_))); (case side4 => exact HC2.out); rintro e w10 ⟨rfl, hb⟩; have n0_ := Aside0.mk (below_step (by repeat (first | (with_reducible first | exact HB.out | apply below_alloc | apply pw_below_drewN | apply below_drew1) | exact HB.out)) hb); clear HB; have HB := n0_; clear n0_; (try clear hb); (try clear hb2); (try clear hk); (try clear hi)) | (refine goesL_ (some 20) rfl rfl Try.func84 (by kernel_rfl) rfl #[.slice A1 l1.length c1, .slice A2 l2.length c2] rfl (by (try simp only [List.map_toArray, List.map_cons, List.map_nil]); first | done | rfl | (simp only [List.length_drop, List.length_take]; rfl)) ?_; (with_reducible refine (impl_behind.calls k _ _ l1 _ _ l2 t737 _ ?side1 ?side2 ?side3 ?side4 A8.out).mono ?_); (case side1 => repeat (first | exact (Kd.C_below HR1.out HB.out) | (with_reducible refine Kd.C_alloc ?_ _) | (with_reducible refine Kd.C_drewN ?_ _) | (with_reducible refine Kd.C_drew ?_))); (case side2 => exact HC1.out); (case side3 => repeat (first | exact (Kd.C_below HR2.out HB.out) | (with_reducible refine Kd.C_alloc ?_ _) | (with_reducible refine Kd.C_drewN ?_ _) | (with_reducible refine Kd.C_drew ?_))); (case side4 => exact HC2.out); rintro e w11 ⟨v738, rfl, ho0, hb⟩; refine ⟨_, rfl, ?_⟩; have n0_ := Aside0.mk (Kd.R_lower ho0 (below_size (by repeat (first | (with_reducible first | exact HB.out | apply below_alloc | apply pw_below_drewN | apply below_drew1) | exact HB.out)))); have n1_ := Aside0.mk (below_step (by repeat (first | (with_reducible first | exact HB.out | apply below_alloc | apply pw_below_drewN | apply below_drew1) | exact HB.out)) hb); clear HB; have HO739 := n0_; have HB := n1_; clear n0_ n1_; (try clear hb); (try clear hb2); (try clear hk); (try clear hi); (try clear ho0)))
   go_ret2
   exact ⟨_, by first | rfl | (simp [errW_none, errW_some] <;> rfl) | (simp [*, errW_none, errW_some] <;> rfl), by (with_reducible repeat (first | apply Kd.R_alloc | apply Kd.R_drewN | apply Kd.R_drew)); exact HO739.out, by repeat (first | (with_reducible first | exact HB.out | apply below_alloc | apply pw_below_drewN | apply below_drew1) | exact HB.out)⟩
  ·replace c7 := Bool.eq_false_iff.mpr c7
   subst c7
   have H1 : (some (([] : List Int), false)) = some (r1, r2) := by rw [if_neg (show ¬ (false = true) by decide)] at H; exact H
   clear H
   have H := H1
   clear H1
   simp only [Option.some.injEq, Prod.mk.injEq] at H
   obtain ⟨rfl, rfl⟩ := H
   go_enter Try.func33, Try.ntmps33
   go_wp2_with (first | (refine goesL_ (some 10) rfl rfl Try.func69 (by kernel_rfl) rfl #[.slice A0 l0.length c0, .slice A1 l1.length c1] rfl (by (try simp only [List.map_toArray, List.map_cons, List.map_nil]); first | done | rfl | (simp only [List.length_drop, List.length_take]; rfl)) ?_; (with_reducible refine (impl_isMove.calls _ _ l0 _ _ l1 true _ ?side1 ?side2 ?side3 ?side4 A4.out).mono ?_); (case side1 => repeat (first | exact HR0.out | (with_reducible refine Kd.C_alloc ?_ _) | (with_reducible refine Kd.C_drewN ?_ _) | (with_reducible refine Kd.C_drew ?_))); (case side2 => exact HC0.out); (case side3 => repeat (first | exact HR1.out | (with_reducible refine Kd.C_alloc ?_ _) | (with_reducible refine Kd.C_drewN ?_ _) | (with_reducible refine Kd.C_drew ?_))); (case side4 => exact HC1.out); rintro e w12 ⟨rfl, hb⟩; refine ⟨_, rfl, ?_⟩; have n0_ := Aside0.mk (below_step (by repeat (first | (with_reducible first | exact HB.out | apply below_alloc | apply pw_below_drewN | apply below_drew1) | exact HB.out)) hb); clear HB; have HB := n0_; clear n0_; (try clear hb); (try clear hb2); (try clear hk); (try clear hi)) | (go_at_call 69; (with_reducible refine (impl_isMove.calls _ _ l0 _ _ l2 false _ ?side1 ?side2 ?side3 ?side4 A6.out).mono ?_); (case side1 => repeat (first | exact (Kd.C_below HR0.out HB.out) | (with_reducible refine Kd.C_alloc ?_ _) | (with_reducible refine Kd.C_drewN ?_ _) | (with_reducible refine Kd.C_drew ?_))); (case side2 => exact HC0.out); (case side3 => repeat (first | exact (Kd.C_below HR2.out HB.out) | (with_reducible refine Kd.C_alloc ?_ _) | (with_reducible refine Kd.C_drewN ?_ _) | (with_reducible refine Kd.C_drew ?_))); (case side4 => exact HC2.out); rintro e w13 ⟨rfl, hb⟩; have n0_ := Aside0.mk (below_step (by repeat (first | (with_reducible first | exact HB.out | apply below_alloc | apply pw_below_drewN | apply below_drew1) | exact HB.out)) hb); clear HB; have HB := n0_; clear n0_; (try clear hb); (try clear hb2); (try clear hk); (try clear hi)))
   go_ret2
   exact ⟨_, by first | rfl | (simp [errW_none, errW_some] <;> rfl) | (simp [*, errW_none, errW_some] <;> rfl), by first | exact Kd.R_nil _ _ _ _ _ | exact Kd.N_nil _ _ _ _ _ | exact Kd.V_nil _ _ _ _ _ | exact Kd.Q_nil _ _ _ _ _ | exact Kd.S_nil _ _ _ _ _, by repeat (first | (with_reducible first | exact HB.out | apply below_alloc | apply pw_below_drewN | apply below_drew1) | exact HB.out)⟩
 ·replace c5 := Bool.eq_false_iff.mpr c5
  subst c5
  have H1 : (some (([] : List Int), false)) = some (r1, r2) := by rw [if_neg (show ¬ (false = true) by decide)] at H; exact H
  clear H
  have H := H1
  clear H1
  simp only [Option.some.injEq, Prod.mk.injEq] at H
  obtain ⟨rfl, rfl⟩ := H
  go_enter Try.func33, Try.ntmps33
  go_wp2_with (first | (refine goesL_ (some 10) rfl rfl Try.func69 (by kernel_rfl) rfl #[.slice A0 l0.length c0, .slice A1 l1.length c1] rfl (by (try simp only [List.map_toArray, List.map_cons, List.map_nil]); first | done | rfl | (simp only [List.length_drop, List.length_take]; rfl)) ?_; (with_reducible refine (impl_isMove.calls _ _ l0 _ _ l1 false _ ?side1 ?side2 ?side3 ?side4 A4.out).mono ?_); (case side1 => repeat (first | exact HR0.out | (with_reducible refine Kd.C_alloc ?_ _) | (with_reducible refine Kd.C_drewN ?_ _) | (with_reducible refine Kd.C_drew ?_))); (case side2 => exact HC0.out); (case side3 => repeat (first | exact HR1.out | (with_reducible refine Kd.C_alloc ?_ _) | (with_reducible refine Kd.C_drewN ?_ _) | (with_reducible refine Kd.C_drew ?_))); (case side4 => exact HC1.out); rintro e w14 ⟨rfl, hb⟩; refine ⟨_, rfl, ?_⟩; have n0_ := Aside0.mk (below_step (by repeat (first | (with_reducible first | exact HB.out | apply below_alloc | apply pw_below_drewN | apply below_drew1) | exact HB.out)) hb); clear HB; have HB := n0_; clear n0_; (try clear hb); (try clear hb2); (try clear hk); (try clear hi)))
  go_ret2
  exact ⟨_, by first | rfl | (simp [errW_none, errW_some] <;> rfl) | (simp [*, errW_none, errW_some] <;> rfl), by first | exact Kd.R_nil _ _ _ _ _ | exact Kd.N_nil _ _ _ _ _ | exact Kd.V_nil _ _ _ _ _ | exact Kd.Q_nil _ _ _ _ _ | exact Kd.S_nil _ _ _ _ _, by repeat (first | (with_reducible first | exact HB.out | apply below_alloc | apply pw_below_drewN | apply below_drew1) | exact HB.out)⟩


end Go.Proofs.Ytmfijochjkpaaaa.P

set_option linter.unusedVariables false
set_option linter.unusedSimpArgs false
namespace Go.Proofs.Ytmfijochjkpaaaa.X
open Go.RowKit Go.Proofs.YtmfijochjkpaaaaW.PrintWords Go.Proofs.YtmfijochjkpaaaaW.PrintLast Go.Proofs.Ytmfijochjkpaaaa.P

def timesR (t m n : List Int) : List Int × Bool := if (moveB t m && moveB t n) = true then (behL m n, true) else ([], false)
theorem timesR_length (t m n : List Int) : (timesR t m n).1.length ≤ 1048576 := by
  unfold timesR
  by_cases h : (moveB t m && moveB t n) = true
  · rw [if_pos h]; dsimp only; unfold behL; rw [mapI_length]; omega
  · rw [if_neg h]; exact Nat.zero_le _
theorem implTimes_ev {t m n : List Int} (hm : m.length ≤ 1048576) (hn : n.length ≤ 1048576) : Ev (fun k => impl_MoveTimes.f k t m n) (timesR t m n) := by
  unfold impl_MoveTimes.f timesR
  refine Ev.fix (show impl_isMove.f t m = some (moveB t m) from if_pos hm) ?_
  by_cases h1 : moveB t m = true
  case neg =>
    rw [Bool.eq_false_iff.2 h1]
    exact Ev.neg (by decide) (Ev.done rfl)
  rw [h1]
  refine Ev.pos rfl (Ev.fix (show impl_isMove.f t n = some (moveB t n) from if_pos hn) ?_)
  by_cases h2 : moveB t n = true
  case neg =>
    rw [Bool.eq_false_iff.2 h2]
    exact Ev.neg (by decide) (Ev.done rfl)
  rw [h2]
  exact Ev.pos rfl (Ev.bind (behind_ev (moveB_parts h1).2.1 (moveB_parts h2).2.1) (Ev.done rfl))
theorem specTimes_l0 {m n : List Int} (hm : permB m = true) (hn : permB n = true) (d : Nat) : ∀ i : Nat, i + d = 91 → Ev (fun k => spec_MoveTimes.l0 k m n (mapI i fun p => rd n (rd m p)) (i : Int)) (behL m n, true) := by
  have hl := permB_len hm
  have hl2 := permB_len hn
  induction d with
  | zero =>
    intro i h1
    have e : i = 91 := by omega
    subst e
    refine Ev.step (fun k => by rw [spec_MoveTimes.l0]) ?_
    exact Ev.neg (by omega) (Ev.done rfl)
  | succ d ih =>
    intro i h1
    obtain ⟨a0, a1⟩ := perm_rd hm (p := (i : Int)) ⟨by omega, by omega⟩
    have nx := ih (i + 1) (by omega)
    rw [mapI_succ] at nx
    have z : wrap64 ((i : Int) + 1) = ((i + 1 : Nat) : Int) := by rw [w64 (by omega) (by omega)]; rfl
    have hlm := mapI_length i fun p => rd n (rd m p)
    refine Ev.step (fun k => by rw [spec_MoveTimes.l0]) ?_
    rw [z]
    exact Ev.pos (by omega) (Ev.pos (by omega) (Ev.pos (by omega) (Ev.pos a0 (Ev.pos (by omega) (Ev.pos (by omega) nx)))))
theorem specTimes_ev {t m n : List Int} (ht : t.length ≤ 1048576) (hm : m.length ≤ 1048576) (hn : n.length ≤ 1048576) : Ev (fun k => spec_MoveTimes.f k t m n) (timesR t m n) := by
  unfold spec_MoveTimes.f timesR
  refine Ev.fix rfl (Ev.bind (MoveIn_ev ht hm) ?_)
  by_cases h1 : moveB t m = true
  case neg =>
    rw [Bool.eq_false_iff.2 h1]
    refine Ev.neg (by decide) ?_
    refine Ev.step (fun k => by rw [spec_MoveTimes.j0]) ?_
    exact Ev.pos rfl (Ev.done rfl)
  rw [h1]
  refine Ev.pos rfl (Ev.bind (MoveIn_ev ht hn) ?_)
  by_cases h2 : moveB t n = true
  case neg =>
    rw [Bool.eq_false_iff.2 h2]
    refine Ev.step (fun k => by rw [spec_MoveTimes.j0]) ?_
    exact Ev.pos rfl (Ev.done rfl)
  rw [h2]
  refine Ev.step (fun k => by rw [spec_MoveTimes.j0]) ?_
  exact Ev.neg (by decide) (specTimes_l0 (moveB_parts h1).2.1 (moveB_parts h2).2.1 91 0 (by omega))

end Go.Proofs.Ytmfijochjkpaaaa.X

set_option linter.unusedVariables false
set_option linter.unusedSimpArgs false
namespace Go.Proofs.Ytmfijochjkpaaaa.X
open Go.RowKit Go.Proofs.YtmfijochjkpaaaaW.PrintWords Go.Proofs.YtmfijochjkpaaaaW.PrintLast Go.Proofs.Ytmfijochjkpaaaa.P

/-- What is drawn first for a move: a shift or a stretch of a system, or nothing. -/
def BaseM (t m : List Int) : Prop := (sysB t = false ∧ m = []) ∨ (sysB t = true ∧ ((∃ a b, In9 a ∧ In9 b ∧ m = shiftL a b) ∨ ∃ k, stretchOk t k = true ∧ m = stretchL t k))
/-- .. and a stretch behind it, and its first point moved as the second one. -/
def DrawnM (t m : List Int) : Prop := ∃ m', (BaseM t m' ∨ ∃ m0, BaseM t m0 ∧ moveB t m0 = true ∧ stretchOk t 2 = true ∧ m' = behL m0 (stretchL t 2)) ∧ (m = m' ∨ (sysB t = true ∧ m = m'.set 0 (rd m' 1)))
theorem moveL_length (f : Int → Int → Int) : (moveL f).length = 91 := mapI_length _ _
theorem BaseM.len {t m : List Int} (h : BaseM t m) : m.length = if sysB t = true then 91 else 0 := by
  rcases h with ⟨hs, rfl⟩ | ⟨hs, ⟨a, b, _, _, rfl⟩ | ⟨k, _, rfl⟩⟩
  · rw [hs]; rfl
  · rw [if_pos hs]; exact moveL_length _
  · rw [if_pos hs]; exact moveL_length _
theorem stretchOk_sys {t : List Int} {k : Int} (h : stretchOk t k = true) : sysB t = true := by
  unfold stretchOk at h
  exact (Bool.and_eq_true _ _ ▸ h : sysB t = true ∧ _).1
theorem midM_len {t m' : List Int} (h : BaseM t m' ∨ ∃ m0, BaseM t m0 ∧ moveB t m0 = true ∧ stretchOk t 2 = true ∧ m' = behL m0 (stretchL t 2)) : m'.length = if sysB t = true then 91 else 0 := by
  rcases h with h | ⟨m0, _, _, hs, rfl⟩
  · exact h.len
  · rw [if_pos (stretchOk_sys hs)]; exact mapI_length _ _
theorem DrawnM.len {t m : List Int} (h : DrawnM t m) : m.length ≤ 91 := by
  obtain ⟨m', h1, h2⟩ := h
  have hl := midM_len h1
  have : m'.length ≤ 91 := by rw [hl]; split <;> omega
  rcases h2 with rfl | ⟨_, rfl⟩
  · exact this
  · rw [List.length_set]; exact this
theorem mtail_ev {s : List Int} (hs : RdS s) {p : Int} (p0 : 0 ≤ p) (p1 : p ≤ 1099511000000) (m : List Int) (ok : Bool) (hl : ok = true → m.length = 91) : ∃ r q, (r = m ∨ (ok = true ∧ r = m.set 0 (rd m 1))) ∧ (p ≤ q ∧ q ≤ p + 1) ∧
    Ev (fun k => if ok = true then ((spec_l6Rd_pick.f k s p 20).bind fun b => (if b.1 = 0 then (if 1 < (m.length : Int) then (if 0 < (m.length : Int) then (some ((m.set (0 : Int).toNat (rd m 1)), b.2)) else (none)) else (none)) else (some (m, b.2)))) else (some (m, p))) (r, q) := by
  obtain ⟨a, ha, ea⟩ := pick_ev hs p0 (by omega) (n := 20) (by omega) (by omega)
  cases ok with
  | false => exact ⟨m, p, .inl rfl, by omega, Ev.neg (by decide) (Ev.done rfl)⟩
  | true =>
    have h91 := hl rfl
    by_cases e : a = 0
    · exact ⟨_, p + 1, .inr ⟨rfl, rfl⟩, by omega, Ev.pos rfl (Ev.bind ea (Ev.pos e (Ev.pos (by omega) (Ev.pos (by omega) (Ev.done rfl)))))⟩
    · exact ⟨m, p + 1, .inl rfl, by omega, Ev.pos rfl (Ev.bind ea (Ev.neg e (Ev.done rfl)))⟩
theorem mid_ev {s : List Int} (hs : RdS s) {p : Int} (p0 : 0 ≤ p) (p1 : p ≤ 1099510000000) {t : List Int} (ht : t.length ≤ 81) {m : List Int} (hm : BaseM t m) : ∃ r q, DrawnM t r ∧ (p ≤ q ∧ q ≤ p + 2) ∧ Ev (fun k => spec_l91Move.j0 k t m (sysB t) s p) (r, q) := by
  have hl := hm.len
  have hlok : sysB t = true → m.length = 91 := fun h => by rw [hl, if_pos h]
  have hml : m.length ≤ 1048576 := by rw [hl]; split <;> omega
  obtain ⟨a, ha, ea⟩ := pick_ev hs p0 (by omega) (n := 3) (by omega) (by omega)
  have j1f : ∀ p', 0 ≤ p' → p' ≤ 1099510000005 → ∃ r q, DrawnM t r ∧ (p' ≤ q ∧ q ≤ p' + 1) ∧ Ev (fun k => spec_l91Move.j1 k t m (sysB t) false s p') (r, q) := by
    intro p' q0 q1
    obtain ⟨r, q, hr, hq, e⟩ := mtail_ev hs q0 (by omega) m (sysB t) hlok
    refine ⟨r, q, ⟨m, .inl hm, hr⟩, hq, ?_⟩
    refine Ev.step (fun k => by rw [spec_l91Move.j1]) ?_
    exact Ev.neg (by decide) e
  by_cases hsy : sysB t = true
  case neg =>
    obtain ⟨r, q, hr, hq, e⟩ := j1f p p0 (by omega)
    refine ⟨r, q, hr, by omega, ?_⟩
    refine Ev.step (fun k => by rw [spec_l91Move.j0]) ?_
    exact Ev.neg hsy e
  by_cases ea0 : a = 0
  case neg =>
    obtain ⟨r, q, hr, hq, e⟩ := j1f (p + 1) (by omega) (by omega)
    refine ⟨r, q, hr, by omega, ?_⟩
    refine Ev.step (fun k => by rw [spec_l91Move.j0]) ?_
    refine Ev.pos hsy (Ev.bind ea ?_)
    dsimp only
    rw [beq_eq_false_iff_ne.2 ea0]
    exact e
  -- a stretch by 2 behind it
  have e2 := specStretch_ev t (by omega) 2
  have hR2 : (stretchR t 2).1.length ≤ 1048576 := by
    unfold stretchR
    by_cases h : stretchOk t 2 = true
    · rw [if_pos h]; show (moveL _).length ≤ _; rw [moveL_length]; omega
    · rw [if_neg h]; exact Nat.zero_le _
  have e3 := specTimes_ev (t := t) (m := m) (n := (stretchR t 2).1) (by omega) hml hR2
  have pre : ∀ r, Ev (fun k => if (stretchR t 2).2 = true then (spec_l91Move.j2 k m (sysB t) (timesR t m (stretchR t 2).1).1 (timesR t m (stretchR t 2).1).2 s (p + 1)) else (spec_l91Move.j2 k m (sysB t) (timesR t m (stretchR t 2).1).1 false s (p + 1))) r → Ev (fun k => spec_l91Move.j0 k t m (sysB t) s p) r := by
    intro r h
    refine Ev.step (fun k => by rw [spec_l91Move.j0]) ?_
    refine Ev.pos hsy (Ev.bind ea ?_)
    dsimp only
    rw [beq_iff_eq.2 ea0]
    refine Ev.step (fun k => by rw [spec_l91Move.j1]) ?_
    exact Ev.pos rfl (Ev.bind e2 (Ev.bind e3 h))
  have j2f : ∀ x, ∃ r q, DrawnM t r ∧ (p + 1 ≤ q ∧ q ≤ p + 1 + 1) ∧ Ev (fun k => spec_l91Move.j2 k m (sysB t) x false s (p + 1)) (r, q) := by
    intro x
    obtain ⟨r, q, hr, hq, e⟩ := mtail_ev hs (p := p + 1) (by omega) (by omega) m (sysB t) hlok
    refine ⟨r, q, ⟨m, .inl hm, hr⟩, hq, ?_⟩
    refine Ev.step (fun k => by rw [spec_l91Move.j2]) ?_
    exact Ev.neg (by decide) e
  by_cases hk : stretchOk t 2 = true
  case neg =>
    have eR : stretchR t 2 = ([], false) := if_neg hk
    obtain ⟨r, q, hr, hq, e⟩ := j2f (timesR t m (stretchR t 2).1).1
    refine ⟨r, q, hr, by omega, pre _ (Ev.neg (by rw [eR]; decide) e)⟩
  have eR : stretchR t 2 = (stretchL t 2, true) := if_pos hk
  rw [eR] at pre
  dsimp only at pre
  by_cases hmm : (moveB t m && moveB t (stretchL t 2)) = true
  case neg =>
    have eT : timesR t m (stretchL t 2) = ([], false) := if_neg hmm
    rw [eT] at pre
    obtain ⟨r, q, hr, hq, e⟩ := j2f []
    exact ⟨r, q, hr, by omega, pre _ (Ev.pos rfl e)⟩
  have eT : timesR t m (stretchL t 2) = (behL m (stretchL t 2), true) := if_pos hmm
  rw [eT] at pre
  obtain ⟨r, q, hr, hq, e⟩ := mtail_ev hs (p := p + 1) (by omega) (by omega) (behL m (stretchL t 2)) (sysB t) (fun _ => mapI_length _ _)
  refine ⟨r, q, ⟨_, .inr ⟨m, hm, (Bool.and_eq_true _ _ ▸ hmm : moveB t m = true ∧ _).1, hk, rfl⟩, hr⟩, by omega, pre _ (Ev.pos rfl ?_)⟩
  refine Ev.step (fun k => by rw [spec_l91Move.j2]) ?_
  exact Ev.pos rfl e
theorem move_ev {s : List Int} (hs : RdS s) {p : Int} (p0 : 0 ≤ p) (p1 : p ≤ 1099500000000) {t : List Int} (ht : t.length ≤ 81) : ∃ m q, DrawnM t m ∧ (p ≤ q ∧ q ≤ p + 6) ∧ Ev (fun k => spec_l91Move.f k s p t) (m, q) := by
  obtain ⟨a, ha, ea⟩ := pick_ev hs p0 (by omega) (n := 9) (by omega) (by omega)
  obtain ⟨b, hb, eb⟩ := pick_ev hs (p := p + 1) (by omega) (by omega) (n := 9) (by omega) (by omega)
  obtain ⟨c, hc, ec⟩ := pick_ev hs (p := p + 1 + 1) (by omega) (by omega) (n := 3) (by omega) (by omega)
  obtain ⟨d, hd, ed⟩ := pick_ev hs (p := p + 1 + 1 + 1) (by omega) (by omega) (n := 8) (by omega) (by omega)
  have e1 := specShift_ev t (by omega) a b
  have e2 := specStretch_ev t (by omega) (1 + d)
  have eS : shiftR t a b = (if sysB t = true then (shiftL a b, true) else ([], false)) := by
    unfold shiftR
    rw [isN_iff.2 ha, isN_iff.2 hb]; simp
  have hS : (shiftR t a b).2 = sysB t ∧ BaseM t (shiftR t a b).1 := by
    rw [eS]
    by_cases h : sysB t = true
    · rw [if_pos h, h]; exact ⟨rfl, .inr ⟨h, .inl ⟨a, b, ha, hb, rfl⟩⟩⟩
    · rw [if_neg h]; have h := Bool.eq_false_iff.2 h; rw [h]; exact ⟨rfl, .inl ⟨h, rfl⟩⟩
  have pre : ∀ r, Ev (fun k => if c = 0 then ((spec_l6Rd_pick.f k s (p + 1 + 1 + 1) 8).bind fun bt => ((spec_MoveStretch.f k t (wrap64 (1 + bt.1))).bind fun b2 => (if b2.2 = true then (spec_l91Move.j0 k t b2.1 true s bt.2) else (spec_l91Move.j0 k t (shiftR t a b).1 (shiftR t a b).2 s bt.2)))) else (spec_l91Move.j0 k t (shiftR t a b).1 (shiftR t a b).2 s (p + 1 + 1 + 1))) r → Ev (fun k => spec_l91Move.f k s p t) r := by
    intro r h
    unfold spec_l91Move.f
    exact Ev.bind ea (Ev.bind eb (Ev.bind e1 (Ev.bind ec h)))
  by_cases c0 : c = 0
  · by_cases hk : stretchOk t (1 + d) = true
    · have eR : stretchR t (1 + d) = (stretchL t (1 + d), true) := if_pos hk
      have hsy := stretchOk_sys hk
      obtain ⟨r, q, hr, hq, e⟩ := mid_ev hs (p := p + 1 + 1 + 1 + 1) (by omega) (by omega) ht (m := stretchL t (1 + d)) (.inr ⟨hsy, .inr ⟨_, hk, rfl⟩⟩)
      refine ⟨r, q, hr, by omega, pre _ (Ev.pos c0 (Ev.bind ed ?_))⟩
      dsimp only
      rw [w64 (x := 1 + d) (by omega) (by omega)]
      refine Ev.bind e2 ?_
      rw [eR]
      refine Ev.pos rfl ?_
      rw [hsy] at e
      exact e
    · have eR : stretchR t (1 + d) = ([], false) := if_neg hk
      obtain ⟨r, q, hr, hq, e⟩ := mid_ev hs (p := p + 1 + 1 + 1 + 1) (by omega) (by omega) ht hS.2
      refine ⟨r, q, hr, by omega, pre _ (Ev.pos c0 (Ev.bind ed ?_))⟩
      dsimp only
      rw [w64 (x := 1 + d) (by omega) (by omega)]
      refine Ev.bind e2 ?_
      rw [eR]
      refine Ev.neg (by decide) ?_
      rw [hS.1]
      exact e
  · obtain ⟨r, q, hr, hq, e⟩ := mid_ev hs (p := p + 1 + 1 + 1) (by omega) (by omega) ht hS.2
    refine ⟨r, q, hr, by omega, pre _ (Ev.neg c0 ?_)⟩
    rw [hS.1]
    exact e
theorem moved_ev (l0 : List Int) (hu : ∀ x ∈ l0, (Lit.int .u8 x).wf = true) : ∃ t m, DrawnT t ∧ DrawnM t m ∧ Ev (fun k => spec_l91Moved.f k l0) (t, m) := by
  obtain ⟨s, hs, eo⟩ := open_ev l0 hu
  obtain ⟨t, q, ht, hq, et⟩ := system_ev hs (p := 0) (by omega) (by omega)
  obtain ⟨m, q1, hm, hq1, em⟩ := move_ev hs (p := q) (by omega) (by omega) ht.len
  refine ⟨t, m, ht, hm, ?_⟩
  unfold spec_l91Moved.f
  exact Ev.fix eo (Ev.bind et (Ev.bind em (Ev.done rfl)))

end Go.Proofs.Ytmfijochjkpaaaa.X

namespace Go.Proofs.Ytmfijochjkpaaaa.P
open Go.RowKit Go.Proofs.YtmfijochjkpaaaaW.PrintWords Go.Proofs.YtmfijochjkpaaaaW.PrintLast
set_option linter.unusedVariables false
set_option linter.unusedSimpArgs false

/-! ### spec_MoveLine: function 20 -/
def spec_MoveLine.f (k : Nat) (l0 : List Int) (l1 : List Int) (a2 : Int) : Option (Int × Bool) := (spec_MoveIn.f k l0 l1).bind fun t459 => (if t459 = true then ((spec_l3In.f a2).bind fun t460 => (if t460 = true then ((spec_l5Line.f k l0 l1 a2).bind fun bt461 => (some (bt461.1, bt461.2))) else (some (0, false)))) else (some (0, false)))
set_option maxHeartbeats 8000000 in
set_option maxRecDepth 100000 in
theorem spec_MoveLine.calls (k : Nat) (A0 : Option Addr) (c0 : Nat) (l0 : List Int) (A1 : Option Addr) (c1 : Nat) (l1 : List Int) (a2 : Int) (r1 : Int) (r2 : Bool) (w : World) (hr0 : Kd.C (Kd.int .i64) w A0 l0.length l0) (hc0 : l0.length ≤ c0) (hr1 : Kd.C (Kd.int .i64) w A1 l1.length l1) (hc1 : l1.length ≤ c1) (h : spec_MoveLine.f k l0 l1 a2 = some (r1, r2)) :
  Calls Try.prog 20 #[.slice A0 l0.length c0, .slice A1 l1.length c1, .int .i64 a2] w fun e w' => e = .returned (.tuple #[.int .i64 r1, .bool r2]) ∧ Below w.heap.size w w' := by
 have HR0 := Aside0.mk hr0
 have HC0 := Aside0.mk hc0
 clear hr0 hc0
 have HR1 := Aside0.mk hr1
 have HC1 := Aside0.mk hc1
 clear hr1 hc1
 have HB := Aside0.mk (Below.refl w.heap.size w)
 have H : ((spec_MoveIn.f k l0 l1).bind fun t459 => (if t459 = true then ((spec_l3In.f a2).bind fun t460 => (if t460 = true then ((spec_l5Line.f k l0 l1 a2).bind fun bt461 => (some (bt461.1, bt461.2))) else (some (0, false)))) else (some (0, false)))) = some (r1, r2) := h
 clear h
 replace H := Option.bind_eq_some_iff.mp H
 obtain ⟨t459, A40, H⟩ := H
 replace H : (if t459 = true then ((spec_l3In.f a2).bind fun t460 => (if t460 = true then ((spec_l5Line.f k l0 l1 a2).bind fun bt461 => (some (bt461.1, bt461.2))) else (some (0, false)))) else (some (0, false))) = some (r1, r2) := H
 have A4 := Aside0.mk A40
 clear A40
 by_cases c5 : t459 = true
 ·subst c5
  have H1 : ((spec_l3In.f a2).bind fun t460 => (if t460 = true then ((spec_l5Line.f k l0 l1 a2).bind fun bt461 => (some (bt461.1, bt461.2))) else (some (0, false)))) = some (r1, r2) := by rw [if_pos rfl] at H; exact H
  clear H
  have H := H1
  clear H1
  replace H := Option.bind_eq_some_iff.mp H
  obtain ⟨t460, A60, H⟩ := H
  replace H : (if t460 = true then ((spec_l5Line.f k l0 l1 a2).bind fun bt461 => (some (bt461.1, bt461.2))) else (some (0, false))) = some (r1, r2) := H
  have A6 := Aside0.mk A60
  clear A60
  by_cases c7 : t460 = true
  ·subst c7
   have H1 : ((spec_l5Line.f k l0 l1 a2).bind fun bt461 => (some (bt461.1, bt461.2))) = some (r1, r2) := by rw [if_pos rfl] at H; exact H
   clear H
   have H := H1
   clear H1
   replace H := Option.bind_eq_some_iff.mp H
   obtain ⟨⟨t461, t462⟩, A80, H⟩ := H
   replace H : (some (t461, t462)) = some (r1, r2) := H
   have A8 := Aside0.mk A80
   clear A80
   simp only [Option.some.injEq, Prod.mk.injEq] at H
   obtain ⟨rfl, rfl⟩ := H
   go_enter Try.func20, Try.ntmps20
   go_wp2_with (first | (refine goesL_ (some 10) rfl rfl Try.func71 (by kernel_rfl) rfl #[.slice A0 l0.length c0, .slice A1 l1.length c1] rfl (by (try simp only [List.map_toArray, List.map_cons, List.map_nil]); first | done | rfl | (simp only [List.length_drop, List.length_take]; rfl)) ?_; (with_reducible refine (spec_MoveIn.calls k _ _ l0 _ _ l1 true _ ?side1 ?side2 ?side3 ?side4 A4.out).mono ?_); (case side1 => repeat (first | exact HR0.out | (with_reducible refine Kd.C_alloc ?_ _) | (with_reducible refine Kd.C_drewN ?_ _) | (with_reducible refine Kd.C_drew ?_))); (case side2 => exact HC0.out); (case side3 => repeat (first | exact HR1.out | (with_reducible refine Kd.C_alloc ?_ _) | (with_reducible refine Kd.C_drewN ?_ _) | (with_reducible refine Kd.C_drew ?_))); (case side4 => exact HC1.out); rintro e w9 ⟨rfl, hb⟩; refine ⟨_, rfl, ?_⟩; have n0_ := Aside0.mk (below_step (by repeat (first | (with_reducible first | exact HB.out | apply below_alloc | apply pw_below_drewN | apply below_drew1) | exact HB.out)) hb); clear HB; have HB := n0_; clear n0_; (try clear hb); (try clear hb2); (try clear hk); (try clear hi)) | (go_at_call 63; (with_reducible refine (spec_l3In.calls a2 true _ A6.out).mono ?_); rintro e w' ⟨rfl, ⟨nd, rfl⟩⟩) | (refine goesL_ (some 20) rfl rfl Try.func72 (by kernel_rfl) rfl #[.slice A0 l0.length c0, .slice A1 l1.length c1, .int .i64 a2] rfl (by (try simp only [List.map_toArray, List.map_cons, List.map_nil]); first | done | rfl | (simp only [List.length_drop, List.length_take]; rfl)) ?_; (with_reducible refine (spec_l5Line.calls k _ _ l0 _ _ l1 a2 t461 t462 _ ?side1 ?side2 ?side3 ?side4 A8.out).mono ?_); (case side1 => repeat (first | exact (Kd.C_below HR0.out (by repeat (first | (with_reducible first | exact HB.out | apply below_alloc | apply pw_below_drewN | apply below_drew1) | exact HB.out))) | (with_reducible refine Kd.C_alloc ?_ _) | (with_reducible refine Kd.C_drewN ?_ _) | (with_reducible refine Kd.C_drew ?_))); (case side2 => exact HC0.out); (case side3 => repeat (first | exact (Kd.C_below HR1.out (by repeat (first | (with_reducible first | exact HB.out | apply below_alloc | apply pw_below_drewN | apply below_drew1) | exact HB.out))) | (with_reducible refine Kd.C_alloc ?_ _) | (with_reducible refine Kd.C_drewN ?_ _) | (with_reducible refine Kd.C_drew ?_))); (case side4 => exact HC1.out); rintro e w10 ⟨rfl, hb⟩; refine ⟨_, rfl, ?_⟩; have n0_ := Aside0.mk (below_step (by repeat (first | (with_reducible first | exact HB.out | apply below_alloc | apply pw_below_drewN | apply below_drew1) | exact HB.out)) hb); clear HB; have HB := n0_; clear n0_; (try clear hb); (try clear hb2); (try clear hk); (try clear hi)))
   go_ret2
   exact ⟨by first | rfl | (simp [errW_none, errW_some] <;> rfl) | (simp [*, errW_none, errW_some] <;> rfl), by repeat (first | (with_reducible first | exact HB.out | apply below_alloc | apply pw_below_drewN | apply below_drew1) | exact HB.out)⟩
  ·replace c7 := Bool.eq_false_iff.mpr c7
   subst c7
   have H1 : (some (0, false)) = some (r1, r2) := by rw [if_neg (show ¬ (false = true) by decide)] at H; exact H
   clear H
   have H := H1
   clear H1
   simp only [Option.some.injEq, Prod.mk.injEq] at H
   obtain ⟨rfl, rfl⟩ := H
   go_enter Try.func20, Try.ntmps20
   go_wp2_with (first | (refine goesL_ (some 10) rfl rfl Try.func71 (by kernel_rfl) rfl #[.slice A0 l0.length c0, .slice A1 l1.length c1] rfl (by (try simp only [List.map_toArray, List.map_cons, List.map_nil]); first | done | rfl | (simp only [List.length_drop, List.length_take]; rfl)) ?_; (with_reducible refine (spec_MoveIn.calls k _ _ l0 _ _ l1 true _ ?side1 ?side2 ?side3 ?side4 A4.out).mono ?_); (case side1 => repeat (first | exact HR0.out | (with_reducible refine Kd.C_alloc ?_ _) | (with_reducible refine Kd.C_drewN ?_ _) | (with_reducible refine Kd.C_drew ?_))); (case side2 => exact HC0.out); (case side3 => repeat (first | exact HR1.out | (with_reducible refine Kd.C_alloc ?_ _) | (with_reducible refine Kd.C_drewN ?_ _) | (with_reducible refine Kd.C_drew ?_))); (case side4 => exact HC1.out); rintro e w11 ⟨rfl, hb⟩; refine ⟨_, rfl, ?_⟩; have n0_ := Aside0.mk (below_step (by repeat (first | (with_reducible first | exact HB.out | apply below_alloc | apply pw_below_drewN | apply below_drew1) | exact HB.out)) hb); clear HB; have HB := n0_; clear n0_; (try clear hb); (try clear hb2); (try clear hk); (try clear hi)) | (go_at_call 63; (with_reducible refine (spec_l3In.calls a2 false _ A6.out).mono ?_); rintro e w' ⟨rfl, ⟨nd, rfl⟩⟩))
   go_ret2
   exact ⟨by first | rfl | (simp [errW_none, errW_some] <;> rfl) | (simp [*, errW_none, errW_some] <;> rfl), by repeat (first | (with_reducible first | exact HB.out | apply below_alloc | apply pw_below_drewN | apply below_drew1) | exact HB.out)⟩
 ·replace c5 := Bool.eq_false_iff.mpr c5
  subst c5
  have H1 : (some (0, false)) = some (r1, r2) := by rw [if_neg (show ¬ (false = true) by decide)] at H; exact H
  clear H
  have H := H1
  clear H1
  simp only [Option.some.injEq, Prod.mk.injEq] at H
  obtain ⟨rfl, rfl⟩ := H
  go_enter Try.func20, Try.ntmps20
  go_wp2_with (first | (refine goesL_ (some 10) rfl rfl Try.func71 (by kernel_rfl) rfl #[.slice A0 l0.length c0, .slice A1 l1.length c1] rfl (by (try simp only [List.map_toArray, List.map_cons, List.map_nil]); first | done | rfl | (simp only [List.length_drop, List.length_take]; rfl)) ?_; (with_reducible refine (spec_MoveIn.calls k _ _ l0 _ _ l1 false _ ?side1 ?side2 ?side3 ?side4 A4.out).mono ?_); (case side1 => repeat (first | exact HR0.out | (with_reducible refine Kd.C_alloc ?_ _) | (with_reducible refine Kd.C_drewN ?_ _) | (with_reducible refine Kd.C_drew ?_))); (case side2 => exact HC0.out); (case side3 => repeat (first | exact HR1.out | (with_reducible refine Kd.C_alloc ?_ _) | (with_reducible refine Kd.C_drewN ?_ _) | (with_reducible refine Kd.C_drew ?_))); (case side4 => exact HC1.out); rintro e w12 ⟨rfl, hb⟩; refine ⟨_, rfl, ?_⟩; have n0_ := Aside0.mk (below_step (by repeat (first | (with_reducible first | exact HB.out | apply below_alloc | apply pw_below_drewN | apply below_drew1) | exact HB.out)) hb); clear HB; have HB := n0_; clear n0_; (try clear hb); (try clear hb2); (try clear hk); (try clear hi)))
  go_ret2
  exact ⟨by first | rfl | (simp [errW_none, errW_some] <;> rfl) | (simp [*, errW_none, errW_some] <;> rfl), by repeat (first | (with_reducible first | exact HB.out | apply below_alloc | apply pw_below_drewN | apply below_drew1) | exact HB.out)⟩


end Go.Proofs.Ytmfijochjkpaaaa.P

set_option linter.unusedVariables false
set_option linter.unusedSimpArgs false
namespace Go.Proofs.Ytmfijochjkpaaaa.X
open Go.RowKit Go.Proofs.YtmfijochjkpaaaaW.PrintWords Go.Proofs.YtmfijochjkpaaaaW.PrintLast Go.Proofs.Ytmfijochjkpaaaa.P

def mlineR (t m : List Int) (l : Int) : Int × Bool := if (moveB t m && ptB l) = true then (toLine t m l, true) else (0, false)
theorem specLine_ev {t m : List Int} (ht : t.length ≤ 1048576) (hm : m.length ≤ 1048576) (l : Int) : Ev (fun k => spec_MoveLine.f k t m l) (mlineR t m l) := by
  unfold spec_MoveLine.f mlineR
  refine Ev.bind (MoveIn_ev ht hm) ?_
  by_cases hs : moveB t m = true
  case neg =>
    rw [Bool.eq_false_iff.2 hs]
    exact Ev.neg (by decide) (Ev.done rfl)
  rw [hs]
  refine Ev.pos rfl (Ev.fix (l3In_eq l) ?_)
  by_cases hl : ptB l = true
  case neg =>
    rw [Bool.eq_false_iff.2 hl]
    exact Ev.neg (by decide) (Ev.done rfl)
  rw [hl]
  have hp := moveB_parts hs
  have hl := ptB_iff.1 hl
  refine Ev.pos rfl (Ev.bind (l5Line_ev hp.1 hp.2.1 hl) (Ev.done ?_))
  unfold lineR
  rw [if_pos (hp.2.2 l hl.1 hl.2)]; rfl
theorem implLine_ev {t m : List Int} (hm : m.length ≤ 1048576) (l : Int) : Ev (fun k => impl_MoveLine.f k t m l) (mlineR t m l) := by
  unfold impl_MoveLine.f mlineR
  refine Ev.fix (show impl_isMove.f t m = some (moveB t m) from if_pos hm) ?_
  by_cases hs : moveB t m = true
  case neg =>
    rw [Bool.eq_false_iff.2 hs]
    exact Ev.neg (by decide) (Ev.done rfl)
  rw [hs]
  refine Ev.pos rfl (Ev.fix (isPoint_eq l) ?_)
  by_cases hl : ptB l = true
  case neg =>
    rw [Bool.eq_false_iff.2 hl]
    exact Ev.neg (by decide) (Ev.done rfl)
  rw [hl]
  have hp := moveB_parts hs
  exact Ev.pos rfl (Ev.bind (lineBy_ev hp.1 hp.2.1 (ptB_iff.1 hl)) (Ev.done rfl))

end Go.Proofs.Ytmfijochjkpaaaa.X

set_option linter.unusedVariables false
set_option linter.unusedSimpArgs false
namespace Go.Proofs.Ytmfijochjkpaaaa.X
open Go.RowKit Go.Proofs.YtmfijochjkpaaaaW.PrintWords Go.Proofs.YtmfijochjkpaaaaW.PrintLast Go.Proofs.Ytmfijochjkpaaaa.P

theorem specCentre_l1 {t m : List Int} (h : moveB t m = true) {p : Int} (hp : In91 p) {r : Int} (hr : centreB t m p = false → Ev (fun k => spec_MoveCentre.l0 k t m (p + 1)) r) (hy : centreB t m p = true → r = p) (d : Nat) :
    ∀ (l : Int) (b : Bool), 0 ≤ l → l + d = 91 → (b = true ↔ ∀ q : Int, 0 ≤ q → q < l → onB t p q = true → toLine t m q = q) → Ev (fun k => spec_MoveCentre.l1 k t m p b l) r := by
  obtain ⟨hs, hm, hk⟩ := moveB_parts h
  have hn := (sysB_parts hs).1
  obtain ⟨p0, p1⟩ := hp
  have z : wrap64 (p + 1) = p + 1 := w64 (by omega) (by omega)
  have fin : ∀ (l : Int) (b : Bool), (b = true ↔ centreB t m p = true) → Ev (fun k => spec_MoveCentre.j2 k t m p b l false) r := by
    intro l b hb
    refine Ev.step (fun k => by rw [spec_MoveCentre.j2]) ?_
    refine Ev.neg (by decide) ?_
    rw [z]
    by_cases e : b = true
    · exact Ev.pos e (Ev.done (by rw [hy (hb.1 e)]))
    · exact Ev.neg e (hr (Bool.eq_false_iff.2 fun h => e (hb.2 h)))
  induction d with
  | zero =>
    intro l b h0 h1 h
    refine Ev.step (fun k => by rw [spec_MoveCentre.l1]) ?_
    refine Ev.neg (by omega) (fin l b ?_)
    rw [h, centreB_iff]
    exact ⟨fun h q q0 q1 => h q q0 (by omega), fun h q q0 q1 => h q q0 (by omega)⟩
  | succ d ih =>
    intro l b h0 h1 hb
    refine Ev.step (fun k => by rw [spec_MoveCentre.l1]) ?_
    refine Ev.pos (by omega) ?_
    by_cases e : b = true
    case neg =>
      have : centreB t m p = false := Bool.eq_false_iff.2 fun ha => e (hb.2 fun q q0 q1 => centreB_iff.1 ha q q0 (by omega))
      have e2 := Bool.eq_false_iff.2 e
      rw [e2]
      exact fin l false (by rw [this])
    rw [e]
    refine Ev.step (fun k => by rw [spec_MoveCentre.j2]) ?_
    refine Ev.pos rfl (Ev.fix (l3On_eq hn (p := p) (l := l) ⟨p0, p1⟩ ⟨h0, by omega⟩) ?_)
    rw [w64 (x := l + 1) (by omega) (by omega)]
    by_cases a : onB t p l = true
    · refine Ev.pos a (Ev.bind (l5Line_ev hs hm (l := l) ⟨h0, by omega⟩) (ih (l + 1) _ (by omega) (by omega) ?_))
      have e3 : lineR t m l = (toLine t m l, true) := if_pos (hk l h0 (by omega))
      rw [e3, beq_iff_eq]
      constructor
      · intro hq q q0 q1 ho
        by_cases eq : q = l
        · rw [eq]; exact hq
        · exact (hb.1 e) q q0 (by omega) ho
      · intro hq; exact hq l h0 (by omega) a
    · refine Ev.neg a (ih (l + 1) true (by omega) (by omega) ?_)
      refine ⟨fun _ q q0 q1 ho => ?_, fun _ => rfl⟩
      by_cases eq : q = l
      · rw [eq] at ho; exact absurd ho a
      · exact (hb.1 e) q q0 (by omega) ho
theorem specCentre_l0 {t m : List Int} (h : moveB t m = true) (d : Nat) : ∀ p : Int, 0 ≤ p → p + d = 91 → (∀ j : Int, 0 ≤ j → j < p → centreB t m j = false) → Ev (fun k => spec_MoveCentre.l0 k t m p) (centreI t m) := by
  induction d with
  | zero =>
    intro p h0 h1 hh
    refine Ev.step (fun k => by rw [spec_MoveCentre.l0]) ?_
    refine Ev.neg (by omega) (Ev.done ?_)
    unfold centreI
    rw [firstI_none fun j j0 j1 => hh j j0 (by omega)]
  | succ d ih =>
    intro p h0 h1 hh
    refine Ev.step (fun k => by rw [spec_MoveCentre.l0]) ?_
    refine Ev.pos (by omega) (specCentre_l1 h (p := p) ⟨h0, by omega⟩ (fun hf => ih (p + 1) (by omega) (by omega) fun j j0 j1 => ?_) (fun ht => ?_) 91 0 true (by omega) (by omega) ⟨fun _ q q0 q1 => by omega, fun _ => rfl⟩)
    · by_cases e : j = p
      · rw [e]; exact hf
      · exact hh j j0 (by omega)
    · unfold centreI
      rw [firstI_some p h0 (by omega) ht hh]
theorem specCentre_ev {t m : List Int} (ht : t.length ≤ 1048576) (hl : m.length ≤ 1048576) : Ev (fun k => spec_MoveCentre.f k t m) (centreR t m) := by
  unfold spec_MoveCentre.f centreR
  refine Ev.bind (MoveIn_ev ht hl) ?_
  by_cases hs : moveB t m = true
  · rw [if_pos hs]
    exact Ev.pos hs (specCentre_l0 hs 91 0 (by omega) (by omega) (fun j j0 j1 => by omega))
  · rw [if_neg hs]
    exact Ev.neg hs (Ev.done rfl)

end Go.Proofs.Ytmfijochjkpaaaa.X

set_option linter.unusedVariables false
set_option linter.unusedSimpArgs false
namespace Go.Proofs.Ytmfijochjkpaaaa.X
open Go.RowKit Go.Proofs.YtmfijochjkpaaaaW.PrintWords

theorem two_lines {t : List Int} (h : sysB t = true) {p : Int} (hp : In91 p) : ∃ l k, In91 l ∧ In91 k ∧ l ≠ k ∧ onB t p l = true ∧ onB t p k = true := by
  obtain ⟨z, hz, hzo⟩ := off_ex t (l := 90) ⟨by omega, by omega⟩
  rcases point_cases hp.1 hp.2 with ⟨x, y, x0, x1, y0, y1, rfl⟩ | h81
  · obtain ⟨a0, a1, a2, a3⟩ := joinI_spec h hp.1 hp.2 (by omega : (0 : Int) ≤ 81) (by omega) (by omega)
    obtain ⟨b0, b1, b2, b3⟩ := joinI_spec h hp.1 hp.2 (by omega : (0 : Int) ≤ 82) (by omega) (by omega)
    refine ⟨_, _, ⟨a0, a1⟩, ⟨b0, b1⟩, fun e => ?_, a2, b2⟩
    rw [← e] at b3
    have := join_uniq h (by omega) (by omega) (by omega) (by omega) (by omega : (81 : Int) ≠ 82) a0 a1 (by omega : (0 : Int) ≤ 90) (by omega) a3 b3 (on_inf.2 (by omega)) (on_inf.2 (by omega))
    rw [this] at a2
    have := on_inf.1 a2; omega
  · refine ⟨90, joinI t p 0, ⟨by omega, by omega⟩, ?_, fun e => ?_, on_inf.2 h81, ?_⟩
    · have := joinI_spec h hp.1 hp.2 (by omega : (0 : Int) ≤ 0) (by omega) (by omega : p ≠ 0); exact ⟨this.1, this.2.1⟩
    · have := joinI_spec h hp.1 hp.2 (by omega : (0 : Int) ≤ 0) (by omega) (by omega : p ≠ 0)
      rw [← e] at this
      have := on_inf.1 this.2.2.2; omega
    · exact (joinI_spec h hp.1 hp.2 (by omega : (0 : Int) ≤ 0) (by omega) (by omega : p ≠ 0)).2.2.1
/-- A centre stays. -/
theorem centre_stays {t m : List Int} (h : moveB t m = true) {p : Int} (hp : In91 p) (hc : centreB t m p = true) : rd m p = p := by
  obtain ⟨hs, hm, _⟩ := moveB_parts h
  obtain ⟨l, k, hl, hk, hne, pl, pk⟩ := two_lines hs hp
  have el := centreB_iff.1 hc l hl.1 hl.2 pl
  have ek := centreB_iff.1 hc k hk.1 hk.2 pk
  have ol := toLine_on h hl hp pl
  have ok := toLine_on h hk hp pk
  rw [el] at ol
  rw [ek] at ok
  have hr := perm_rd hm hp
  have e1 := meetI_eq hs hl.1 hl.2 hk.1 hk.2 hne hr.1 hr.2 ol ok
  have e2 := meetI_eq hs hl.1 hl.2 hk.1 hk.2 hne hp.1 hp.2 pl pk
  exact e1.symm.trans e2

end Go.Proofs.Ytmfijochjkpaaaa.X

set_option linter.unusedVariables false
set_option linter.unusedSimpArgs false
namespace Go.Proofs.Ytmfijochjkpaaaa.Pure
open Go.RowKit Go.Proofs.Ytmfijochjkpaaaa.P Go.Proofs.YtmfijochjkpaaaaW.PrintWords Go.Proofs.YtmfijochjkpaaaaW.PrintLast Go.Proofs.Ytmfijochjkpaaaa.X

theorem firstI_yes {n : Nat} {p : Int → Bool} (h : 0 ≤ firstI n p) : firstI n p < n ∧ p (firstI n p) = true := by
  by_cases hx : ∃ i : Int, 0 ≤ i ∧ i < n ∧ p i = true
  · obtain ⟨i, i0, i1, hi⟩ := hx
    have := firstI_spec i i0 i1 hi
    exact ⟨this.2.1, this.2.2.1⟩
  · have : firstI n p = -1 := firstI_none fun i i0 i1 => Bool.eq_false_iff.2 fun hi => hx ⟨i, i0, i1, hi⟩
    omega
theorem linesL_rd {t : List Int} {p i : Int} (h0 : 0 ≤ i) (h1 : i < (linesL t p).length) : In91 (rd (linesL t p) i) ∧ onB t p (rd (linesL t p) i) = true := by
  have hm : rd (linesL t p) i ∈ linesL t p := by rw [rd_getElem h0 h1]; exact List.getElem_mem _
  obtain ⟨a, b, c⟩ := mem_filI.1 hm
  exact ⟨⟨a, by omega⟩, c⟩
theorem centre_l0 {t m : List Int} (h : moveB t m = true) (hml : m.length ≤ 1048576) {p : Int} (hp : In91 p) (hc : centreB t m p = true) (d : Nat) : ∀ i : Int, 0 ≤ i → i + d = (linesL t p).length → Ev (fun k => laws_FnMoveCentre.l0 k t m p (linesL t p) true i) true := by
  obtain ⟨hs, pm, _⟩ := moveB_parts h
  have hlen := permB_len pm
  have hpl : (linesL t p).length ≤ 91 := filI_length_le 91 _
  have hcx := centreB_iff.1 hc
  induction d with
  | zero =>
    intro i h0 h1
    refine Ev.step (fun k => by rw [laws_FnMoveCentre.l0]) ?_
    refine Ev.neg (by omega) (Ev.pos rfl (Ev.pos hp.1 (Ev.pos (by have := hp.2; omega) (Ev.done ?_))))
    rw [centre_stays h hp hc]; simp
  | succ d ih =>
    intro i h0 h1
    have nx := ih (i + 1) (by omega) (by omega)
    obtain ⟨hi, hio⟩ := linesL_rd (t := t) (p := p) (i := i) h0 (by omega)
    have e1 := implLine_ev (t := t) (m := m) hml (rd (linesL t p) i)
    have eR : mlineR t m (rd (linesL t p) i) = (rd (linesL t p) i, true) := by
      unfold mlineR
      rw [h, ptB_iff.2 hi, hcx _ hi.1 hi.2 hio]; rfl
    rw [eR] at e1
    refine Ev.step (fun k => by rw [laws_FnMoveCentre.l0]) ?_
    rw [w64 (x := i + 1) (by omega) (by omega)]
    exact Ev.pos (by omega) (Ev.pos h0 (Ev.bind e1 (Ev.pos rfl (Ev.pos rfl nx))))
theorem FnMoveCentre : laws_FnMoveCentre.Pure := by
  intro l0 _ _ hu
  refine Ev.rounds ?_
  unfold laws_FnMoveCentre.f
  by_cases hb : (l0.length : Int) > 1048576
  · exact Ev.pos hb (Ev.done rfl)
  refine Ev.neg hb ?_
  obtain ⟨t, m, ht, hm, e⟩ := moved_ev l0 hu
  have htl := ht.len
  have hml := hm.len
  refine Ev.bind (Ev.bind e (Ev.done rfl) : Ev (fun k => spec_DrawMoveCentre.f k l0) (t, m)) ?_
  dsimp only
  refine Ev.fix (show impl_MoveCentre.f t m = some (centreR t m) from rfl) (Ev.bind (specCentre_ev (t := t) (m := m) (by omega) (by omega)) (Ev.pos rfl ?_))
  refine Ev.step (fun k => by rw [laws_FnMoveCentre.j0]) ?_
  by_cases hn : centreR t m < 0
  · exact Ev.pos (by simpa using hn) (Ev.done (by simp))
  refine Ev.neg (by simpa using hn) ?_
  have h : moveB t m = true := by
    by_cases h : moveB t m = true
    · exact h
    · exact absurd (show centreR t m < 0 by unfold centreR; rw [if_neg h]; decide) hn
  have eA : centreR t m = centreI t m := if_pos h
  rw [eA] at hn ⊢
  obtain ⟨a1, a2⟩ := firstI_yes (n := 91) (p := centreB t m) (show 0 ≤ centreI t m by omega)
  have hp : In91 (centreI t m) := ⟨by omega, a1⟩
  have eP : impl_PlaneLines.f t (centreI t m) = some (linesL t (centreI t m), true) := by
    unfold impl_PlaneLines.f linesR
    rw [(moveB_parts h).1, ptB_iff.2 hp]; rfl
  refine Ev.fix eP ?_
  exact centre_l0 h (by omega) hp a2 (linesL t (centreI t m)).length 0 (by omega) (by omega)

end Go.Proofs.Ytmfijochjkpaaaa.Pure

namespace Go.Proofs.Ytmfijochjkpaaaa.fnMoveCentre
open Go.ChangeShapes Go.WideShapes Go.ChangeAt Go.RowKit
open Go.ChangeMaps (open_string shut_string)
set_option linter.unusedVariables false
theorem own : ownKnob Try.prog.godebug = none := by kernel_rfl
theorem laidOut : laidOutB Try.prog = true := by kernel_rfl
def IsRow (k : IntKind) (w : World) (a : Option Addr) (len cap : Nat) (zs : List Int) : Prop :=
  (a = none ∧ len = 0 ∧ cap = 0 ∧ zs = []) ∨
  ∃ x, a = some x ∧ len ≤ cap ∧ cap ≤ maxLen ∧ zs.length = cap ∧ (∀ i, i < zs.length → w.cell? (x.add i) = some (.int k (zs.getD i 0))) ∧ ∀ n ∈ zs, (Lit.int k n).wf = true
set_option maxRecDepth 100000 in
theorem lifted (os : Os) (started : os.Started) (H : Type) (enc : TypeId × Value → H) :
    ReturnsInHanded {} Try.checked os 10 .any (Rows.fnMoveCentreSpec.pre6 enc Try.prog Try.f10 Rows.fnMoveCentreRow.domain false) (Rows.fnMoveCentreSpec.post enc Try.prog Try.f10 false true false false) := by
  refine returnsInHanded_of_change_sized (C := Try.checked) own started (by kernel_rfl) Try.func10
    (ChangeSpec.witness6 (enc := enc) (C := Try.checked) false ⟨#[], #[.slice none 0 0], []⟩ 8 (by kernel_rfl) (by kernel_rfl) (by kernel_rfl) (by kernel_rfl)) ?_
  intro W base args ds gs before hval0 hW hcnd hsz0 _
  have hsz : (DataW.weightsEach Try.prog (Try.f10.params.toList ++ Rows.fnMoveCentreSpec.plain.varTypes Try.prog) (ds ++ gs)).all (· ≤ reachBytes) = true := hsz0
  have hval : ∀ (j : Nat) t v, Try.f10.params[j]? = some t → args[j]? = some v → Value.okWide Try.prog W .any base t v := hval0
  have hW' := hW
  obtain ⟨p, q, hA0, hV, rfl, hfz, hnd⟩ := hW
  have hA : DataW.TrodAll enc Try.prog W 0 (fun _ => true) true Try.f10.params.toList args.toList ds p := hA0
  rw [Try.params10] at hA hval hsz
  obtain ⟨v0, vs0, d0, ds0, p0, q0, hargs, rfl, rfl, h0, r0⟩ := trodAll_cons hA
  obtain ⟨rfl, rfl, rfl⟩ := trodAll_nil r0
  obtain rfl : args = #[v0] := by cases args; simp_all
  obtain ⟨rfl, rfl⟩ := trodVars_none hV
  obtain ⟨a0, len0, cap0, rfl⟩ := okWide_slice Try.underlying22 (hval 0 22 v0 rfl rfl)
  have k0 := h0
  have lt0 : ∀ x ∈ p0, x.block < W.heap.size := by obtain ⟨m, hm⟩ := k0; exact DataW.trod_lt m _ _ _ hm
  obtain ⟨z0, w0⟩ : ∃ zs, IsRow .u8 W a0 len0 cap0 zs := by
    obtain ⟨fuel, hf⟩ := h0
    rcases open_ints Try.underlying22 Try.underlying5 (by kernel_rfl) hf with ⟨hcs, _⟩ | ⟨x, l, c, zs, hcs, _, hl, hm, hz, _, hcell, hwz⟩
    · simp [Value.cells] at hcs
      obtain ⟨rfl, rfl, rfl⟩ := hcs
      exact ⟨[], .inl ⟨rfl, rfl, rfl, rfl⟩⟩
    · simp [Value.cells] at hcs
      obtain ⟨rfl, rfl, rfl⟩ := hcs
      exact ⟨zs, .inr ⟨_, rfl, hl, hm, by simpa using hz, hcell, hwz⟩⟩
  have y0 : len0 * 1 ≤ 140737488351232 := Go.Proofs.YtmfijochjkpaaaaW.PrintWords.sized_ints hsz (j := 0) (t := 22) rfl rfl Try.underlying22 Try.underlying5 (by kernel_rfl) (by kernel_rfl) h0
  clear hA0 hval0 hsz0 hsz
  refine (P.laws_FnMoveCentre.walk Pure.FnMoveCentre a0 len0 cap0 z0 W w0 y0).mono fun e W' ⟨he, bel⟩ => ?_
  subst he
  exact ⟨_, rfl, _, _, _, [], _, [], hW', trodAll_mk1 (shut_bool Try.underlying4 _), (trodAll_cons_mk (Below.trod laidOut (by kernel_rfl) (of_decide_eq_true (by kernel_rfl)) k0 bel lt0) trodAll_mk0), rfl, bel.frame _, fun h => by cases h⟩
theorem over : Rows.fnMoveCentreRow.holds Try.pinned (OpenSpec.ofChange Rows.fnMoveCentreSpec) :=
  OpenClaim.holds_of_wide 10 Try.f10 rfl rfl rfl rfl rfl rfl rfl ⟨rfl, rfl, rfl, rfl, rfl⟩ rfl rfl rfl rfl rfl (by kernel_rfl) Try.func10 (by kernel_rfl)
    (of_decide_eq_true (by kernel_rfl)) (by unfold Func.isWrapper; first | (rw [if_pos (by decide +kernel)]; kernel_rfl) | (rw [if_neg (by decide +kernel)]; exact ⟨rfl, rfl⟩))
    (fun os started H enc _ => lifted os started H enc)
theorem proved : Rows.FnMoveCentreSaid := over
#print axioms proved
end Go.Proofs.Ytmfijochjkpaaaa.fnMoveCentre
namespace Go.Proofs.Ytmfijochjkpaaaa
/-- The row, under a short name, for the claim. -/
theorem fnMoveCentre_holds : Rows.FnMoveCentreSaid := fnMoveCentre.proved
end Go.Proofs.Ytmfijochjkpaaaa
