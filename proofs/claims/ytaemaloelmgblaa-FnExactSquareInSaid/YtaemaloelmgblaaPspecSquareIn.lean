/- Written by a program (mprint.py over the kit's print): a Go function of the translation as a Lean function, and its contract: what a call of it comes to. -/
import Derived.Test.YtaemaloelmgblaaPzero
import Derived.Test.YtaemaloelmgblaaPspecl2Table
namespace Go.Proofs.Ytaemaloelmgblaa.P
open Go.RowKit Go.Proofs.YtaemaloelmgblaaW.PrintWords Go.Proofs.YtaemaloelmgblaaW.PrintLast Go.Proofs.YtaemaloelmgblaaW.PrintMore
attribute [local go_sem] max2_int min2_int max_two min_two max_three min_three max_four min_four   -- for this text's walks alone
set_option linter.unusedVariables false
set_option linter.unusedSimpArgs false

/-! ### spec_SquareIn: function 9 -/
mutual
def spec_SquareIn.l0 : Nat → List Int → Int → Option (Bool)
  | 0, _, _ => none
  | k + 1, x0, x3 => if x3 < 9 then (if 9 ≤ 281474976710656 then (spec_SquareIn.l1 k x0 x3 (List.replicate 9 false) (List.replicate 9 false) 0) else (none)) else (some true)
def spec_SquareIn.l1 : Nat → List Int → Int → List Bool → List Bool → Int → Option (Bool)
  | 0, _, _, _, _, _ => none
  | k + 1, x0, x3, x4, x5, x6 => if x6 < 9 then (if 0 ≤ (wrap64 ((wrap64 (9 * x3)) + x6)) then (if (wrap64 ((wrap64 (9 * x3)) + x6)) < (x0.length : Int) then (if 0 ≤ (rd x0 (wrap64 ((wrap64 (9 * x3)) + x6))) then (if (rd x0 (wrap64 ((wrap64 (9 * x3)) + x6))) < (x4.length : Int) then (if rdOf false x4 (rd x0 (wrap64 ((wrap64 (9 * x3)) + x6))) = true then (some false) else (if 0 ≤ (wrap64 ((wrap64 (9 * x6)) + x3)) then (if (wrap64 ((wrap64 (9 * x6)) + x3)) < (x0.length : Int) then (if 0 ≤ (rd x0 (wrap64 ((wrap64 (9 * x6)) + x3))) then (if (rd x0 (wrap64 ((wrap64 (9 * x6)) + x3))) < (x5.length : Int) then (if rdOf false x5 (rd x0 (wrap64 ((wrap64 (9 * x6)) + x3))) = true then (some false) else (spec_SquareIn.l1 k x0 x3 (x4.set ((rd x0 (wrap64 ((wrap64 (9 * x3)) + x6))) : Int).toNat true) (x5.set ((rd x0 (wrap64 ((wrap64 (9 * x6)) + x3))) : Int).toNat true) (wrap64 (x6 + 1)))) else (none)) else (none)) else (none)) else (none))) else (none)) else (none)) else (none)) else (none)) else (spec_SquareIn.l0 k x0 (wrap64 (x3 + 1)))
end
def spec_SquareIn.f (k : Nat) (l0 : List Int) : Option (Bool) := (spec_l2Table.f k l0).bind fun t104 => (if t104 = true then (spec_SquareIn.l0 k l0 0) else (some false))
theorem spec_SquareIn.mono_l : ∀ k, (∀ y0 y1, LeO (spec_SquareIn.l0 k y0 y1) (spec_SquareIn.l0 (k + 1) y0 y1)) ∧ (∀ y0 y1 y2 y3 y4, LeO (spec_SquareIn.l1 k y0 y1 y2 y3 y4) (spec_SquareIn.l1 (k + 1) y0 y1 y2 y3 y4))
  | 0 => ⟨fun _ _ r h => by simp [spec_SquareIn.l0] at h, fun _ _ _ _ _ r h => by simp [spec_SquareIn.l1] at h⟩
  | k + 1 => by
    obtain ⟨ih0, ih1⟩ := spec_SquareIn.mono_l k
    refine ⟨?_, ?_⟩
    · intro y0 y1
      unfold spec_SquareIn.l0
      repeat' first
      | (with_reducible exact ih0 _ _)
      | (with_reducible exact ih1 _ _ _ _ _)
      | (with_reducible exact spec_l2Table.mono _ _)
      | (with_reducible exact LeO.refl _)
      | (with_reducible exact LeO.none _)
      | (with_reducible refine LeO.ite ?_ ?_)
      | (with_reducible refine LeO.bind ?_ (fun _ => ?_))
      | exact ih0 _ _
      | exact ih1 _ _ _ _ _
      | exact spec_l2Table.mono _ _
      | exact LeO.none _
      | refine LeO.ite ?_ ?_
      | refine LeO.bind ?_ (fun _ => ?_)
    · intro y0 y1 y2 y3 y4
      unfold spec_SquareIn.l1
      repeat' first
      | (with_reducible exact ih0 _ _)
      | (with_reducible exact ih1 _ _ _ _ _)
      | (with_reducible exact spec_l2Table.mono _ _)
      | (with_reducible exact LeO.refl _)
      | (with_reducible exact LeO.none _)
      | (with_reducible refine LeO.ite ?_ ?_)
      | (with_reducible refine LeO.bind ?_ (fun _ => ?_))
      | exact ih0 _ _
      | exact ih1 _ _ _ _ _
      | exact spec_l2Table.mono _ _
      | exact LeO.none _
      | refine LeO.ite ?_ ?_
      | refine LeO.bind ?_ (fun _ => ?_)
theorem spec_SquareIn.mono : ∀ a0 k, LeO (spec_SquareIn.f k a0) (spec_SquareIn.f (k + 1) a0) := by
  intro a0 k
  obtain ⟨ih0, ih1⟩ := spec_SquareIn.mono_l k
  unfold spec_SquareIn.f
  repeat' first
      | (with_reducible exact ih0 _ _)
      | (with_reducible exact ih1 _ _ _ _ _)
      | (with_reducible exact spec_l2Table.mono _ _)
      | (with_reducible exact LeO.refl _)
      | (with_reducible exact LeO.none _)
      | (with_reducible refine LeO.ite ?_ ?_)
      | (with_reducible refine LeO.bind ?_ (fun _ => ?_))
      | exact ih0 _ _
      | exact ih1 _ _ _ _ _
      | exact spec_l2Table.mono _ _
      | exact LeO.none _
      | refine LeO.ite ?_ ?_
      | refine LeO.bind ?_ (fun _ => ?_)
set_option maxHeartbeats 8000000 in
set_option maxRecDepth 100000 in
theorem spec_SquareIn.calls (k : Nat) (A0 : Option Addr) (c0 : Nat) (l0 : List Int) (r : Bool) (w : World) (hr0 : Kd.C (Kd.int .i64) w A0 l0.length l0) (hc0 : l0.length ≤ c0) (h : spec_SquareIn.f k l0 = some r) :
    Calls Try.prog 9 #[.slice A0 l0.length c0] w fun e w' => e = .returned (.bool r) ∧ Below w.heap.size w w' := by
  have HR0 := Aside0.mk hr0
  have HC0 := Aside0.mk hc0
  clear hr0 hc0
  have HB := Aside0.mk (Below.refl w.heap.size w)
  have H : ((spec_l2Table.f k l0).bind fun t104 => (if t104 = true then (spec_SquareIn.l0 k l0 0) else (some false))) = some r := h
  clear h
  replace H := Option.bind_eq_some_iff.mp H
  obtain ⟨t104, A20, H⟩ := H
  replace H : (if t104 = true then (spec_SquareIn.l0 k l0 0) else (some false)) = some r := H
  have A2 := Aside0.mk A20
  clear A20
  by_cases c3 : t104 = true
  · subst c3
    have H1 : (spec_SquareIn.l0 k l0 0) = some r := by rw [if_pos rfl] at H; exact H
    clear H
    have H := H1
    clear H1
    have H' := Aside0.mk H
    clear H
    go_enter Try.func9, Try.ntmps9
    go_wp2_with (first | ((with_reducible refine gate_callee (f := 25) rfl ?_); refine goesL_ (some 8) rfl rfl Try.func25 (by kernel_rfl) rfl #[.slice A0 l0.length c0] rfl (by (try simp only [List.map_toArray, List.map_cons, List.map_nil]); first | done | rfl | (simp only [List.length_drop, List.length_take]; rfl)) ?_; (with_reducible refine (spec_l2Table.calls k _ _ l0 true _ ?side1 ?side2 A2.out).mono ?_); (case side1 => repeat (first | exact HR0.out | (with_reducible refine Kd.C_alloc ?_ _) | (with_reducible refine Kd.C_drewN ?_ _) | (with_reducible refine Kd.C_drew ?_))); (case side2 => exact HC0.out); rintro e w' ⟨rfl, ⟨nd, rfl⟩⟩; refine ⟨_, rfl, ?_⟩))
    go_loopg [3] k (fun kq v3 w' => ∃ (x3_1 : Int), v3 = .int .i64 x3_1 ∧ Aside0 (spec_SquareIn.l0 kq l0 x3_1 = some r) ∧ Aside0 (kq ≤ k) ∧ Aside0 (Below w.heap.size w w'))
    case atStart => exact ⟨(0), (by first | rfl | (simp; done) | (simp [*]; done)), H', ⟨Nat.le_refl _⟩, ⟨by repeat (first | (with_reducible first | exact HB.out | apply below_alloc | apply pw_below_drewN | apply below_drew1) | exact HB.out)⟩⟩
    case round =>
      clear H'
      try clear c2
      try clear p2
      try clear c3
      obtain ⟨x3_1, rfl, HA, HK1, HB⟩ := hrel
      cases gk with
      | zero => exact absurd HA.out (by simp [spec_SquareIn.l0])
      | succ k1 =>
        have H := HA.out
        clear HA
        simp only [spec_SquareIn.l0] at H
        by_cases c4 : x3_1 < 9
        · rw [if_pos c4] at H
          have c4b0 : decide (x3_1 < 9) = true := decide_eq_true c4
          clear c4
          by_cases c5 : 9 ≤ 281474976710656
          · rw [if_pos c5] at H
            have c5b0 := eq_true c5
            have c5b1 : decide (9 ≤ 281474976710656) = true := decide_eq_true c5
            clear c5
            obtain ⟨y105, hy105⟩ : ∃ y_ : List Bool, y_ = (List.replicate 9 false) := ⟨_, rfl⟩
            replace H : (spec_SquareIn.l1 k1 l0 x3_1 y105 (List.replicate 9 false) 0) = some r := by first | (rw [hy105]; with_reducible exact H) | (have H2_ := (Option.bind_some _ _).symm.trans H; rw [hy105]; with_reducible exact H2_) | (have H2_ := (Option.bind_some _ _).symm.trans H; with_reducible exact H2_) | with_reducible exact H | (rw [hy105]; exact H) | exact H
            have Ny105 := Aside0.mk hy105
            clear hy105
            obtain ⟨y108, hy108⟩ : ∃ y_ : List Bool, y_ = (List.replicate 9 false) := ⟨_, rfl⟩
            replace H : (spec_SquareIn.l1 k1 l0 x3_1 y105 y108 0) = some r := by first | (rw [hy108]; with_reducible exact H) | (have H2_ := (Option.bind_some _ _).symm.trans H; rw [hy108]; with_reducible exact H2_) | (have H2_ := (Option.bind_some _ _).symm.trans H; with_reducible exact H2_) | with_reducible exact H | (rw [hy108]; exact H) | exact H
            have Ny108 := Aside0.mk hy108
            clear hy108
            have H' := Aside0.mk H
            clear H
            go_wp2_with (first | ((with_reducible refine gate_dst (N := 14) rfl ?_); refine Kd.R_make Kd.bool _ 4 rfl (N := 14) rfl 33 _ _ rfl 9 rfl rfl Try.underlying33 (.bool false) 1 info4 rfl (by decide) (by omega) false (ok := fun _ => True) (okp := fun _ => True) rfl (fun _ hk => hk) trivial (by omega) (by omega) (Below.refl _ _) (Nat.le_refl _) ?_; intro v106 w6 ho7 hb hg_ hnew_; clear hg_ hnew_; (first | rw [← Ny105.out] at ho7 | (simp only [Int.reduceToNat] at ho7; rw [← Ny105.out] at ho7)); have n0_ := Aside0.mk (Kd.R_lower ho7 (below_size (by repeat (first | (with_reducible first | exact HB.out | apply below_alloc | apply pw_below_drewN | apply below_drew1) | exact HB.out)))); have n1_ := Aside0.mk (below_step (by repeat (first | (with_reducible first | exact HB.out | apply below_alloc | apply pw_below_drewN | apply below_drew1) | exact HB.out)) hb); clear HB; have HO107 := n0_; have HB := n1_; clear n0_ n1_; clear hb ho7) | ((with_reducible refine gate_dst (N := 15) rfl ?_); refine Kd.R_make Kd.bool _ 4 rfl (N := 15) rfl 33 _ _ rfl 9 rfl rfl Try.underlying33 (.bool false) 1 info4 rfl (by decide) (by omega) false (ok := fun _ => True) (okp := fun _ => True) rfl (fun _ hk => hk) trivial (by omega) (by omega) (Below.refl _ _) (Nat.le_refl _) ?_; intro v109 w8 ho9 hb hg_ hnew_; clear hg_ hnew_; (first | rw [← Ny108.out] at ho9 | (simp only [Int.reduceToNat] at ho9; rw [← Ny108.out] at ho9)); have n0_ := Aside0.mk (Kd.R_elder' (by (with_reducible repeat (first | apply Kd.R_alloc | apply Kd.R_drewN | apply Kd.R_drew)); exact HO107.out) (Kd.R_base ho9) hb); have n1_ := Aside0.mk (Kd.R_lower (Kd.R_new' ho9 (Kd.R_lt (by (with_reducible repeat (first | apply Kd.R_alloc | apply Kd.R_drewN | apply Kd.R_drew)); exact HO107.out))) (below_size (by repeat (first | (with_reducible first | exact HB.out | apply below_alloc | apply pw_below_drewN | apply below_drew1) | exact HB.out)))); have n2_ := Aside0.mk (below_step (by repeat (first | (with_reducible first | exact HB.out | apply below_alloc | apply pw_below_drewN | apply below_drew1) | exact HB.out)) hb); clear HO107; clear HB; have HO107 := n0_; have HO110 := n1_; have HB := n2_; clear n0_ n1_ n2_; clear hb ho9))
            go_loopg [6] k1 (fun kq v6 w' => ∃ (x4_2 : List Bool) (x5_2 : List Bool) (x6_2 : Int), v6 = .int .i64 x6_2 ∧ Aside0 (spec_SquareIn.l1 kq l0 x3_1 x4_2 x5_2 x6_2 = some r) ∧ Aside0 (kq ≤ k1) ∧ Aside0 (Kd.R Kd.bool 4 w' w.heap.size (fun k_ => some k_ ≠ (v109 : Value).ownBlock) v106 x4_2) ∧ Aside0 (Kd.R Kd.bool 4 w' w.heap.size (fun k_ => some k_ ≠ (v106 : Value).ownBlock) v109 x5_2) ∧ Aside0 (Below w.heap.size w w'))
            case atStart => exact ⟨(y105), (y108), (0), (by first | rfl | (simp; done) | (simp [*]; done)), H', ⟨Nat.le_refl _⟩, ⟨by (with_reducible repeat (first | apply Kd.R_alloc | apply Kd.R_drewN | apply Kd.R_drew)); exact Kd.R_mono HO107.out (fun _ hk => hk.2)⟩, ⟨by (with_reducible repeat (first | apply Kd.R_alloc | apply Kd.R_drewN | apply Kd.R_drew)); exact Kd.R_mono HO110.out (fun _ hk => hk.2)⟩, ⟨by repeat (first | (with_reducible first | exact HB.out | apply below_alloc | apply pw_below_drewN | apply below_drew1) | exact HB.out)⟩⟩
            case round =>
              clear H'
              try clear c2
              try clear p2
              try clear c3
              try clear c4
              try clear c4b0
              try clear c5
              try clear c5b0
              try clear c5b1
              try clear c9
              try clear p2
              obtain ⟨x4_2, x5_2, x6_2, rfl, HA, HK2, HO_4, HO_5, HB⟩ := hrel
              cases gk with
              | zero => exact absurd HA.out (by simp [spec_SquareIn.l1])
              | succ k2 =>
                have H := HA.out
                clear HA
                simp only [spec_SquareIn.l1] at H
                by_cases c10 : x6_2 < 9
                · rw [if_pos c10] at H
                  have c10b0 : decide (x6_2 < 9) = true := decide_eq_true c10
                  clear c10
                  obtain ⟨ji11, hji11⟩ : ∃ j_ : Int, (wrap64 ((wrap64 (9 * x3_1)) + x6_2)) = j_ := ⟨_, rfl⟩
                  replace H : (if 0 ≤ (ji11) then (if (ji11) < (l0.length : Int) then (if 0 ≤ (rd l0 (ji11)) then (if (rd l0 (ji11)) < (x4_2.length : Int) then (if rdOf false x4_2 (rd l0 (ji11)) = true then (some false) else (if 0 ≤ (wrap64 ((wrap64 (9 * x6_2)) + x3_1)) then (if (wrap64 ((wrap64 (9 * x6_2)) + x3_1)) < (l0.length : Int) then (if 0 ≤ (rd l0 (wrap64 ((wrap64 (9 * x6_2)) + x3_1))) then (if (rd l0 (wrap64 ((wrap64 (9 * x6_2)) + x3_1))) < (x5_2.length : Int) then (if rdOf false x5_2 (rd l0 (wrap64 ((wrap64 (9 * x6_2)) + x3_1))) = true then (some false) else (spec_SquareIn.l1 k2 l0 x3_1 (x4_2.set ((rd l0 (ji11)) : Int).toNat true) (x5_2.set ((rd l0 (wrap64 ((wrap64 (9 * x6_2)) + x3_1))) : Int).toNat true) (wrap64 (x6_2 + 1)))) else (none)) else (none)) else (none)) else (none))) else (none)) else (none)) else (none)) else (none)) = some r := by first | (rw [hji11] at H; exact H) | (simp only [hji11] at H ⊢; exact H)
                  have hji11w : (IntKind.i64.wrap ((wrap64 (9 * x3_1)) + x6_2)) = ji11 := (i64_w _).trans hji11
                  by_cases c12 : 0 ≤ (ji11)
                  · rw [if_pos c12] at H
                    have c12b0 : decide (0 ≤ (ji11)) = true := decide_eq_true c12
                    clear c12
                    by_cases c13 : (ji11) < (l0.length : Int)
                    · rw [if_pos c13] at H
                      have c13b0 : decide ((ji11) < (l0.length : Int)) = true := decide_eq_true c13
                      clear c13
                      by_cases c14 : 0 ≤ (rd l0 (ji11))
                      · rw [if_pos c14] at H
                        have c14b0 : decide (0 ≤ (rd l0 (ji11))) = true := decide_eq_true c14
                        clear c14
                        by_cases c15 : (rd l0 (ji11)) < (x4_2.length : Int)
                        · rw [if_pos c15] at H
                          have c15b0 : decide ((rd l0 (ji11)) < (x4_2.length : Int)) = true := decide_eq_true c15
                          clear c15
                          obtain ⟨bq16, hbq16⟩ : ∃ b_ : Bool, b_ = (rdOf false x4_2 (rd l0 (ji11))) := ⟨_, rfl⟩
                          replace H : (if bq16 = true then (some false) else (if 0 ≤ (wrap64 ((wrap64 (9 * x6_2)) + x3_1)) then (if (wrap64 ((wrap64 (9 * x6_2)) + x3_1)) < (l0.length : Int) then (if 0 ≤ (rd l0 (wrap64 ((wrap64 (9 * x6_2)) + x3_1))) then (if (rd l0 (wrap64 ((wrap64 (9 * x6_2)) + x3_1))) < (x5_2.length : Int) then (if rdOf false x5_2 (rd l0 (wrap64 ((wrap64 (9 * x6_2)) + x3_1))) = true then (some false) else (spec_SquareIn.l1 k2 l0 x3_1 (x4_2.set ((rd l0 (ji11)) : Int).toNat true) (x5_2.set ((rd l0 (wrap64 ((wrap64 (9 * x6_2)) + x3_1))) : Int).toNat true) (wrap64 (x6_2 + 1)))) else (none)) else (none)) else (none)) else (none))) = some r := by rw [← hbq16] at H; exact H
                          have Nbq16 := Aside0.mk hbq16
                          clear hbq16
                          by_cases c17 : bq16 = true
                          · subst c17
                            have H1 : (some false) = some r := by rw [if_pos rfl] at H; exact H
                            clear H
                            have H := H1
                            clear H1
                            obtain rfl := Option.some.inj H
                            have p111 : 0 ≤ ((ji11) : Int) := of_decide_eq_true (by first | (with_reducible assumption) | assumption)
                            have q111 : (ji11) < (l0.length : Int) := of_decide_eq_true (by first | (with_reducible assumption) | assumption)
                            obtain ⟨ad111, e111, hx111_0⟩ := Kd.at_int HR0.out (ji11) p111 q111
                            cases e111
                            replace hx111_0 := (HB.out.cell (World.block_lt_of_cell? w _ hx111_0)).trans hx111_0
                            replace p111 := eq_true p111
                            replace q111 := eq_true q111
                            obtain ⟨Ao18, co18, eo18⟩ := Kd.R_slice HO_4.out
                            subst eo18
                            have p112 : 0 ≤ ((rd l0 (ji11)) : Int) := of_decide_eq_true (by first | (with_reducible assumption) | assumption)
                            have q112 : (rd l0 (ji11)) < (x4_2.length : Int) := of_decide_eq_true (by first | (with_reducible assumption) | assumption)
                            obtain ⟨ad112, e112, hx112_0⟩ := Kd.at_bool (Kd.R_reads' HO_4.out).2.2 (rd l0 (ji11)) p112 q112
                            (try rw [← Nbq16.out] at hx112_0)
                            cases e112
                            replace p112 := eq_true p112
                            replace q112 := eq_true q112
                            go_wp2
                            go_ret
                            exact ⟨by first | rfl | (simp [errW_none, errW_some] <;> rfl) | (simp only [← hji11]; first | rfl | (simp [errW_none, errW_some] <;> rfl)) | (simp [*, errW_none, errW_some] <;> rfl), by repeat (first | (with_reducible first | exact HB.out | apply below_alloc | apply pw_below_drewN | apply below_drew1) | exact HB.out)⟩
                          · replace c17 := Bool.eq_false_iff.mpr c17
                            subst c17
                            have H1 : (if 0 ≤ (wrap64 ((wrap64 (9 * x6_2)) + x3_1)) then (if (wrap64 ((wrap64 (9 * x6_2)) + x3_1)) < (l0.length : Int) then (if 0 ≤ (rd l0 (wrap64 ((wrap64 (9 * x6_2)) + x3_1))) then (if (rd l0 (wrap64 ((wrap64 (9 * x6_2)) + x3_1))) < (x5_2.length : Int) then (if rdOf false x5_2 (rd l0 (wrap64 ((wrap64 (9 * x6_2)) + x3_1))) = true then (some false) else (spec_SquareIn.l1 k2 l0 x3_1 (x4_2.set ((rd l0 (ji11)) : Int).toNat true) (x5_2.set ((rd l0 (wrap64 ((wrap64 (9 * x6_2)) + x3_1))) : Int).toNat true) (wrap64 (x6_2 + 1)))) else (none)) else (none)) else (none)) else (none)) = some r := by rw [if_neg (show ¬ (false = true) by decide)] at H; exact H
                            clear H
                            have H := H1
                            clear H1
                            obtain ⟨ji19, hji19⟩ : ∃ j_ : Int, (wrap64 ((wrap64 (9 * x6_2)) + x3_1)) = j_ := ⟨_, rfl⟩
                            replace H : (if 0 ≤ (ji19) then (if (ji19) < (l0.length : Int) then (if 0 ≤ (rd l0 (ji19)) then (if (rd l0 (ji19)) < (x5_2.length : Int) then (if rdOf false x5_2 (rd l0 (ji19)) = true then (some false) else (spec_SquareIn.l1 k2 l0 x3_1 (x4_2.set ((rd l0 (ji11)) : Int).toNat true) (x5_2.set ((rd l0 (ji19)) : Int).toNat true) (wrap64 (x6_2 + 1)))) else (none)) else (none)) else (none)) else (none)) = some r := by first | (rw [hji19] at H; exact H) | (simp only [hji19] at H ⊢; exact H)
                            have hji19w : (IntKind.i64.wrap ((wrap64 (9 * x6_2)) + x3_1)) = ji19 := (i64_w _).trans hji19
                            by_cases c20 : 0 ≤ (ji19)
                            · rw [if_pos c20] at H
                              have c20b0 : decide (0 ≤ (ji19)) = true := decide_eq_true c20
                              clear c20
                              by_cases c21 : (ji19) < (l0.length : Int)
                              · rw [if_pos c21] at H
                                have c21b0 : decide ((ji19) < (l0.length : Int)) = true := decide_eq_true c21
                                clear c21
                                by_cases c22 : 0 ≤ (rd l0 (ji19))
                                · rw [if_pos c22] at H
                                  have c22b0 : decide (0 ≤ (rd l0 (ji19))) = true := decide_eq_true c22
                                  clear c22
                                  by_cases c23 : (rd l0 (ji19)) < (x5_2.length : Int)
                                  · rw [if_pos c23] at H
                                    have c23b0 : decide ((rd l0 (ji19)) < (x5_2.length : Int)) = true := decide_eq_true c23
                                    clear c23
                                    obtain ⟨bq24, hbq24⟩ : ∃ b_ : Bool, b_ = (rdOf false x5_2 (rd l0 (ji19))) := ⟨_, rfl⟩
                                    replace H : (if bq24 = true then (some false) else (spec_SquareIn.l1 k2 l0 x3_1 (x4_2.set ((rd l0 (ji11)) : Int).toNat true) (x5_2.set ((rd l0 (ji19)) : Int).toNat true) (wrap64 (x6_2 + 1)))) = some r := by rw [← hbq24] at H; exact H
                                    have Nbq24 := Aside0.mk hbq24
                                    clear hbq24
                                    by_cases c25 : bq24 = true
                                    · subst c25
                                      have H1 : (some false) = some r := by rw [if_pos rfl] at H; exact H
                                      clear H
                                      have H := H1
                                      clear H1
                                      obtain rfl := Option.some.inj H
                                      have p111 : 0 ≤ ((ji11) : Int) := of_decide_eq_true (by first | (with_reducible assumption) | assumption)
                                      have q111 : (ji11) < (l0.length : Int) := of_decide_eq_true (by first | (with_reducible assumption) | assumption)
                                      obtain ⟨ad111, e111, hx111_0⟩ := Kd.at_int HR0.out (ji11) p111 q111
                                      cases e111
                                      replace hx111_0 := (HB.out.cell (World.block_lt_of_cell? w _ hx111_0)).trans hx111_0
                                      replace p111 := eq_true p111
                                      replace q111 := eq_true q111
                                      obtain ⟨Ao26, co26, eo26⟩ := Kd.R_slice HO_4.out
                                      subst eo26
                                      have p112 : 0 ≤ ((rd l0 (ji11)) : Int) := of_decide_eq_true (by first | (with_reducible assumption) | assumption)
                                      have q112 : (rd l0 (ji11)) < (x4_2.length : Int) := of_decide_eq_true (by first | (with_reducible assumption) | assumption)
                                      obtain ⟨ad112, e112, hx112_0⟩ := Kd.at_bool (Kd.R_reads' HO_4.out).2.2 (rd l0 (ji11)) p112 q112
                                      (try rw [← Nbq16.out] at hx112_0)
                                      (try rw [← Nbq24.out] at hx112_0)
                                      cases e112
                                      replace p112 := eq_true p112
                                      replace q112 := eq_true q112
                                      have p113 : 0 ≤ ((ji19) : Int) := of_decide_eq_true (by first | (with_reducible assumption) | assumption)
                                      have q113 : (ji19) < (l0.length : Int) := of_decide_eq_true (by first | (with_reducible assumption) | assumption)
                                      obtain ⟨ad113, e113, hx113_0⟩ := Kd.at_int HR0.out (ji19) p113 q113
                                      obtain rfl : ad111 = ad113 := (by injection e113)
                                      replace hx113_0 := (HB.out.cell (World.block_lt_of_cell? w _ hx113_0)).trans hx113_0
                                      replace p113 := eq_true p113
                                      replace q113 := eq_true q113
                                      obtain ⟨Ao27, co27, eo27⟩ := Kd.R_slice HO_5.out
                                      subst eo27
                                      have p114 : 0 ≤ ((rd l0 (ji19)) : Int) := of_decide_eq_true (by first | (with_reducible assumption) | assumption)
                                      have q114 : (rd l0 (ji19)) < (x5_2.length : Int) := of_decide_eq_true (by first | (with_reducible assumption) | assumption)
                                      obtain ⟨ad114, e114, hx114_0⟩ := Kd.at_bool (Kd.R_reads' HO_5.out).2.2 (rd l0 (ji19)) p114 q114
                                      (try rw [← Nbq16.out] at hx114_0)
                                      (try rw [← Nbq24.out] at hx114_0)
                                      cases e114
                                      replace p114 := eq_true p114
                                      replace q114 := eq_true q114
                                      go_wp2
                                      go_ret
                                      exact ⟨by first | rfl | (simp [errW_none, errW_some] <;> rfl) | (simp only [← hji11, ← hji19]; first | rfl | (simp [errW_none, errW_some] <;> rfl)) | (simp [*, errW_none, errW_some] <;> rfl), by repeat (first | (with_reducible first | exact HB.out | apply below_alloc | apply pw_below_drewN | apply below_drew1) | exact HB.out)⟩
                                    · replace c25 := Bool.eq_false_iff.mpr c25
                                      subst c25
                                      have H1 : (spec_SquareIn.l1 k2 l0 x3_1 (x4_2.set ((rd l0 (ji11)) : Int).toNat true) (x5_2.set ((rd l0 (ji19)) : Int).toNat true) (wrap64 (x6_2 + 1))) = some r := by rw [if_neg (show ¬ (false = true) by decide)] at H; exact H
                                      clear H
                                      have H := H1
                                      clear H1
                                      obtain ⟨y116, hy116⟩ : ∃ y_ : List Bool, y_ = (x4_2.set ((rd l0 (ji11)) : Int).toNat true) := ⟨_, rfl⟩
                                      replace H : (spec_SquareIn.l1 k2 l0 x3_1 y116 (x5_2.set ((rd l0 (ji19)) : Int).toNat true) (wrap64 (x6_2 + 1))) = some r := by first | (rw [hy116]; with_reducible exact H) | (have H2_ := (Option.bind_some _ _).symm.trans H; rw [hy116]; with_reducible exact H2_) | (have H2_ := (Option.bind_some _ _).symm.trans H; with_reducible exact H2_) | with_reducible exact H | (rw [hy116]; exact H) | exact H
                                      have Ny116 := Aside0.mk hy116
                                      clear hy116
                                      obtain ⟨y118, hy118⟩ : ∃ y_ : List Bool, y_ = (x5_2.set ((rd l0 (ji19)) : Int).toNat true) := ⟨_, rfl⟩
                                      replace H : (spec_SquareIn.l1 k2 l0 x3_1 y116 y118 (wrap64 (x6_2 + 1))) = some r := by first | (rw [hy118]; with_reducible exact H) | (have H2_ := (Option.bind_some _ _).symm.trans H; rw [hy118]; with_reducible exact H2_) | (have H2_ := (Option.bind_some _ _).symm.trans H; with_reducible exact H2_) | with_reducible exact H | (rw [hy118]; exact H) | exact H
                                      have Ny118 := Aside0.mk hy118
                                      clear hy118
                                      have H' := Aside0.mk H
                                      clear H
                                      have p111 : 0 ≤ ((ji11) : Int) := of_decide_eq_true (by first | (with_reducible assumption) | assumption)
                                      have q111 : (ji11) < (l0.length : Int) := of_decide_eq_true (by first | (with_reducible assumption) | assumption)
                                      obtain ⟨ad111, e111, hx111_0⟩ := Kd.at_int HR0.out (ji11) p111 q111
                                      cases e111
                                      replace hx111_0 := (HB.out.cell (World.block_lt_of_cell? w _ hx111_0)).trans hx111_0
                                      replace p111 := eq_true p111
                                      replace q111 := eq_true q111
                                      obtain ⟨Ao30, co30, eo30⟩ := Kd.R_slice HO_4.out
                                      subst eo30
                                      have p112 : 0 ≤ ((rd l0 (ji11)) : Int) := of_decide_eq_true (by first | (with_reducible assumption) | assumption)
                                      have q112 : (rd l0 (ji11)) < (x4_2.length : Int) := of_decide_eq_true (by first | (with_reducible assumption) | assumption)
                                      obtain ⟨ad112, e112, hx112_0⟩ := Kd.at_bool (Kd.R_reads' HO_4.out).2.2 (rd l0 (ji11)) p112 q112
                                      (try rw [← Nbq16.out] at hx112_0)
                                      (try rw [← Nbq24.out] at hx112_0)
                                      cases e112
                                      replace p112 := eq_true p112
                                      replace q112 := eq_true q112
                                      have p113 : 0 ≤ ((ji19) : Int) := of_decide_eq_true (by first | (with_reducible assumption) | assumption)
                                      have q113 : (ji19) < (l0.length : Int) := of_decide_eq_true (by first | (with_reducible assumption) | assumption)
                                      obtain ⟨ad113, e113, hx113_0⟩ := Kd.at_int HR0.out (ji19) p113 q113
                                      obtain rfl : ad111 = ad113 := (by injection e113)
                                      replace hx113_0 := (HB.out.cell (World.block_lt_of_cell? w _ hx113_0)).trans hx113_0
                                      replace p113 := eq_true p113
                                      replace q113 := eq_true q113
                                      obtain ⟨Ao31, co31, eo31⟩ := Kd.R_slice HO_5.out
                                      subst eo31
                                      have p114 : 0 ≤ ((rd l0 (ji19)) : Int) := of_decide_eq_true (by first | (with_reducible assumption) | assumption)
                                      have q114 : (rd l0 (ji19)) < (x5_2.length : Int) := of_decide_eq_true (by first | (with_reducible assumption) | assumption)
                                      obtain ⟨ad114, e114, hx114_0⟩ := Kd.at_bool (Kd.R_reads' HO_5.out).2.2 (rd l0 (ji19)) p114 q114
                                      (try rw [← Nbq16.out] at hx114_0)
                                      (try rw [← Nbq24.out] at hx114_0)
                                      cases e114
                                      replace p114 := eq_true p114
                                      replace q114 := eq_true q114
                                      have p115 : 0 ≤ ((ji11) : Int) := of_decide_eq_true (by first | (with_reducible assumption) | assumption)
                                      have q115 : (ji11) < (l0.length : Int) := of_decide_eq_true (by first | (with_reducible assumption) | assumption)
                                      obtain ⟨ad115, e115, hx115_0⟩ := Kd.at_int HR0.out (ji11) p115 q115
                                      obtain rfl : ad111 = ad115 := (by injection e115)
                                      replace hx115_0 := (HB.out.cell (World.block_lt_of_cell? w _ hx115_0)).trans hx115_0
                                      replace p115 := eq_true p115
                                      replace q115 := eq_true q115
                                      have p28 : 0 ≤ ((rd l0 (ji11)) : Int) := of_decide_eq_true (by first | (with_reducible assumption) | assumption)
                                      have q28 : ((rd l0 (ji11)) : Int) < ((x4_2.length : Int) : Int) := of_decide_eq_true (by first | (with_reducible assumption) | assumption)
                                      obtain ⟨go28, co28, eo28, gb28, gl28, cl28, HG28⟩ := Kd.R_form HO_4.out (by omega)
                                      (first | cases eo28 | (injection eo28 with ea_ en_ ec_; (first | subst ea_ | (injection ea_ with ea_; subst ea_)); subst ec_; clear en_))
                                      have GB28 := Aside0.mk gb28
                                      have GG28 := Aside0.mk HG28
                                      clear gb28 gl28 HG28
                                      (first | simp only [add_plain] at hx112_0 | skip)
                                      obtain ⟨hx28_0, hf28_0⟩ := Kd.R_celln false HO_4.out ((rd l0 (ji11)) : Int) p28 q28
                                      replace p28 := eq_true p28
                                      replace q28 := eq_true q28
                                      have HP32 := Kd.R_putg HO_4.out ((rd l0 (ji11)) : Int) true
                                      go_wp2_with (first | ((with_reducible refine gate_store (t := 4) (p := 50) rfl ?_); refine store_event (t := 4) (p := 50) (v := ?vo_w33) (w1 := (wr.setCell ⟨go28, ((rd l0 (ji11)) : Int).toNat, none⟩ (.bool true))) ?hg ?ho ?hn ?hr ?_; (case ho => rfl); (case hg => rfl); (case hn => rfl); (case hr => first | (go_simp; done) | (go_simp; rfl)); intro w33 hw; have hg : wr.grownBy w33 (some go28) := (by rw [hw]; exact HP32.2); have hp_ : Kd.R Kd.bool 4 w33 w.heap.size (fun k_ => some k_ ≠ (.slice (some ad114) x5_2.length co31 : Value).ownBlock) (.slice (some ⟨go28, 0, none⟩) x4_2.length co30) y116 := (by rw [hw, Ny116.out]; exact HP32.1); clear HP32; have n0_ := Aside0.mk (hp_); have n1_ := Aside0.mk (Kd.R_after (v := (.slice (some ⟨go28, 0, none⟩) x4_2.length co30)) (v1 := (.slice (some ⟨go28, 0, none⟩) x4_2.length co30)) (ok := (fun _ => True)) (by (with_reducible repeat (first | apply Kd.R_alloc | apply Kd.R_drewN | apply Kd.R_drew)); exact Kd.R_mono HO_5.out (fun _ hk => ⟨trivial, hk⟩)) hg (.inl rfl)); have n2_ := Aside0.mk ((by rw [hw]; exact below_set (HB.out) GB28.out : Below w.heap.size w w33)); clear HO_4; clear HO_5; clear HB; have HO_4 := n0_; have HO_5 := n1_; have HB := n2_; clear n0_ n1_ n2_; clear hg hw hp_; have p117 : 0 ≤ ((ji19) : Int) := of_decide_eq_true (by first | (with_reducible assumption) | assumption); have q117 : (ji19) < (l0.length : Int) := of_decide_eq_true (by first | (with_reducible assumption) | assumption); obtain ⟨ad117, e117, hx117_0⟩ := Kd.at_int HR0.out (ji19) p117 q117; obtain rfl : ad111 = ad117 := (by injection e117); replace hx117_0 := (HB.out.cell (World.block_lt_of_cell? w _ hx117_0)).trans hx117_0; replace p117 := eq_true p117; replace q117 := eq_true q117; have p29 : 0 ≤ ((rd l0 (ji19)) : Int) := of_decide_eq_true (by first | (with_reducible assumption) | assumption); have q29 : ((rd l0 (ji19)) : Int) < ((x5_2.length : Int) : Int) := of_decide_eq_true (by first | (with_reducible assumption) | assumption); obtain ⟨go29, co29, eo29, gb29, gl29, cl29, HG29⟩ := Kd.R_form HO_5.out (by omega); (first | cases eo29 | (injection eo29 with ea_ en_ ec_; (first | subst ea_ | (injection ea_ with ea_; subst ea_)); subst ec_; clear en_)); have GB29 := Aside0.mk gb29; have GG29 := Aside0.mk HG29; clear gb29 gl29 HG29; (first | simp only [add_plain] at hx114_0 | skip); obtain ⟨hx29_0, hf29_0⟩ := Kd.R_celln false HO_5.out ((rd l0 (ji19)) : Int) p29 q29; replace p29 := eq_true p29; replace q29 := eq_true q29; have n_ := Aside0.mk (Kd.R_mono (ok' := (fun k_ => some k_ ≠ (.slice (some ⟨go28, 0, none⟩) x4_2.length co30 : Value).ownBlock)) HO_5.out (fun k_ hk => hk.2)); clear HO_5; have HO_5 := n_; clear n_; obtain ⟨hy34_, hz34_⟩ := Kd.R_celln false HO_5.out ((rd l0 (ji19)) : Int) (of_decide_eq_true (by first | (with_reducible assumption) | assumption)) (of_decide_eq_true (by first | (with_reducible assumption) | assumption)); have HP34 := Kd.R_putg HO_5.out ((rd l0 (ji19)) : Int) true) | ((with_reducible refine gate_store (t := 4) (p := 59) rfl ?_); refine store_event (t := 4) (p := 59) (v := ?vo_w35) (w1 := (w33.setCell ⟨go29, ((rd l0 (ji19)) : Int).toNat, none⟩ (.bool true))) ?hg ?ho ?hn ?hr ?_; (case ho => rfl); (case hg => rfl); (case hn => rfl); (case hr => first | (go_simp; done) | (go_simp; rfl)); intro w35 hw; have hg : w33.grownBy w35 (some go29) := (by rw [hw]; exact HP34.2); have hp_ : Kd.R Kd.bool 4 w35 w.heap.size (fun k_ => some k_ ≠ (.slice (some ⟨go28, 0, none⟩) x4_2.length co30 : Value).ownBlock) (.slice (some ⟨go29, 0, none⟩) x5_2.length co31) y118 := (by rw [hw, Ny118.out]; exact HP34.1); clear HP34; have n0_ := Aside0.mk (Kd.R_after (v := (.slice (some ⟨go29, 0, none⟩) x5_2.length co31)) (v1 := (.slice (some ⟨go29, 0, none⟩) x5_2.length co31)) (ok := (fun _ => True)) (by (with_reducible repeat (first | apply Kd.R_alloc | apply Kd.R_drewN | apply Kd.R_drew)); exact Kd.R_mono HO_4.out (fun _ hk => ⟨trivial, hk⟩)) hg (.inl rfl)); have n1_ := Aside0.mk (hp_); have n2_ := Aside0.mk ((by rw [hw]; exact below_set (HB.out) GB29.out : Below w.heap.size w w35)); clear HO_4; clear HO_5; clear HB; have HO_4 := n0_; have HO_5 := n1_; have HB := n2_; clear n0_ n1_ n2_; clear hg hw hp_))
                                      go_roundg k2
                                      case measure => have := HK1.out; have := HK2.out; omega
                                      case rel => exact ⟨(y116), (y118), (wrap64 (x6_2 + 1)), (by first | rfl | (simp; done) | (simp [*]; done)), H', ⟨by have := HK1.out; have := HK2.out; omega⟩, ⟨by (with_reducible repeat (first | apply Kd.R_alloc | apply Kd.R_drewN | apply Kd.R_drew)); exact Kd.R_mono HO_4.out (fun _ hk => hk.2)⟩, ⟨by (with_reducible repeat (first | apply Kd.R_alloc | apply Kd.R_drewN | apply Kd.R_drew)); exact HO_5.out⟩, ⟨by repeat (first | (with_reducible first | exact HB.out | apply below_alloc | apply pw_below_drewN | apply below_drew1) | exact HB.out)⟩⟩
                                  · rw [if_neg c23] at H
                                    exact absurd H (by simp)
                                · rw [if_neg c22] at H
                                  exact absurd H (by simp)
                              · rw [if_neg c21] at H
                                exact absurd H (by simp)
                            · rw [if_neg c20] at H
                              exact absurd H (by simp)
                        · rw [if_neg c15] at H
                          exact absurd H (by simp)
                      · rw [if_neg c14] at H
                        exact absurd H (by simp)
                    · rw [if_neg c13] at H
                      exact absurd H (by simp)
                  · rw [if_neg c12] at H
                    exact absurd H (by simp)
                · rw [if_neg c10] at H
                  have c10b0 : decide (x6_2 < 9) = false := decide_eq_false c10
                  clear c10
                  have H' := Aside0.mk H
                  clear H
                  go_wp2
                  go_roundg k2
                  case measure => have := HK1.out; have := HK2.out; omega
                  case rel => exact ⟨(wrap64 (x3_1 + 1)), (by first | rfl | (simp; done) | (simp [*]; done)), H', ⟨by have := HK1.out; have := HK2.out; omega⟩, ⟨by repeat (first | (with_reducible first | exact HB.out | apply below_alloc | apply pw_below_drewN | apply below_drew1) | exact HB.out)⟩⟩
          · rw [if_neg c5] at H
            exact absurd H (by simp)
        · rw [if_neg c4] at H
          have c4b0 : decide (x3_1 < 9) = false := decide_eq_false c4
          clear c4
          obtain rfl := Option.some.inj H
          go_wp2
          go_ret
          exact ⟨by first | rfl | (simp [errW_none, errW_some] <;> rfl) | (simp [*, errW_none, errW_some] <;> rfl), by repeat (first | (with_reducible first | exact HB.out | apply below_alloc | apply pw_below_drewN | apply below_drew1) | exact HB.out)⟩
  · replace c3 := Bool.eq_false_iff.mpr c3
    subst c3
    have H1 : (some false) = some r := by rw [if_neg (show ¬ (false = true) by decide)] at H; exact H
    clear H
    have H := H1
    clear H1
    obtain rfl := Option.some.inj H
    go_enter Try.func9, Try.ntmps9
    go_wp2_with (first | ((with_reducible refine gate_callee (f := 25) rfl ?_); refine goesL_ (some 8) rfl rfl Try.func25 (by kernel_rfl) rfl #[.slice A0 l0.length c0] rfl (by (try simp only [List.map_toArray, List.map_cons, List.map_nil]); first | done | rfl | (simp only [List.length_drop, List.length_take]; rfl)) ?_; (with_reducible refine (spec_l2Table.calls k _ _ l0 false _ ?side1 ?side2 A2.out).mono ?_); (case side1 => repeat (first | exact HR0.out | (with_reducible refine Kd.C_alloc ?_ _) | (with_reducible refine Kd.C_drewN ?_ _) | (with_reducible refine Kd.C_drew ?_))); (case side2 => exact HC0.out); rintro e w' ⟨rfl, ⟨nd, rfl⟩⟩; refine ⟨_, rfl, ?_⟩))
    go_ret
    exact ⟨by first | rfl | (simp [errW_none, errW_some] <;> rfl) | (simp [*, errW_none, errW_some] <;> rfl), by repeat (first | (with_reducible first | exact HB.out | apply below_alloc | apply pw_below_drewN | apply below_drew1) | exact HB.out)⟩

end Go.Proofs.Ytaemaloelmgblaa.P
