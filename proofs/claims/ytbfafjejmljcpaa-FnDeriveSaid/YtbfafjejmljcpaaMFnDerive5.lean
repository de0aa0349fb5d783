/- The law FnDerive of the given program: for every input the call returns true, and each argument reads afterwards as it read before. No conditions. (Part 6 of 6; the last part holds the theorem.) -/
import Derived.Test.YtbfafjejmljcpaaMFnDerive0
import Derived.Test.YtbfafjejmljcpaaMFnDerive1
import Derived.Test.YtbfafjejmljcpaaMFnDerive3
import Derived.Test.YtbfafjejmljcpaaMFnDerive2
import Derived.Test.YtbfafjejmljcpaaMFnDerive4
import Derived.SizedLaws
import Derived.ChangeSlices
import Derived.Test.YtbfafjejmljcpaaRows
import Derived.WalkKit
import Derived.ProofKit
import Derived.OpenShut
import Derived.ShutString
import Derived.ChangeOld
import Derived.Below
namespace Go.Proofs.Ytbfafjejmljcpaa.P
open Go.RowKit Go.Proofs.YtbfafjejmljcpaaW.PrintWords Go.Proofs.YtbfafjejmljcpaaW.PrintLast
set_option linter.unusedVariables false
set_option linter.unusedSimpArgs false

def laws_FnDerive.j0 : Nat → List (List Int) → List (List Int) → Bool → List (List Int) → Bool → Bool → Option (Bool)
 | 0, _, _, _, _, _, _ => none
 | k + 1, x3, x4, x5, x6, x7, x39 => if x39 = true then (if (x5 == x7) = true then ((laws_sameRows.f k x4 x6).bind fun t990 => (some t990)) else (some false)) else ((impl_SpreadSame.f k x3 x4).bind fun bt991 => ((impl_SpreadDerive.f x4).bind fun bt993 => (if bt991.2 = true then (if bt991.1 = 6 then (if bt993.2 = true then (some false) else ((impl_SpreadIn.f x4).bind fun t997 => (some t997))) else (some false)) else (some false))))
def laws_FnDerive.f (k : Nat) (l0 : List Int) : Option (Bool) := if (l0.length : Int) > 1048576 then (some true) else ((spec_DrawSpreadDerive.f k l0).bind fun t978 => ((impl_SpreadDerive.f t978).bind fun bt981 => ((spec_SpreadDerive.f k t978).bind fun bt985 => (if (bt981.2 != bt985.2) = true then (laws_FnDerive.j0 k t978 bt981.1 bt981.2 bt985.1 bt985.2 true) else ((laws_sameRows.f k bt981.1 bt985.1).bind fun t989 => (if t989 = true then (laws_FnDerive.j0 k t978 bt981.1 bt981.2 bt985.1 bt985.2 (!bt981.2)) else (laws_FnDerive.j0 k t978 bt981.1 bt981.2 bt985.1 bt985.2 true)))))))
set_option maxHeartbeats 8000000 in
set_option maxRecDepth 100000 in
theorem laws_FnDerive.calls (k : Nat) (A0 : Option Addr) (c0 : Nat) (l0 : List Int) (r : Bool) (w : World) (hr0 : Kd.C (Kd.int .u8) w A0 l0.length l0) (hc0 : l0.length ≤ c0) (h : laws_FnDerive.f k l0 = some r) :
  Calls Try.prog 10 #[.slice A0 l0.length c0] w fun e w' => e = .returned (.bool r) ∧ Below w.heap.size w w' := by
 have HR0 := Aside0.mk hr0
 have HC0 := Aside0.mk hc0
 clear hr0 hc0
 have HB := Aside0.mk (Below.refl w.heap.size w)
 have H : (if (l0.length : Int) > 1048576 then (some true) else ((spec_DrawSpreadDerive.f k l0).bind fun t978 => ((impl_SpreadDerive.f t978).bind fun bt981 => ((spec_SpreadDerive.f k t978).bind fun bt985 => (if (bt981.2 != bt985.2) = true then (laws_FnDerive.j0 k t978 bt981.1 bt981.2 bt985.1 bt985.2 true) else ((laws_sameRows.f k bt981.1 bt985.1).bind fun t989 => (if t989 = true then (laws_FnDerive.j0 k t978 bt981.1 bt981.2 bt985.1 bt985.2 (!bt981.2)) else (laws_FnDerive.j0 k t978 bt981.1 bt981.2 bt985.1 bt985.2 true)))))))) = some r := h
 clear h
 by_cases c2 : (l0.length : Int) > 1048576
 ·rw [if_pos c2] at H
  have c2b0 : decide (1048576 < (l0.length : Int)) = true := decide_eq_true c2
  have c2b1 : decide (1048576 < l0.length) = true := decide_eq_true (by omega)
  clear c2
  obtain rfl := Option.some.inj H
  go_enter Try.func10, Try.ntmps10
  go_wp2
  go_ret
  exact ⟨ee_, bb_ HB⟩
 ·rw [if_neg c2] at H
  have c2b0 : decide (1048576 < (l0.length : Int)) = false := decide_eq_false c2
  have c2b1 : decide (1048576 < l0.length) = false := decide_eq_false (by omega)
  clear c2
  replace H := Option.bind_eq_some_iff.mp H
  obtain ⟨t978, A30, H⟩ := H
  replace H : ((impl_SpreadDerive.f t978).bind fun bt981 => ((spec_SpreadDerive.f k t978).bind fun bt985 => (if (bt981.2 != bt985.2) = true then (laws_FnDerive.j0 k t978 bt981.1 bt981.2 bt985.1 bt985.2 true) else ((laws_sameRows.f k bt981.1 bt985.1).bind fun t989 => (if t989 = true then (laws_FnDerive.j0 k t978 bt981.1 bt981.2 bt985.1 bt985.2 (!bt981.2)) else (laws_FnDerive.j0 k t978 bt981.1 bt981.2 bt985.1 bt985.2 true)))))) = some r := H
  have A3 := Aside0.mk A30
  clear A30
  replace H := Option.bind_eq_some_iff.mp H
  obtain ⟨⟨t981, t984⟩, A40, H⟩ := H
  replace H : ((spec_SpreadDerive.f k t978).bind fun bt985 => (if (t984 != bt985.2) = true then (laws_FnDerive.j0 k t978 t981 t984 bt985.1 bt985.2 true) else ((laws_sameRows.f k t981 bt985.1).bind fun t989 => (if t989 = true then (laws_FnDerive.j0 k t978 t981 t984 bt985.1 bt985.2 (!t984)) else (laws_FnDerive.j0 k t978 t981 t984 bt985.1 bt985.2 true))))) = some r := H
  have A4 := Aside0.mk A40
  clear A40
  replace H := Option.bind_eq_some_iff.mp H
  obtain ⟨⟨t985, t988⟩, A50, H⟩ := H
  replace H : (if (t984 != t988) = true then (laws_FnDerive.j0 k t978 t981 t984 t985 t988 true) else ((laws_sameRows.f k t981 t985).bind fun t989 => (if t989 = true then (laws_FnDerive.j0 k t978 t981 t984 t985 t988 (!t984)) else (laws_FnDerive.j0 k t978 t981 t984 t985 t988 true)))) = some r := H
  have A5 := Aside0.mk A50
  clear A50
  have HC6 := Aside0.mk H
  clear H
  go_enter Try.func10, Try.ntmps10
  go_upto_region 6 with (first | (refine goesL_ (some 16) rfl rfl Try.func42 (by kernel_rfl) rfl #[.slice A0 l0.length c0] rfl ll_ ?_; (with_reducible refine (spec_DrawSpreadDerive.calls k _ _ l0 t978 _ ?side1 ?side2 A3.out).mono ?_); (case side1 => exact ss_ HR0); (case side2 => exact HC0.out); rintro e w7 ⟨v979, rfl, ho0, hb⟩; refine ⟨_, rfl, ?_⟩; have n0_ := Aside0.mk (Kd.N_lower (Kd.N_mono (ok' := fun k_ => True) ho0 (fun k_ hk_ => trivial)) (below_size (bb_ HB))); have n1_ := Aside0.mk (below_step (bb_ HB) hb); clear HB; have HO980 := n0_; have HB := n1_; clear n0_ n1_; (try clear hb); (try clear hb2); (try clear hk); (try clear hi); (try clear ho0); obtain ⟨Ao8, co8, eo8⟩ := Kd.N_slice HO980.out; subst eo8) | (refine goesL_ (some 19) rfl rfl Try.func41 (by kernel_rfl) rfl #[.slice Ao8 t978.length co8] rfl ll_ ?_; (with_reducible refine (impl_SpreadDerive.calls _ _ t978 t981 t984 _ ?side1 ?side2 A4.out).mono ?_); (case side1 => repeat (first | exact (Kd.N_reads' HO980.out).2.2 | (with_reducible refine Kd.C_alloc ?_ _) | (with_reducible refine Kd.C_drewN ?_ _) | (with_reducible refine Kd.C_drew ?_))); (case side2 => exact (Kd.N_reads' HO980.out).2.1); rintro e w9 ⟨v982, rfl, ho0, hb⟩; refine ⟨_, rfl, ?_⟩; have n0_ := Aside0.mk (Kd.N_elder' (by (with_reducible repeat (first | apply Kd.N_alloc | apply Kd.N_drewN | apply Kd.N_drew)); exact HO980.out) (Kd.N_base ho0) hb); have n1_ := Aside0.mk (Kd.N_lower (Kd.N_mono (ok' := fun k_ => some k_ ≠ (.slice Ao8 t978.length co8 : Value).ownBlock) ho0 (fun k_ hk_ => (Kd.fresh' (Kd.N_lt (by (with_reducible repeat (first | apply Kd.N_alloc | apply Kd.N_drewN | apply Kd.N_drew)); exact HO980.out)) k_ hk_))) (below_size (bb_ HB))); have n2_ := Aside0.mk (below_step (bb_ HB) hb); clear HO980; clear HB; have HO980 := n0_; have HO983 := n1_; have HB := n2_; clear n0_ n1_ n2_; (try clear hb); (try clear hb2); (try clear hk); (try clear hi); (try clear ho0)) | (refine goesL_ (some 24) rfl rfl Try.func39 (by kernel_rfl) rfl #[.slice Ao8 t978.length co8] rfl ll_ ?_; (with_reducible refine (spec_SpreadDerive.calls k _ _ t978 t985 t988 _ ?side1 ?side2 A5.out).mono ?_); (case side1 => repeat (first | exact (Kd.N_reads' HO980.out).2.2 | (with_reducible refine Kd.C_alloc ?_ _) | (with_reducible refine Kd.C_drewN ?_ _) | (with_reducible refine Kd.C_drew ?_))); (case side2 => exact (Kd.N_reads' HO980.out).2.1); rintro e w10 ⟨v986, rfl, ho0, hb⟩; refine ⟨_, rfl, ?_⟩; have n0_ := Aside0.mk (Kd.N_elder' (by (with_reducible repeat (first | apply Kd.N_alloc | apply Kd.N_drewN | apply Kd.N_drew)); exact HO980.out) (Kd.N_base ho0) hb); have n1_ := Aside0.mk (Kd.N_elder' (by (with_reducible repeat (first | apply Kd.N_alloc | apply Kd.N_drewN | apply Kd.N_drew)); exact HO983.out) (Kd.N_base ho0) hb); have n2_ := Aside0.mk (Kd.N_lower (Kd.N_mono (ok' := fun k_ => some k_ ≠ (.slice Ao8 t978.length co8 : Value).ownBlock ∧ some k_ ≠ (v982 : Value).ownBlock) ho0 (fun k_ hk_ => ⟨(Kd.fresh' (Kd.N_lt (by (with_reducible repeat (first | apply Kd.N_alloc | apply Kd.N_drewN | apply Kd.N_drew)); exact HO980.out)) k_ hk_), (Kd.fresh' (Kd.N_lt (by (with_reducible repeat (first | apply Kd.N_alloc | apply Kd.N_drewN | apply Kd.N_drew)); exact HO983.out)) k_ hk_)⟩)) (below_size (bb_ HB))); have n3_ := Aside0.mk (below_step (bb_ HB) hb); clear HO980; clear HO983; clear HB; have HO980 := n0_; have HO983 := n1_; have HO987 := n2_; have HB := n3_; clear n0_ n1_ n2_ n3_; (try clear hb); (try clear hb2); (try clear hk); (try clear hi); (try clear ho0)))
  (try simp only [Act.put, List.setIfInBounds_toArray, List.set_cons_zero, List.set_cons_succ])
  go_cut [39] (fun v39 wc => ∃ (kq : Nat) (x39_5 : Bool), v39 = .bool x39_5 ∧ Aside0 (laws_FnDerive.j0 kq t978 t981 t984 t985 t988 x39_5 = some r) ∧ Aside0 (kq ≤ k) ∧ Aside0 (Kd.N (Kd.slice 3 (Kd.int .i64)) 23 wc w.heap.size (fun k_ => some k_ ≠ (v982 : Value).ownBlock ∧ some k_ ≠ (v986 : Value).ownBlock) (.slice Ao8 t978.length co8) t978) ∧ Aside0 (Kd.N (Kd.slice 3 (Kd.int .i64)) 23 wc w.heap.size (fun k_ => some k_ ≠ ((.slice Ao8 t978.length co8) : Value).ownBlock ∧ some k_ ≠ (v986 : Value).ownBlock) v982 t981) ∧ Aside0 (Kd.N (Kd.slice 3 (Kd.int .i64)) 23 wc w.heap.size (fun k_ => some k_ ≠ ((.slice Ao8 t978.length co8) : Value).ownBlock ∧ some k_ ≠ (v982 : Value).ownBlock) v986 t985) ∧ Aside0 (Below w.heap.size w wc))
  case first =>
   have H := HC6.out
   clear HC6
   by_cases c11 : (t984 != t988) = true
   ·rw [if_pos c11] at H
    have c11b0 : (t984 != t988) = true := c11
    (try (have c11b1 : decide (t984 = t988) = false := by simpa using c11))
    (try (have c11b2 : (t984 == t988) = false := by simpa using c11))
    (try (have c11b3 : ¬ (t984 = t988) := by simpa using c11))
    clear c11
    (first | rw [c11b0] | (simp only [i64_w, i32_w]; rw [c11b0]) | skip)
    have H' := Aside0.mk H
    clear H
    go_wp2
    go_meet
    case rel => exact ⟨_, (true), (by first | rfl | (simp; done) | (simp [*]; done)), H', ⟨by first | omega | exact Nat.le_refl _⟩, ⟨by (with_reducible repeat (first | apply Kd.N_alloc | apply Kd.N_drewN | apply Kd.N_drew)); exact Kd.N_mono HO980.out (fun _ hk => ⟨hk.1.2, hk.2⟩)⟩, ⟨by (with_reducible repeat (first | apply Kd.N_alloc | apply Kd.N_drewN | apply Kd.N_drew)); exact HO983.out⟩, ⟨by (with_reducible repeat (first | apply Kd.N_alloc | apply Kd.N_drewN | apply Kd.N_drew)); exact HO987.out⟩, ⟨by repeat (first | (with_reducible first | exact HB.out | apply below_alloc | apply pw_below_drewN | apply below_drew1) | exact HB.out)⟩⟩
   ·rw [if_neg c11] at H
    have c11b0 : (t984 != t988) = false := by simpa using c11
    (try (have c11b1 : decide (t984 = t988) = true := by simpa using c11))
    (try (have c11b2 : (t984 == t988) = true := by simpa using c11))
    clear c11
    (first | rw [c11b0] | (simp only [i64_w, i32_w]; rw [c11b0]) | skip)
    replace H := Option.bind_eq_some_iff.mp H
    obtain ⟨t989, A120, H⟩ := H
    replace H : (if t989 = true then (laws_FnDerive.j0 k t978 t981 t984 t985 t988 (!t984)) else (laws_FnDerive.j0 k t978 t981 t984 t985 t988 true)) = some r := H
    have A12 := Aside0.mk A120
    clear A120
    by_cases c13 : t989 = true
    ·subst c13
     have H1 : (laws_FnDerive.j0 k t978 t981 t984 t985 t988 (!t984)) = some r := by rw [if_pos rfl] at H; exact H
     clear H
     have H := H1
     clear H1
     have H' := Aside0.mk H
     clear H
     obtain ⟨Ao14, co14, eo14⟩ := Kd.N_slice HO983.out
     subst eo14
     obtain ⟨Ao15, co15, eo15⟩ := Kd.N_slice HO987.out
     subst eo15
     go_wp2_with (first | (go_at_call 21; (with_reducible refine (laws_sameRows.calls k _ _ t981 _ _ t985 true _ ?side1 ?side2 ?side3 ?side4 A12.out).mono ?_); (case side1 => repeat (first | exact (Kd.N_reads' HO983.out).2.2 | (with_reducible refine Kd.C_alloc ?_ _) | (with_reducible refine Kd.C_drewN ?_ _) | (with_reducible refine Kd.C_drew ?_))); (case side2 => exact (Kd.N_reads' HO983.out).2.1); (case side3 => repeat (first | exact (Kd.N_reads' HO987.out).2.2 | (with_reducible refine Kd.C_alloc ?_ _) | (with_reducible refine Kd.C_drewN ?_ _) | (with_reducible refine Kd.C_drew ?_))); (case side4 => exact (Kd.N_reads' HO987.out).2.1); rintro e w' ⟨rfl, ⟨nd, rfl⟩⟩))
     go_meet
     case rel => exact ⟨_, (!t984), (by first | rfl | (simp; done) | (simp [*]; done)), H', ⟨by first | omega | exact Nat.le_refl _⟩, ⟨by (with_reducible repeat (first | apply Kd.N_alloc | apply Kd.N_drewN | apply Kd.N_drew)); exact Kd.N_mono HO980.out (fun _ hk => ⟨hk.1.2, hk.2⟩)⟩, ⟨by (with_reducible repeat (first | apply Kd.N_alloc | apply Kd.N_drewN | apply Kd.N_drew)); exact HO983.out⟩, ⟨by (with_reducible repeat (first | apply Kd.N_alloc | apply Kd.N_drewN | apply Kd.N_drew)); exact HO987.out⟩, ⟨by repeat (first | (with_reducible first | exact HB.out | apply below_alloc | apply pw_below_drewN | apply below_drew1) | exact HB.out)⟩⟩
    ·replace c13 := Bool.eq_false_iff.mpr c13
     subst c13
     have H1 : (laws_FnDerive.j0 k t978 t981 t984 t985 t988 true) = some r := by rw [if_neg (show ¬ (false = true) by decide)] at H; exact H
     clear H
     have H := H1
     clear H1
     have H' := Aside0.mk H
     clear H
     obtain ⟨Ao16, co16, eo16⟩ := Kd.N_slice HO983.out
     subst eo16
     obtain ⟨Ao17, co17, eo17⟩ := Kd.N_slice HO987.out
     subst eo17
     go_wp2_with (first | (go_at_call 21; (with_reducible refine (laws_sameRows.calls k _ _ t981 _ _ t985 false _ ?side1 ?side2 ?side3 ?side4 A12.out).mono ?_); (case side1 => repeat (first | exact (Kd.N_reads' HO983.out).2.2 | (with_reducible refine Kd.C_alloc ?_ _) | (with_reducible refine Kd.C_drewN ?_ _) | (with_reducible refine Kd.C_drew ?_))); (case side2 => exact (Kd.N_reads' HO983.out).2.1); (case side3 => repeat (first | exact (Kd.N_reads' HO987.out).2.2 | (with_reducible refine Kd.C_alloc ?_ _) | (with_reducible refine Kd.C_drewN ?_ _) | (with_reducible refine Kd.C_drew ?_))); (case side4 => exact (Kd.N_reads' HO987.out).2.1); rintro e w' ⟨rfl, ⟨nd, rfl⟩⟩))
     go_meet
     case rel => exact ⟨_, (true), (by first | rfl | (simp; done) | (simp [*]; done)), H', ⟨by first | omega | exact Nat.le_refl _⟩, ⟨by (with_reducible repeat (first | apply Kd.N_alloc | apply Kd.N_drewN | apply Kd.N_drew)); exact Kd.N_mono HO980.out (fun _ hk => ⟨hk.1.2, hk.2⟩)⟩, ⟨by (with_reducible repeat (first | apply Kd.N_alloc | apply Kd.N_drewN | apply Kd.N_drew)); exact HO983.out⟩, ⟨by (with_reducible repeat (first | apply Kd.N_alloc | apply Kd.N_drewN | apply Kd.N_drew)); exact HO987.out⟩, ⟨by repeat (first | (with_reducible first | exact HB.out | apply below_alloc | apply pw_below_drewN | apply below_drew1) | exact HB.out)⟩⟩
  case rest =>
   clear HC6
   try clear c1
   try clear c2
   try clear c2b0
   try clear c2b1
   try clear p2
   try clear c3
   try clear c4
   try clear c10
   try clear c11
   try clear c11b0
   try clear c11b1
   try clear c11b2
   try clear c13
   obtain ⟨kq, x39_5, rfl, HA, HJ5, HO_3, HO_4, HO_6, HB⟩ := hcut
   cases kq with
   | zero => exact absurd HA.out (by simp [laws_FnDerive.j0])
   | succ kj5 =>
    have H := HA.out
    clear HA
    simp only [laws_FnDerive.j0] at H
    by_cases c18 : x39_5 = true
    ·subst c18
     have H1 : (if (t984 == t988) = true then ((laws_sameRows.f kj5 t981 t985).bind fun t990 => (some t990)) else (some false)) = some r := by rw [if_pos rfl] at H; exact H
     clear H
     have H := H1
     clear H1
     by_cases c19 : (t984 == t988) = true
     ·rw [if_pos c19] at H
      have c19b0 : (t984 == t988) = true := c19
      (try (have c19b1 : decide (t984 = t988) = true := by simpa using c19))
      (try (have c19b2 : (t984 == t988) = true := by simpa using c19))
      clear c19
      replace H := Option.bind_eq_some_iff.mp H
      obtain ⟨t990, A200, H⟩ := H
      replace H : (some t990) = some r := H
      have A20 := Aside0.mk A200
      clear A200
      obtain rfl := Option.some.inj H
      obtain ⟨Ao21, co21, eo21⟩ := Kd.N_slice HO_4.out
      subst eo21
      obtain ⟨Ao22, co22, eo22⟩ := Kd.N_slice HO_6.out
      subst eo22
      go_wp2_with (first | (go_at_call 21; (with_reducible refine (laws_sameRows.calls kj5 _ _ t981 _ _ t985 t990 _ ?side1 ?side2 ?side3 ?side4 A20.out).mono ?_); (case side1 => repeat (first | exact (Kd.N_reads' HO_4.out).2.2 | (with_reducible refine Kd.C_alloc ?_ _) | (with_reducible refine Kd.C_drewN ?_ _) | (with_reducible refine Kd.C_drew ?_))); (case side2 => exact (Kd.N_reads' HO_4.out).2.1); (case side3 => repeat (first | exact (Kd.N_reads' HO_6.out).2.2 | (with_reducible refine Kd.C_alloc ?_ _) | (with_reducible refine Kd.C_drewN ?_ _) | (with_reducible refine Kd.C_drew ?_))); (case side4 => exact (Kd.N_reads' HO_6.out).2.1); rintro e w' ⟨rfl, ⟨nd, rfl⟩⟩))
      go_ret
      exact ⟨ee_, bb_ HB⟩
     ·rw [if_neg c19] at H
      have c19b0 : (t984 == t988) = false := by simpa using c19
      (try (have c19b1 : decide (t984 = t988) = false := by simpa using c19))
      (try (have c19b2 : (t984 == t988) = false := by simpa using c19))
      (try (have c19b3 : ¬ (t984 = t988) := by simpa using c19))
      clear c19
      obtain rfl := Option.some.inj H
      go_wp2
      go_ret
      exact ⟨ee_, bb_ HB⟩
    ·replace c18 := Bool.eq_false_iff.mpr c18
     subst c18
     have H1 : ((impl_SpreadSame.f kj5 t978 t981).bind fun bt991 => ((impl_SpreadDerive.f t981).bind fun bt993 => (if bt991.2 = true then (if bt991.1 = 6 then (if bt993.2 = true then (some false) else ((impl_SpreadIn.f t981).bind fun t997 => (some t997))) else (some false)) else (some false)))) = some r := by rw [if_neg (show ¬ (false = true) by decide)] at H; exact H
     clear H
     have H := H1
     clear H1
     replace H := Option.bind_eq_some_iff.mp H
     obtain ⟨⟨t991, t992⟩, A230, H⟩ := H
     replace H : ((impl_SpreadDerive.f t981).bind fun bt993 => (if t992 = true then (if t991 = 6 then (if bt993.2 = true then (some false) else ((impl_SpreadIn.f t981).bind fun t997 => (some t997))) else (some false)) else (some false))) = some r := H
     have A23 := Aside0.mk A230
     clear A230
     replace H := Option.bind_eq_some_iff.mp H
     obtain ⟨⟨t993, t996⟩, A240, H⟩ := H
     replace H : (if t992 = true then (if t991 = 6 then (if t996 = true then (some false) else ((impl_SpreadIn.f t981).bind fun t997 => (some t997))) else (some false)) else (some false)) = some r := H
     have A24 := Aside0.mk A240
     clear A240
     by_cases c25 : t992 = true
     ·subst c25
      have H1 : (if t991 = 6 then (if t996 = true then (some false) else ((impl_SpreadIn.f t981).bind fun t997 => (some t997))) else (some false)) = some r := by rw [if_pos rfl] at H; exact H
      clear H
      have H := H1
      clear H1
      by_cases c26 : t991 = 6
      ·rw [if_pos c26] at H
       have c26b0 : (t991 == 6) = true := beq_iff_eq.mpr c26
       have c26b1 : (t991 != 6) = false := bne_eq_false_iff_eq.mpr c26
       clear c26
       by_cases c27 : t996 = true
       ·subst c27
        have H1 : (some false) = some r := by rw [if_pos rfl] at H; exact H
        clear H
        have H := H1
        clear H1
        obtain rfl := Option.some.inj H
        obtain ⟨Ao28, co28, eo28⟩ := Kd.N_slice HO_4.out
        subst eo28
        go_wp2_with (first | (refine goesL_ (some 51) rfl rfl Try.func19 (by kernel_rfl) rfl #[.slice Ao8 t978.length co8, .slice Ao28 t981.length co28] rfl ll_ ?_; (with_reducible refine (impl_SpreadSame.calls kj5 _ _ t978 _ _ t981 t991 true _ ?side1 ?side2 ?side3 ?side4 A23.out).mono ?_); (case side1 => repeat (first | exact (Kd.N_reads' HO_3.out).2.2 | (with_reducible refine Kd.C_alloc ?_ _) | (with_reducible refine Kd.C_drewN ?_ _) | (with_reducible refine Kd.C_drew ?_))); (case side2 => exact (Kd.N_reads' HO_3.out).2.1); (case side3 => repeat (first | exact (Kd.N_reads' HO_4.out).2.2 | (with_reducible refine Kd.C_alloc ?_ _) | (with_reducible refine Kd.C_drewN ?_ _) | (with_reducible refine Kd.C_drew ?_))); (case side4 => exact (Kd.N_reads' HO_4.out).2.1); rintro e w29 ⟨rfl, hb⟩; refine ⟨_, rfl, ?_⟩; have n0_ := Aside0.mk (Kd.N_below (by (with_reducible repeat (first | apply Kd.N_alloc | apply Kd.N_drewN | apply Kd.N_drew)); exact HO_3.out) hb); have n1_ := Aside0.mk (Kd.N_below (by (with_reducible repeat (first | apply Kd.N_alloc | apply Kd.N_drewN | apply Kd.N_drew)); exact HO_4.out) hb); have n2_ := Aside0.mk (Kd.N_below (by (with_reducible repeat (first | apply Kd.N_alloc | apply Kd.N_drewN | apply Kd.N_drew)); exact HO_6.out) hb); have n3_ := Aside0.mk (below_step (bb_ HB) hb); clear HO_3; clear HO_4; clear HO_6; clear HB; have HO_3 := n0_; have HO_4 := n1_; have HO_6 := n2_; have HB := n3_; clear n0_ n1_ n2_ n3_; (try clear hb); (try clear hb2); (try clear hk); (try clear hi)) | (refine goesL_ (some 56) rfl rfl Try.func41 (by kernel_rfl) rfl #[.slice Ao28 t981.length co28] rfl ll_ ?_; (with_reducible refine (impl_SpreadDerive.calls _ _ t981 t993 true _ ?side1 ?side2 A24.out).mono ?_); (case side1 => repeat (first | exact (Kd.N_reads' HO_4.out).2.2 | (with_reducible refine Kd.C_alloc ?_ _) | (with_reducible refine Kd.C_drewN ?_ _) | (with_reducible refine Kd.C_drew ?_))); (case side2 => exact (Kd.N_reads' HO_4.out).2.1); rintro e w30 ⟨v994, rfl, ho0, hb⟩; refine ⟨_, rfl, ?_⟩; have n0_ := Aside0.mk (Kd.N_elder' (by (with_reducible repeat (first | apply Kd.N_alloc | apply Kd.N_drewN | apply Kd.N_drew)); exact HO_3.out) (Kd.N_base ho0) hb); have n1_ := Aside0.mk (Kd.N_elder' (by (with_reducible repeat (first | apply Kd.N_alloc | apply Kd.N_drewN | apply Kd.N_drew)); exact HO_4.out) (Kd.N_base ho0) hb); have n2_ := Aside0.mk (Kd.N_elder' (by (with_reducible repeat (first | apply Kd.N_alloc | apply Kd.N_drewN | apply Kd.N_drew)); exact HO_6.out) (Kd.N_base ho0) hb); have n3_ := Aside0.mk (Kd.N_lower (Kd.N_mono (ok' := fun k_ => some k_ ≠ (.slice Ao8 t978.length co8 : Value).ownBlock ∧ some k_ ≠ (.slice Ao28 t981.length co28 : Value).ownBlock ∧ some k_ ≠ (v986 : Value).ownBlock) ho0 (fun k_ hk_ => ⟨(Kd.fresh' (Kd.N_lt (by (with_reducible repeat (first | apply Kd.N_alloc | apply Kd.N_drewN | apply Kd.N_drew)); exact HO_3.out)) k_ hk_), (Kd.fresh' (Kd.N_lt (by (with_reducible repeat (first | apply Kd.N_alloc | apply Kd.N_drewN | apply Kd.N_drew)); exact HO_4.out)) k_ hk_), (Kd.fresh' (Kd.N_lt (by (with_reducible repeat (first | apply Kd.N_alloc | apply Kd.N_drewN | apply Kd.N_drew)); exact HO_6.out)) k_ hk_)⟩)) (below_size (bb_ HB))); have n4_ := Aside0.mk (below_step (bb_ HB) hb); clear HO_3; clear HO_4; clear HO_6; clear HB; have HO_3 := n0_; have HO_4 := n1_; have HO_6 := n2_; have HO995 := n3_; have HB := n4_; clear n0_ n1_ n2_ n3_ n4_; (try clear hb); (try clear hb2); (try clear hk); (try clear hi); (try clear ho0)))
        go_ret
        exact ⟨ee_, bb_ HB⟩
       ·replace c27 := Bool.eq_false_iff.mpr c27
        subst c27
        have H1 : ((impl_SpreadIn.f t981).bind fun t997 => (some t997)) = some r := by rw [if_neg (show ¬ (false = true) by decide)] at H; exact H
        clear H
        have H := H1
        clear H1
        replace H := Option.bind_eq_some_iff.mp H
        obtain ⟨t997, A310, H⟩ := H
        replace H : (some t997) = some r := H
        have A31 := Aside0.mk A310
        clear A310
        obtain rfl := Option.some.inj H
        obtain ⟨Ao32, co32, eo32⟩ := Kd.N_slice HO_4.out
        subst eo32
        go_wp2_with (first | (refine goesL_ (some 51) rfl rfl Try.func19 (by kernel_rfl) rfl #[.slice Ao8 t978.length co8, .slice Ao32 t981.length co32] rfl ll_ ?_; (with_reducible refine (impl_SpreadSame.calls kj5 _ _ t978 _ _ t981 t991 true _ ?side1 ?side2 ?side3 ?side4 A23.out).mono ?_); (case side1 => repeat (first | exact (Kd.N_reads' HO_3.out).2.2 | (with_reducible refine Kd.C_alloc ?_ _) | (with_reducible refine Kd.C_drewN ?_ _) | (with_reducible refine Kd.C_drew ?_))); (case side2 => exact (Kd.N_reads' HO_3.out).2.1); (case side3 => repeat (first | exact (Kd.N_reads' HO_4.out).2.2 | (with_reducible refine Kd.C_alloc ?_ _) | (with_reducible refine Kd.C_drewN ?_ _) | (with_reducible refine Kd.C_drew ?_))); (case side4 => exact (Kd.N_reads' HO_4.out).2.1); rintro e w33 ⟨rfl, hb⟩; refine ⟨_, rfl, ?_⟩; have n0_ := Aside0.mk (Kd.N_below (by (with_reducible repeat (first | apply Kd.N_alloc | apply Kd.N_drewN | apply Kd.N_drew)); exact HO_3.out) hb); have n1_ := Aside0.mk (Kd.N_below (by (with_reducible repeat (first | apply Kd.N_alloc | apply Kd.N_drewN | apply Kd.N_drew)); exact HO_4.out) hb); have n2_ := Aside0.mk (Kd.N_below (by (with_reducible repeat (first | apply Kd.N_alloc | apply Kd.N_drewN | apply Kd.N_drew)); exact HO_6.out) hb); have n3_ := Aside0.mk (below_step (bb_ HB) hb); clear HO_3; clear HO_4; clear HO_6; clear HB; have HO_3 := n0_; have HO_4 := n1_; have HO_6 := n2_; have HB := n3_; clear n0_ n1_ n2_ n3_; (try clear hb); (try clear hb2); (try clear hk); (try clear hi)) | (refine goesL_ (some 56) rfl rfl Try.func41 (by kernel_rfl) rfl #[.slice Ao32 t981.length co32] rfl ll_ ?_; (with_reducible refine (impl_SpreadDerive.calls _ _ t981 t993 false _ ?side1 ?side2 A24.out).mono ?_); (case side1 => repeat (first | exact (Kd.N_reads' HO_4.out).2.2 | (with_reducible refine Kd.C_alloc ?_ _) | (with_reducible refine Kd.C_drewN ?_ _) | (with_reducible refine Kd.C_drew ?_))); (case side2 => exact (Kd.N_reads' HO_4.out).2.1); rintro e w34 ⟨v994, rfl, ho0, hb⟩; refine ⟨_, rfl, ?_⟩; have n0_ := Aside0.mk (Kd.N_elder' (by (with_reducible repeat (first | apply Kd.N_alloc | apply Kd.N_drewN | apply Kd.N_drew)); exact HO_3.out) (Kd.N_base ho0) hb); have n1_ := Aside0.mk (Kd.N_elder' (by (with_reducible repeat (first | apply Kd.N_alloc | apply Kd.N_drewN | apply Kd.N_drew)); exact HO_4.out) (Kd.N_base ho0) hb); have n2_ := Aside0.mk (Kd.N_elder' (by (with_reducible repeat (first | apply Kd.N_alloc | apply Kd.N_drewN | apply Kd.N_drew)); exact HO_6.out) (Kd.N_base ho0) hb); have n3_ := Aside0.mk (Kd.N_lower (Kd.N_mono (ok' := fun k_ => some k_ ≠ (.slice Ao8 t978.length co8 : Value).ownBlock ∧ some k_ ≠ (.slice Ao32 t981.length co32 : Value).ownBlock ∧ some k_ ≠ (v986 : Value).ownBlock) ho0 (fun k_ hk_ => ⟨(Kd.fresh' (Kd.N_lt (by (with_reducible repeat (first | apply Kd.N_alloc | apply Kd.N_drewN | apply Kd.N_drew)); exact HO_3.out)) k_ hk_), (Kd.fresh' (Kd.N_lt (by (with_reducible repeat (first | apply Kd.N_alloc | apply Kd.N_drewN | apply Kd.N_drew)); exact HO_4.out)) k_ hk_), (Kd.fresh' (Kd.N_lt (by (with_reducible repeat (first | apply Kd.N_alloc | apply Kd.N_drewN | apply Kd.N_drew)); exact HO_6.out)) k_ hk_)⟩)) (below_size (bb_ HB))); have n4_ := Aside0.mk (below_step (bb_ HB) hb); clear HO_3; clear HO_4; clear HO_6; clear HB; have HO_3 := n0_; have HO_4 := n1_; have HO_6 := n2_; have HO995 := n3_; have HB := n4_; clear n0_ n1_ n2_ n3_ n4_; (try clear hb); (try clear hb2); (try clear hk); (try clear hi); (try clear ho0)) | (go_at_call 37; (with_reducible refine (impl_SpreadIn.calls _ _ t981 t997 _ ?side1 ?side2 A31.out).mono ?_); (case side1 => repeat (first | exact (Kd.N_reads' HO_4.out).2.2 | (with_reducible refine Kd.C_alloc ?_ _) | (with_reducible refine Kd.C_drewN ?_ _) | (with_reducible refine Kd.C_drew ?_))); (case side2 => exact (Kd.N_reads' HO_4.out).2.1); rintro e w35 ⟨rfl, hb⟩; have n0_ := Aside0.mk (Kd.N_below (by (with_reducible repeat (first | apply Kd.N_alloc | apply Kd.N_drewN | apply Kd.N_drew)); exact HO_3.out) hb); have n1_ := Aside0.mk (Kd.N_below (by (with_reducible repeat (first | apply Kd.N_alloc | apply Kd.N_drewN | apply Kd.N_drew)); exact HO_4.out) hb); have n2_ := Aside0.mk (Kd.N_below (by (with_reducible repeat (first | apply Kd.N_alloc | apply Kd.N_drewN | apply Kd.N_drew)); exact HO_6.out) hb); have n3_ := Aside0.mk (Kd.N_below (by (with_reducible repeat (first | apply Kd.N_alloc | apply Kd.N_drewN | apply Kd.N_drew)); exact HO995.out) hb); have n4_ := Aside0.mk (below_step (bb_ HB) hb); clear HO_3; clear HO_4; clear HO_6; clear HO995; clear HB; have HO_3 := n0_; have HO_4 := n1_; have HO_6 := n2_; have HO995 := n3_; have HB := n4_; clear n0_ n1_ n2_ n3_ n4_; (try clear hb); (try clear hb2); (try clear hk); (try clear hi)))
        go_ret
        exact ⟨ee_, bb_ HB⟩
      ·rw [if_neg c26] at H
       have c26b0 : (t991 == 6) = false := beq_eq_false_iff_ne.mpr c26
       have c26b1 : (t991 != 6) = true := bne_iff_ne.mpr c26
       obtain rfl := Option.some.inj H
       obtain ⟨Ao36, co36, eo36⟩ := Kd.N_slice HO_4.out
       subst eo36
       go_wp2_with (first | (refine goesL_ (some 51) rfl rfl Try.func19 (by kernel_rfl) rfl #[.slice Ao8 t978.length co8, .slice Ao36 t981.length co36] rfl ll_ ?_; (with_reducible refine (impl_SpreadSame.calls kj5 _ _ t978 _ _ t981 t991 true _ ?side1 ?side2 ?side3 ?side4 A23.out).mono ?_); (case side1 => repeat (first | exact (Kd.N_reads' HO_3.out).2.2 | (with_reducible refine Kd.C_alloc ?_ _) | (with_reducible refine Kd.C_drewN ?_ _) | (with_reducible refine Kd.C_drew ?_))); (case side2 => exact (Kd.N_reads' HO_3.out).2.1); (case side3 => repeat (first | exact (Kd.N_reads' HO_4.out).2.2 | (with_reducible refine Kd.C_alloc ?_ _) | (with_reducible refine Kd.C_drewN ?_ _) | (with_reducible refine Kd.C_drew ?_))); (case side4 => exact (Kd.N_reads' HO_4.out).2.1); rintro e w37 ⟨rfl, hb⟩; refine ⟨_, rfl, ?_⟩; have n0_ := Aside0.mk (Kd.N_below (by (with_reducible repeat (first | apply Kd.N_alloc | apply Kd.N_drewN | apply Kd.N_drew)); exact HO_3.out) hb); have n1_ := Aside0.mk (Kd.N_below (by (with_reducible repeat (first | apply Kd.N_alloc | apply Kd.N_drewN | apply Kd.N_drew)); exact HO_4.out) hb); have n2_ := Aside0.mk (Kd.N_below (by (with_reducible repeat (first | apply Kd.N_alloc | apply Kd.N_drewN | apply Kd.N_drew)); exact HO_6.out) hb); have n3_ := Aside0.mk (below_step (bb_ HB) hb); clear HO_3; clear HO_4; clear HO_6; clear HB; have HO_3 := n0_; have HO_4 := n1_; have HO_6 := n2_; have HB := n3_; clear n0_ n1_ n2_ n3_; (try clear hb); (try clear hb2); (try clear hk); (try clear hi)) | (refine goesL_ (some 56) rfl rfl Try.func41 (by kernel_rfl) rfl #[.slice Ao36 t981.length co36] rfl ll_ ?_; (with_reducible refine (impl_SpreadDerive.calls _ _ t981 t993 t996 _ ?side1 ?side2 A24.out).mono ?_); (case side1 => repeat (first | exact (Kd.N_reads' HO_4.out).2.2 | (with_reducible refine Kd.C_alloc ?_ _) | (with_reducible refine Kd.C_drewN ?_ _) | (with_reducible refine Kd.C_drew ?_))); (case side2 => exact (Kd.N_reads' HO_4.out).2.1); rintro e w38 ⟨v994, rfl, ho0, hb⟩; refine ⟨_, rfl, ?_⟩; have n0_ := Aside0.mk (Kd.N_elder' (by (with_reducible repeat (first | apply Kd.N_alloc | apply Kd.N_drewN | apply Kd.N_drew)); exact HO_3.out) (Kd.N_base ho0) hb); have n1_ := Aside0.mk (Kd.N_elder' (by (with_reducible repeat (first | apply Kd.N_alloc | apply Kd.N_drewN | apply Kd.N_drew)); exact HO_4.out) (Kd.N_base ho0) hb); have n2_ := Aside0.mk (Kd.N_elder' (by (with_reducible repeat (first | apply Kd.N_alloc | apply Kd.N_drewN | apply Kd.N_drew)); exact HO_6.out) (Kd.N_base ho0) hb); have n3_ := Aside0.mk (Kd.N_lower (Kd.N_mono (ok' := fun k_ => some k_ ≠ (.slice Ao8 t978.length co8 : Value).ownBlock ∧ some k_ ≠ (.slice Ao36 t981.length co36 : Value).ownBlock ∧ some k_ ≠ (v986 : Value).ownBlock) ho0 (fun k_ hk_ => ⟨(Kd.fresh' (Kd.N_lt (by (with_reducible repeat (first | apply Kd.N_alloc | apply Kd.N_drewN | apply Kd.N_drew)); exact HO_3.out)) k_ hk_), (Kd.fresh' (Kd.N_lt (by (with_reducible repeat (first | apply Kd.N_alloc | apply Kd.N_drewN | apply Kd.N_drew)); exact HO_4.out)) k_ hk_), (Kd.fresh' (Kd.N_lt (by (with_reducible repeat (first | apply Kd.N_alloc | apply Kd.N_drewN | apply Kd.N_drew)); exact HO_6.out)) k_ hk_)⟩)) (below_size (bb_ HB))); have n4_ := Aside0.mk (below_step (bb_ HB) hb); clear HO_3; clear HO_4; clear HO_6; clear HB; have HO_3 := n0_; have HO_4 := n1_; have HO_6 := n2_; have HO995 := n3_; have HB := n4_; clear n0_ n1_ n2_ n3_ n4_; (try clear hb); (try clear hb2); (try clear hk); (try clear hi); (try clear ho0)))
       go_ret
       exact ⟨ee_, bb_ HB⟩
     ·replace c25 := Bool.eq_false_iff.mpr c25
      subst c25
      have H1 : (some false) = some r := by rw [if_neg (show ¬ (false = true) by decide)] at H; exact H
      clear H
      have H := H1
      clear H1
      obtain rfl := Option.some.inj H
      obtain ⟨Ao39, co39, eo39⟩ := Kd.N_slice HO_4.out
      subst eo39
      go_wp2_with (first | (refine goesL_ (some 51) rfl rfl Try.func19 (by kernel_rfl) rfl #[.slice Ao8 t978.length co8, .slice Ao39 t981.length co39] rfl ll_ ?_; (with_reducible refine (impl_SpreadSame.calls kj5 _ _ t978 _ _ t981 t991 false _ ?side1 ?side2 ?side3 ?side4 A23.out).mono ?_); (case side1 => repeat (first | exact (Kd.N_reads' HO_3.out).2.2 | (with_reducible refine Kd.C_alloc ?_ _) | (with_reducible refine Kd.C_drewN ?_ _) | (with_reducible refine Kd.C_drew ?_))); (case side2 => exact (Kd.N_reads' HO_3.out).2.1); (case side3 => repeat (first | exact (Kd.N_reads' HO_4.out).2.2 | (with_reducible refine Kd.C_alloc ?_ _) | (with_reducible refine Kd.C_drewN ?_ _) | (with_reducible refine Kd.C_drew ?_))); (case side4 => exact (Kd.N_reads' HO_4.out).2.1); rintro e w40 ⟨rfl, hb⟩; refine ⟨_, rfl, ?_⟩; have n0_ := Aside0.mk (Kd.N_below (by (with_reducible repeat (first | apply Kd.N_alloc | apply Kd.N_drewN | apply Kd.N_drew)); exact HO_3.out) hb); have n1_ := Aside0.mk (Kd.N_below (by (with_reducible repeat (first | apply Kd.N_alloc | apply Kd.N_drewN | apply Kd.N_drew)); exact HO_4.out) hb); have n2_ := Aside0.mk (Kd.N_below (by (with_reducible repeat (first | apply Kd.N_alloc | apply Kd.N_drewN | apply Kd.N_drew)); exact HO_6.out) hb); have n3_ := Aside0.mk (below_step (bb_ HB) hb); clear HO_3; clear HO_4; clear HO_6; clear HB; have HO_3 := n0_; have HO_4 := n1_; have HO_6 := n2_; have HB := n3_; clear n0_ n1_ n2_ n3_; (try clear hb); (try clear hb2); (try clear hk); (try clear hi)) | (refine goesL_ (some 56) rfl rfl Try.func41 (by kernel_rfl) rfl #[.slice Ao39 t981.length co39] rfl ll_ ?_; (with_reducible refine (impl_SpreadDerive.calls _ _ t981 t993 t996 _ ?side1 ?side2 A24.out).mono ?_); (case side1 => repeat (first | exact (Kd.N_reads' HO_4.out).2.2 | (with_reducible refine Kd.C_alloc ?_ _) | (with_reducible refine Kd.C_drewN ?_ _) | (with_reducible refine Kd.C_drew ?_))); (case side2 => exact (Kd.N_reads' HO_4.out).2.1); rintro e w41 ⟨v994, rfl, ho0, hb⟩; refine ⟨_, rfl, ?_⟩; have n0_ := Aside0.mk (Kd.N_elder' (by (with_reducible repeat (first | apply Kd.N_alloc | apply Kd.N_drewN | apply Kd.N_drew)); exact HO_3.out) (Kd.N_base ho0) hb); have n1_ := Aside0.mk (Kd.N_elder' (by (with_reducible repeat (first | apply Kd.N_alloc | apply Kd.N_drewN | apply Kd.N_drew)); exact HO_4.out) (Kd.N_base ho0) hb); have n2_ := Aside0.mk (Kd.N_elder' (by (with_reducible repeat (first | apply Kd.N_alloc | apply Kd.N_drewN | apply Kd.N_drew)); exact HO_6.out) (Kd.N_base ho0) hb); have n3_ := Aside0.mk (Kd.N_lower (Kd.N_mono (ok' := fun k_ => some k_ ≠ (.slice Ao8 t978.length co8 : Value).ownBlock ∧ some k_ ≠ (.slice Ao39 t981.length co39 : Value).ownBlock ∧ some k_ ≠ (v986 : Value).ownBlock) ho0 (fun k_ hk_ => ⟨(Kd.fresh' (Kd.N_lt (by (with_reducible repeat (first | apply Kd.N_alloc | apply Kd.N_drewN | apply Kd.N_drew)); exact HO_3.out)) k_ hk_), (Kd.fresh' (Kd.N_lt (by (with_reducible repeat (first | apply Kd.N_alloc | apply Kd.N_drewN | apply Kd.N_drew)); exact HO_4.out)) k_ hk_), (Kd.fresh' (Kd.N_lt (by (with_reducible repeat (first | apply Kd.N_alloc | apply Kd.N_drewN | apply Kd.N_drew)); exact HO_6.out)) k_ hk_)⟩)) (below_size (bb_ HB))); have n4_ := Aside0.mk (below_step (bb_ HB) hb); clear HO_3; clear HO_4; clear HO_6; clear HB; have HO_3 := n0_; have HO_4 := n1_; have HO_6 := n2_; have HO995 := n3_; have HB := n4_; clear n0_ n1_ n2_ n3_ n4_; (try clear hb); (try clear hb2); (try clear hk); (try clear hi); (try clear ho0)))
      go_ret
      exact ⟨ee_, bb_ HB⟩
def laws_FnDerive.Pure : Prop := ∀ (l0 : List Int), l0.length ≤ maxLen → l0.length * 1 ≤ 140737488351232 → (∀ x ∈ l0, (Lit.int .u8 x).wf = true) → ∃ k, laws_FnDerive.f k l0 = some true
theorem laws_FnDerive.walk (P : laws_FnDerive.Pure) (a0 : Option Addr) (len0 cap0 : Nat) (z0 : List Int) (w : World) (w0 : (a0 = none ∧ len0 = 0 ∧ cap0 = 0 ∧ z0 = []) ∨ ∃ x, a0 = some x ∧ len0 ≤ cap0 ∧ cap0 ≤ maxLen ∧ z0.length = cap0 ∧ (∀ i, i < z0.length → w.cell? (x.add i) = some (.int .u8 (z0.getD i 0))) ∧ ∀ n ∈ z0, (Lit.int .u8 n).wf = true) (y0 : len0 * 1 ≤ 140737488351232) :
  Calls Try.prog 10 #[.slice a0 len0 cap0] w fun e w' => e = .returned (.bool true) ∧ Below w.heap.size w w' := by
 obtain ⟨l0, rfl, hr0, hm0, hw0, hc0⟩ := ReadsInt.ofRowC w0
 obtain ⟨k, h⟩ := P l0 hm0 y0 hw0
 refine (laws_FnDerive.calls k _ _ l0 true w (Kd.C_of_reads (d := (0 : Int)) (h1 := fun _ => rfl) hr0) hc0 h).mono ?_
 rintro e w' ⟨rfl, hd⟩
 exact ⟨rfl, hd⟩
end Go.Proofs.Ytbfafjejmljcpaa.P

set_option linter.unusedVariables false
set_option linter.unusedSimpArgs false
namespace Go.Proofs.Ytbfafjejmljcpaa.X
open Go.RowKit Go.Proofs.YtbfafjejmljcpaaW.PrintWords Go.Proofs.YtbfafjejmljcpaaW.PrintLast Go.Proofs.Ytbfafjejmljcpaa.P

theorem len_leL : ∀ A B : List (List Int), A.Nodup → (∀ a ∈ A, a ∈ B) → A.length ≤ B.length := by
  intro A
  induction A with
  | nil => intro B _ _; exact Nat.zero_le _
  | cons a A ih =>
    intro B hA hf
    have hA' := List.nodup_cons.1 hA
    have ha := hf a List.mem_cons_self
    have h1 := ih (B.erase a) hA'.2 (fun b hb => (List.mem_erase_of_ne (fun e : b = a => hA'.1 (by rw [← e]; exact hb))).2 (hf b (List.mem_cons_of_mem _ hb)))
    have h2 := List.length_erase_of_mem ha
    have h3 := List.length_pos_of_mem ha
    rw [List.length_cons]; omega
end Go.Proofs.Ytbfafjejmljcpaa.X

set_option linter.unusedVariables false
set_option linter.unusedSimpArgs false
namespace Go.Proofs.Ytbfafjejmljcpaa.X
open Go.RowKit Go.Proofs.YtbfafjejmljcpaaW.PrintWords Go.Proofs.YtbfafjejmljcpaaW.PrintLast Go.Proofs.Ytbfafjejmljcpaa.P

theorem rd_LI_at {l : List (List Int)} {i : Int} (i0 : 0 ≤ i) (i1 : i < l.length) : rd_LI l i = l[i.toNat]'(by omega) := by
  unfold rd_LI
  rw [List.getD_eq_getElem?_getD, List.getElem?_eq_getElem (by omega)]; rfl
theorem rd_LI_in {l : List (List Int)} {i : Int} (i0 : 0 ≤ i) (i1 : i < l.length) : rd_LI l i ∈ l := by rw [rd_LI_at i0 i1]; exact List.getElem_mem _
theorem spread_of {l : List (List Int)} (hl : l.length = 10) (ha : Asc l) (hf : ∀ x ∈ l, leafB x = true) (hp : ∀ x ∈ l, ∀ y ∈ l, x ≠ y → ∀ p : Int, 0 < p → p ∈ x → p ∉ y) : spreadB l = true := by
  have asc : ∀ i j : Int, 0 ≤ i → i < j → j < 10 → lessB (rd_LI l i) (rd_LI l j) = true := fun i j i0 ij j1 => by
    rw [rd_LI_at i0 (by omega), rd_LI_at (by omega) (by omega)]
    exact List.pairwise_iff_getElem.1 ha _ _ _ _ (by omega)
  refine spreadB_all hl fun i i0 i1 => ?_
  have hin := rd_LI_in (l := l) i0 (by omega)
  unfold leafOk
  rw [hf _ hin]
  have o : ordB l i = true := by
    unfold ordB
    by_cases h : i ≤ 0
    · rw [decide_eq_true h]; rfl
    · rw [asc (i - 1) i (by omega) (by omega) (by omega)]; simp
  have f : freshB l i = true := by
    unfold freshB
    rw [List.all_eq_true]
    intro p hpm
    by_cases h : p ≤ 0
    · rw [decide_eq_true h]; rfl
    · have : seenS l i p = false := by
        refine Bool.eq_false_iff.2 fun hs => ?_
        obtain ⟨j, hj, hm⟩ := seenS_iff.1 hs
        have hlt := asc (j : Int) i (by omega) hj i1
        have hne : rd_LI l (j : Int) ≠ rd_LI l i := fun e => by rw [e] at hlt; exact lessB_asym hlt hlt
        exact hp _ (rd_LI_in (by omega) (by omega)) _ hin hne p (by omega) hm hpm
      rw [this]; simp
  rw [o, f]; rfl
def regN (l : List (List Int)) : Nat → List (List Int)
  | 0 => []
  | n + 1 => if rd_LI l (n : Int) ∈ regI then regN l n ++ [rd_LI l (n : Int)] else regN l n
theorem regN_length (l : List (List Int)) (n : Nat) : (regN l n).length + (restI l n).length = n := by
  induction n with
  | zero => rfl
  | succ n ih =>
    unfold regN restI
    by_cases h : rd_LI l (n : Int) ∈ regI
    · rw [if_pos h, if_pos h, List.length_append]; show _ + 1 + _ = _; omega
    · rw [if_neg h, if_neg h, List.length_append]; show _ + (_ + 1) = _; omega
theorem regN_from (l : List (List Int)) (n : Nat) (x : List Int) (h : x ∈ regN l n) : x ∈ regI ∧ ∃ j : Nat, j < n ∧ x = rd_LI l (j : Int) := by
  induction n with
  | zero => cases h
  | succ n ih =>
    unfold regN at h
    by_cases hr : rd_LI l (n : Int) ∈ regI
    · rw [if_pos hr] at h
      rcases List.mem_append.1 h with h | h
      · obtain ⟨a, j, hj, e⟩ := ih h
        exact ⟨a, j, by omega, e⟩
      · have := List.mem_singleton.1 h
        exact ⟨by rw [this]; exact hr, n, by omega, this⟩
    · rw [if_neg hr] at h
      obtain ⟨a, j, hj, e⟩ := ih h
      exact ⟨a, j, by omega, e⟩
theorem regN_nodup {l : List (List Int)} (h : spreadB l = true) (n : Nat) (hn : n ≤ 10) : (regN l n).Nodup := by
  induction n with
  | zero => exact List.nodup_nil
  | succ n ih =>
    unfold regN
    by_cases hr : rd_LI l (n : Int) ∈ regI
    · rw [if_pos hr]
      refine List.nodup_append.2 ⟨ih (by omega), List.nodup_cons.2 ⟨by simp, List.nodup_nil⟩, fun a ha b hb e => ?_⟩
      rw [List.mem_singleton.1 hb] at e
      rw [e] at ha
      obtain ⟨_, j, hj, e2⟩ := regN_from l n _ ha
      exact rows_ne h hj (by omega) e2.symm
    · rw [if_neg hr]; exact ih (by omega)
theorem reg_three : ∀ ρ ∈ regI, (regI.filter fun x => decide (x ≠ ρ)).length = 3 := by decide +kernel
theorem all_reg {l : List (List Int)} (h : spreadB l = true) (h6 : (restI l 10).length = 6) {ρ : List Int} (hρ : ρ ∈ regI) : ∃ j : Nat, j < 10 ∧ rd_LI l (j : Int) = ρ := by
  apply Classical.byContradiction
  intro hno
  have h4 : (regN l 10).length = 4 := by have := regN_length l 10; omega
  have := len_leL (regN l 10) (regI.filter fun x => decide (x ≠ ρ)) (regN_nodup h 10 (by omega)) fun a ha => by
    obtain ⟨hr, j, hj, e⟩ := regN_from l 10 a ha
    exact List.mem_filter.2 ⟨hr, decide_eq_true fun e2 => hno ⟨j, hj, e ▸ e2⟩⟩
  rw [reg_three ρ hρ, h4] at this
  omega
theorem other_leaf : ∀ c ∈ ([1, 3, 4, 5] : List Int), leafB (otherL c) = true := by decide +kernel
theorem other_reg : ∀ c ∈ ([1, 3, 4, 5] : List Int), otherL c ∉ regI := by decide +kernel
theorem other_in : ∀ c ∈ ([1, 3, 4, 5] : List Int), ((otherL c).all fun p => decide (p ≤ 0) || regI.any fun ρ => decide (p ∈ ρ)) = true := by decide +kernel
theorem other_apart : ∀ c ∈ ([1, 3, 4, 5] : List Int), ∀ d ∈ ([1, 3, 4, 5] : List Int), (decide (c = d) || (otherL c).all fun p => decide (p ≤ 0) || !decide (p ∈ otherL d)) = true := by decide +kernel
theorem deriveL_mem {l : List (List Int)} {x : List Int} : x ∈ deriveL l ↔ x ∈ restI l 10 ∨ ∃ c ∈ ([1, 3, 4, 5] : List Int), x = otherL c := by
  unfold deriveL
  rw [mem_insAll, restI_mem]
theorem rest_other {l : List (List Int)} (h : spreadB l = true) (h6 : (restI l 10).length = 6) {x : List Int} (hx : x ∈ restI l 10) {c : Int} (hc : c ∈ ([1, 3, 4, 5] : List Int)) {p : Int} (p0 : 0 < p) (hpx : p ∈ x) (hpc : p ∈ otherL c) : False := by
  obtain ⟨j, hj, e, hn⟩ := restI_from l 10 x hx
  have hin := List.all_eq_true.1 (other_in c hc) p hpc
  rw [decide_eq_false (by omega), Bool.false_or] at hin
  obtain ⟨ρ, hρ, hpρ⟩ := List.any_eq_true.1 hin
  obtain ⟨i, hi, er⟩ := all_reg h h6 hρ
  have hpρ := of_decide_eq_true hpρ
  rw [← er] at hpρ
  rw [e] at hpx hn
  rcases Nat.lt_trichotomy i j with hlt | heq | hgt
  · exact spread_apart h (i := (i : Int)) (j := (j : Int)) (by omega) (by omega) (by omega) p0 hpρ hpx
  · subst heq; rw [er] at hn; exact hn hρ
  · exact spread_apart h (i := (j : Int)) (j := (i : Int)) (by omega) (by omega) (by omega) p0 hpx hpρ
theorem derive_spread {l : List (List Int)} (h : spreadB l = true) (h6 : (restI l 10).length = 6) : spreadB (deriveL l) = true := by
  refine spread_of ?_ (deriveL_asc h h6) (fun x hx => ?_) fun x hx y hy hne p p0 hpx hpy => ?_
  · rw [deriveL_length, ← restI_length, h6]
  · rcases deriveL_mem.1 hx with hx | ⟨c, hc, rfl⟩
    · obtain ⟨j, hj, rfl, _⟩ := restI_from l 10 x hx
      exact spread_leaf h (by omega) (by omega)
    · exact other_leaf c hc
  · rcases deriveL_mem.1 hx with hx | ⟨c, hc, rfl⟩
    · rcases deriveL_mem.1 hy with hy | ⟨d, hd, rfl⟩
      · obtain ⟨i, hi, rfl, _⟩ := restI_from l 10 x hx
        obtain ⟨j, hj, rfl, _⟩ := restI_from l 10 y hy
        rcases Nat.lt_trichotomy i j with hlt | heq | hgt
        · exact spread_apart h (i := (i : Int)) (j := (j : Int)) (by omega) (by omega) (by omega) p0 hpx hpy
        · subst heq; exact hne rfl
        · exact spread_apart h (i := (j : Int)) (j := (i : Int)) (by omega) (by omega) (by omega) p0 hpy hpx
      · exact rest_other h h6 hx hd p0 hpx hpy
    · rcases deriveL_mem.1 hy with hy | ⟨d, hd, rfl⟩
      · exact rest_other h h6 hy hc p0 hpy hpx
      · have ha := other_apart c hc d hd
        rw [decide_eq_false fun e => hne (by rw [e]), Bool.false_or] at ha
        have := List.all_eq_true.1 ha p hpx
        rw [decide_eq_false (by omega), Bool.false_or, decide_eq_true hpy] at this
        exact absurd this (by decide)
theorem restI_has {l : List (List Int)} {j : Nat} (hn : rd_LI l (j : Int) ∉ regI) (n : Nat) (hj : j < n) : rd_LI l (j : Int) ∈ restI l n := by
  induction n with
  | zero => omega
  | succ n ih =>
    unfold restI
    by_cases e : j = n
    · subst e
      rw [if_neg hn]; exact List.mem_append_right _ (List.mem_singleton.2 rfl)
    · have := ih (by omega)
      split
      · exact this
      · exact List.mem_append_left _ this
theorem deriveL_noreg {l : List (List Int)} {x : List Int} (hx : x ∈ deriveL l) : x ∉ regI := by
  rcases deriveL_mem.1 hx with hx | ⟨c, hc, rfl⟩
  · obtain ⟨_, _, _, hn⟩ := restI_from l 10 x hx
    exact hn
  · exact other_reg c hc
theorem derive_same {l : List (List Int)} (n : Nat) (hn : n ≤ 10) : sameN l (deriveL l) n = ((restI l n).length : Int) := by
  induction n with
  | zero => rfl
  | succ n ih =>
    unfold sameN restI
    rw [ih (by omega)]
    by_cases h : rd_LI l (n : Int) ∈ regI
    · rw [if_pos h, if_neg fun hm => deriveL_noreg hm h]; omega
    · rw [if_neg h, if_pos (deriveL_mem.2 (.inl (restI_has h 10 (by omega)))), List.length_append]; rfl
theorem derive_again {l : List (List Int)} (h : spreadB l = true) (h6 : (restI l 10).length = 6) : deriveR (deriveL l) = ([], false) := by
  have hl : (deriveL l).length = 10 := by rw [deriveL_length, ← restI_length, h6]
  have h10 : (restI (deriveL l) 10).length = 10 := restI_all 10 fun j hj => deriveL_noreg (rd_LI_in (by omega) (by omega))
  unfold deriveR
  rw [if_neg fun hh => by rw [← restI_length, h10] at hh; exact absurd hh.2 (by decide)]
end Go.Proofs.Ytbfafjejmljcpaa.X

set_option linter.unusedVariables false
set_option linter.unusedSimpArgs false
namespace Go.Proofs.Ytbfafjejmljcpaa.X
open Go.RowKit Go.Proofs.YtbfafjejmljcpaaW.PrintWords Go.Proofs.YtbfafjejmljcpaaW.PrintLast Go.Proofs.Ytbfafjejmljcpaa.P

def putS (s : Nat → Bool) (v : Int) (x : Nat) : Bool := if x = v.toNat then true else s x
def oneS (s : Nat → Bool) (p q : Int) : Nat → Bool := if s p.toNat = true ∧ s q.toNat = true then putS s (addF p q) else s
def rowS (s : Nat → Bool) (p : Int) : Nat → (Nat → Bool)
  | 0 => s
  | n + 1 => oneS (rowS s p n) p (n : Int)
def passS (s : Nat → Bool) : Nat → (Nat → Bool)
  | 0 => s
  | n + 1 => rowS (passS s n) (n : Int) 81
def timesS (s : Nat → Bool) : Nat → (Nat → Bool)
  | 0 => s
  | n + 1 => passS (timesS s n) 81
def startS (l : List Int) (x : Nat) : Bool := decide (x = 0) || decide ((x : Int) ∈ l)
def sumS (l : List Int) : Nat → Bool := timesS (startS l) 5
def setL (s : Nat → Bool) : List Int := filI 81 fun p => s p.toNat
def nineR (s : Nat → Bool) : List Int × Bool := if (setL s).length = 9 then (setL s, true) else ([], false)
def sumR (l : List Int) : List Int × Bool := if l.all nearB = true then nineR (sumS l) else ([], false)
theorem sum_l4 (s : Nat → Bool) (d : Nat) : ∀ i : Nat, i + d = 81 → Ev (fun k => spec_SpreadSum.l4 k (bL 81 s) (filI i fun p => s p.toNat) (i : Int)) (nineR s) := by
  induction d with
  | zero =>
    intro i hi
    obtain rfl : i = 81 := by omega
    refine Ev.step (fun k => by rw [spec_SpreadSum.l4]) ?_
    refine Ev.neg (by omega) ?_
    unfold nineR
    by_cases h : (setL s).length = 9
    · rw [if_pos h]
      exact Ev.pos (by unfold setL at h; omega) (Ev.done rfl)
    · rw [if_neg h]
      exact Ev.neg (by unfold setL at h; omega) (Ev.done rfl)
  | succ d ih =>
    intro i hi
    have nx := ih (i + 1) (by omega)
    rw [filI_succ, Int.toNat_natCast] at nx
    have hlen : (filI i fun p => s p.toNat).length ≤ i := filI_length_le _ _
    refine Ev.step (fun k => by rw [spec_SpreadSum.l4]) ?_
    rw [w64 (x := (i : Int) + 1) (by omega) (by omega), bL_rd (i : Int) (by omega) (by omega), Int.toNat_natCast]
    refine Ev.pos (by omega) (Ev.pos (by omega) (Ev.pos (by rw [bL_length]; omega) ?_))
    by_cases h : s i = true
    · rw [if_pos h] at nx
      exact Ev.pos h (Ev.pos (by omega) nx)
    · rw [if_neg h, List.append_nil] at nx
      exact Ev.neg h nx
theorem sum_l3 {s : Nat → Bool} (c : Int) {p : Nat} (hp : p < 81) {r : List Int × Bool} (hr : Ev (fun k => spec_SpreadSum.l2 k (bL 81 (rowS s (p : Int) 81)) c ((p : Int) + 1)) r) (d : Nat) :
    ∀ q : Nat, q + d = 81 → Ev (fun k => spec_SpreadSum.l3 k (bL 81 (rowS s (p : Int) q)) c (p : Int) (q : Int)) r := by
  induction d with
  | zero =>
    intro q hq
    obtain rfl : q = 81 := by omega
    refine Ev.step (fun k => by rw [spec_SpreadSum.l3]) ?_
    rw [w64 (x := (p : Int) + 1) (by omega) (by omega)]
    exact Ev.neg (by omega) hr
  | succ d ih =>
    intro q hq
    have nx := ih (q + 1) (by omega)
    have eR : rowS s (p : Int) (q + 1) = oneS (rowS s (p : Int) q) (p : Int) (q : Int) := rfl
    rw [eR] at nx
    generalize rowS s (p : Int) q = s1 at nx ⊢
    refine Ev.step (fun k => by rw [spec_SpreadSum.l3]) ?_
    rw [w64 (x := (q : Int) + 1) (by omega) (by omega), bL_rd (p : Int) (by omega) (by omega), bL_rd (q : Int) (by omega) (by omega), Int.toNat_natCast, Int.toNat_natCast]
    refine Ev.pos (by omega) (Ev.pos (by omega) (Ev.pos (by rw [bL_length]; omega) ?_))
    unfold oneS at nx
    rw [Int.toNat_natCast, Int.toNat_natCast] at nx
    by_cases h1 : s1 p = true
    · refine Ev.pos h1 (Ev.pos (by omega) (Ev.pos (by rw [bL_length]; omega) ?_))
      by_cases h2 : s1 q = true
      · rw [if_pos ⟨h1, h2⟩] at nx
        have hr := addF_range (p : Int) (q : Int)
        refine Ev.pos h2 (Ev.fix (l6lAdd_eq (nearB_iff.2 ⟨by omega, by omega⟩) (nearB_iff.2 ⟨by omega, by omega⟩)) (Ev.pos hr.1 (Ev.pos (by rw [bL_length]; exact hr.2) ?_)))
        rw [bL_set]
        exact nx
      · rw [if_neg (fun h => h2 h.2)] at nx
        exact Ev.neg h2 nx
    · rw [if_neg (fun h => h1 h.1)] at nx
      exact Ev.neg h1 nx
theorem sum_l2 {s : Nat → Bool} (c : Int) (c0 : 0 ≤ c) (c1 : c < 5) {r : List Int × Bool} (hr : Ev (fun k => spec_SpreadSum.l1 k (bL 81 (passS s 81)) (c + 1)) r) (d : Nat) :
    ∀ p : Nat, p + d = 81 → Ev (fun k => spec_SpreadSum.l2 k (bL 81 (passS s p)) c (p : Int)) r := by
  induction d with
  | zero =>
    intro p hp
    obtain rfl : p = 81 := by omega
    refine Ev.step (fun k => by rw [spec_SpreadSum.l2]) ?_
    rw [w64 (x := c + 1) (by omega) (by omega)]
    exact Ev.neg (by omega) hr
  | succ d ih =>
    intro p hp
    refine Ev.step (fun k => by rw [spec_SpreadSum.l2]) ?_
    exact Ev.pos (by omega) (sum_l3 c (by omega) (ih (p + 1) (by omega)) 81 0 (by omega))
theorem sum_l1 (s : Nat → Bool) (d : Nat) : ∀ c : Nat, c + d = 5 → Ev (fun k => spec_SpreadSum.l1 k (bL 81 (timesS s c)) (c : Int)) (nineR (timesS s 5)) := by
  induction d with
  | zero =>
    intro c hc
    obtain rfl : c = 5 := by omega
    refine Ev.step (fun k => by rw [spec_SpreadSum.l1]) ?_
    exact Ev.neg (by omega) (sum_l4 _ 81 0 (by omega))
  | succ d ih =>
    intro c hc
    refine Ev.step (fun k => by rw [spec_SpreadSum.l1]) ?_
    exact Ev.pos (by omega) (sum_l2 (c : Int) (by omega) (by omega) (ih (c + 1) (by omega)) 81 0 (by omega))
theorem sum_l0 {l : List Int} (hl : l.length ≤ 1048576) (d : Nat) : ∀ i : Int, 0 ≤ i → i + d = l.length → (∀ x ∈ l.take i.toNat, nearB x = true) → Ev (fun k => spec_SpreadSum.l0 k l (bL 81 (startS (l.take i.toNat))) i) (sumR l) := by
  induction d with
  | zero =>
    intro i i0 i1 h
    rw [List.take_of_length_le (by omega)] at h ⊢
    refine Ev.step (fun k => by rw [spec_SpreadSum.l0]) ?_
    refine Ev.neg (by omega) ?_
    unfold sumR
    rw [if_pos (List.all_eq_true.2 h)]
    exact sum_l1 (startS l) 5 0 (by omega)
  | succ d ih =>
    intro i i0 i1 h
    refine Ev.step (fun k => by rw [spec_SpreadSum.l0]) ?_
    rw [w64 (x := i + 1) (by omega) (by omega)]
    refine Ev.pos (by omega) (Ev.pos i0 (Ev.fix (l6In80 _) ?_))
    have et : l.take (i + 1).toNat = l.take i.toNat ++ [rd l i] := by
      rw [show (i + 1).toNat = i.toNat + 1 by omega, List.take_add_one, List.getElem?_eq_getElem (by omega), Option.toList_some]
      rw [show l[i.toNat]'(by omega) = rd l i from (rd_getElem i0 (by omega)).symm]
    by_cases hn : nearB (rd l i) = true
    · obtain ⟨r0, r1⟩ := nearB_iff.1 hn
      refine Ev.pos hn (Ev.pos r0 (Ev.pos (by rw [bL_length]; exact r1) ?_))
      have nx := ih (i + 1) (by omega) (by omega) fun x hx => by
        rw [et] at hx
        rcases List.mem_append.1 hx with hx | hx
        · exact h x hx
        · rw [List.mem_singleton.1 hx]; exact hn
      rw [bL_set]
      have eB : bL 81 (fun x => if x = (rd l i).toNat then true else startS (l.take i.toNat) x) = bL 81 (startS (l.take (i + 1).toNat)) := bL_congr fun x _ => by
        unfold startS
        rw [et]
        by_cases e : x = (rd l i).toNat
        · rw [if_pos e, decide_eq_true (show (x : Int) ∈ l.take i.toNat ++ [rd l i] from List.mem_append.2 (.inr (List.mem_singleton.2 (by omega)))), Bool.or_true]
        · rw [if_neg e]
          refine congrArg _ (decide_eq_decide.2 ?_)
          rw [List.mem_append, List.mem_singleton]
          exact ⟨.inl, fun h => h.elim id fun h => absurd h (by omega)⟩
      rw [eB]
      exact nx
    · refine Ev.neg hn (Ev.done ?_)
      unfold sumR
      rw [if_neg]
      intro ha
      exact hn (List.all_eq_true.1 ha _ (rd_mem (by omega) i0))
theorem specSum_ev {l : List Int} (hl : l.length ≤ 1048576) : Ev (fun k => spec_SpreadSum.f k l) (sumR l) := by
  unfold spec_SpreadSum.f
  refine Ev.pos (by decide) ?_
  rw [bL_replicate]
  refine Ev.fix rfl (Ev.pos (by rw [bL_length]; omega) ?_)
  have e0 : (bL 81 fun _ => false).set (0 : Int).toNat true = bL 81 (startS (l.take (0 : Int).toNat)) := by
    rw [bL_set]
    exact bL_congr fun x _ => by unfold startS; simp
  rw [e0]
  exact sum_l0 hl l.length 0 (by omega) (by omega) (fun x hx => by simp at hx)
theorem nineR_length (s : Nat → Bool) : (nineR s).1.length ≤ 9 := by
  unfold nineR
  by_cases h2 : (setL s).length = 9
  · rw [if_pos h2]; exact Nat.le_of_eq h2
  · rw [if_neg h2]; exact Nat.zero_le _
theorem nineR_nine {s : Nat → Bool} (h : (nineR s).2 = true) : (nineR s).1.length = 9 := by
  unfold nineR at h ⊢
  by_cases h2 : (setL s).length = 9
  · rw [if_pos h2]; exact h2
  · rw [if_neg h2] at h; exact absurd h (by decide)
theorem sumR_length (l : List Int) : (sumR l).1.length ≤ 9 := by
  unfold sumR
  by_cases h : l.all nearB = true
  · rw [if_pos h]; exact nineR_length _
  · rw [if_neg h]; exact Nat.zero_le _
theorem sumR_nine {l : List Int} (h : (sumR l).2 = true) : (sumR l).1.length = 9 := by
  unfold sumR at h ⊢
  by_cases h1 : l.all nearB = true
  · rw [if_pos h1] at h ⊢; exact nineR_nine h
  · rw [if_neg h1] at h; exact absurd h (by decide)
end Go.Proofs.Ytbfafjejmljcpaa.X

set_option linter.unusedVariables false
set_option linter.unusedSimpArgs false
namespace Go.Proofs.Ytbfafjejmljcpaa.X
open Go.RowKit Go.Proofs.YtbfafjejmljcpaaW.PrintWords Go.Proofs.YtbfafjejmljcpaaW.PrintLast Go.Proofs.Ytbfafjejmljcpaa.P

theorem leaf_ev {s : List Int} (hs : RdS s) {p : Int} (h0 : 0 ≤ p) (h1 : p ≤ 1099511000000) : ∃ l q, l.length ≤ 9 ∧ (p ≤ q ∧ q ≤ p + 3) ∧ Ev (fun k => spec_l91Leaf.f k s p) (l, q) := by
  obtain ⟨a, ha, ea⟩ := pick_ev hs h0 (by omega) (n := 81) (by omega) (by omega)
  obtain ⟨b, hb, eb⟩ := pick_ev hs (p := p + 1) (by omega) (by omega) (n := 81) (by omega) (by omega)
  obtain ⟨c, hc, ec⟩ := pick_ev hs (p := p + 1 + 1) (by omega) (by omega) (n := 16) (by omega) (by omega)
  obtain ⟨d, hd, ed⟩ := pick_ev hs (p := p + 1 + 1) (by omega) (by omega) (n := 8) (by omega) (by omega)
  have es := specSum_ev (l := [a, b]) (show 2 ≤ 1048576 by omega)
  have hlen := sumR_length [a, b]
  have h9 : (sumR [a, b]).2 = true → (sumR [a, b]).1.length = 9 := sumR_nine
  generalize sumR [a, b] = R at es hlen h9
  by_cases hk : R.2 = true
  · have h9 := h9 hk
    by_cases c0 : c = 0
    · refine ⟨[] ++ R.1.drop 1, p + 1 + 1 + 1, by rw [List.nil_append, List.length_drop]; omega, by omega, ?_⟩
      unfold spec_l91Leaf.f
      exact Ev.bind ea (Ev.bind eb (Ev.bind es (Ev.pos hk (Ev.bind ec (Ev.pos c0 (Ev.fix rfl (Ev.pos (by omega) (Ev.fix rfl (Ev.pos (by rw [List.length_nil, List.length_drop]; omega) (Ev.done rfl))))))))))
    · refine ⟨R.1, p + 1 + 1 + 1, hlen, by omega, ?_⟩
      unfold spec_l91Leaf.f
      exact Ev.bind ea (Ev.bind eb (Ev.bind es (Ev.pos hk (Ev.bind ec (Ev.neg c0 (Ev.done rfl))))))
  · refine ⟨otherL (1 + d), p + 1 + 1 + 1, Nat.le_of_eq (other_len _ (by omega) (by omega)), by omega, ?_⟩
    unfold spec_l91Leaf.f
    refine Ev.bind ea (Ev.bind eb (Ev.bind es (Ev.neg hk (Ev.bind ed ?_))))
    dsimp only
    rw [w64 (x := 1 + d) (by omega) (by omega)]
    exact Ev.bind (other_ev _ (by omega) (by omega)) (Ev.done rfl)
end Go.Proofs.Ytbfafjejmljcpaa.X

set_option linter.unusedVariables false
set_option linter.unusedSimpArgs false
namespace Go.Proofs.Ytbfafjejmljcpaa.X
open Go.RowKit Go.Proofs.YtbfafjejmljcpaaW.PrintWords Go.Proofs.YtbfafjejmljcpaaW.PrintLast Go.Proofs.Ytbfafjejmljcpaa.P

def Few (l : List (List Int)) : Prop := l.length ≤ 10 ∧ ∀ a ∈ l, a.length ≤ 9
theorem spread_j0 {s : List Int} (hs : RdS s) {p : Int} (h0 : 0 ≤ p) (h1 : p ≤ 1099510900000) {l : List (List Int)} (hl : l.length = 10) (h9 : ∀ a ∈ l, a.length = 9) : ∃ l' q, Few l' ∧ (p ≤ q ∧ q ≤ p + 4) ∧ Ev (fun k => spec_l91Spread.j0 k l s p) (l', q) := by
  obtain ⟨a, ha, ea⟩ := pick_ev hs h0 (by omega) (n := 24) (by omega) (by omega)
  obtain ⟨f, q, hf, hq, ef⟩ := leaf_ev hs (p := p + 1) (by omega) (by omega)
  by_cases e : a = 0
  · refine ⟨l.set (3 : Int).toNat f, q, ⟨by rw [List.length_set]; omega, fun x hx => ?_⟩, by omega, ?_⟩
    · rcases List.mem_or_eq_of_mem_set hx with h | h
      · rw [h9 x h]; omega
      · rw [h]; exact hf
    · refine Ev.step (fun k => by rw [spec_l91Spread.j0]) ?_
      exact Ev.bind ea (Ev.pos e (Ev.bind ef (Ev.pos (by omega) (Ev.done rfl))))
  · refine ⟨l, p + 1, ⟨by omega, fun x hx => by rw [h9 x hx]; omega⟩, by omega, ?_⟩
    refine Ev.step (fun k => by rw [spec_l91Spread.j0]) ?_
    exact Ev.bind ea (Ev.neg e (Ev.done rfl))
theorem dspread_ev {s : List Int} (hs : RdS s) {p : Int} (h0 : 0 ≤ p) (h1 : p ≤ 1099510000000) : ∃ l q, Few l ∧ (p ≤ q ∧ q ≤ p + 20) ∧ Ev (fun k => spec_l91Spread.f k s p) (l, q) := by
  obtain ⟨t, q, ht, hq, et⟩ := system_ev hs h0 (by omega)
  have htl := ht.len
  have eo := specSpreadOf_ev (t := t) (by omega)
  by_cases hsy : sysB t = true
  case neg =>
    rw [show spreadR t = ([], false) from if_neg hsy] at eo
    refine ⟨[], q, ⟨by decide, fun a ha => by cases ha⟩, by omega, ?_⟩
    unfold spec_l91Spread.f
    exact Ev.bind et (Ev.bind eo (Ev.neg (by decide) (Ev.done rfl)))
  rw [show spreadR t = (spreadN t 9, true) from if_pos hsy] at eo
  obtain ⟨a, ha, ea⟩ := pick_ev hs (p := q) (by omega) (by omega) (n := 3) (by omega) (by omega)
  obtain ⟨l1, q1, hl1, hq1, e1⟩ := spread_j0 hs (p := q + 1) (by omega) (by omega) (spreadN_length t 9) (spreadN_nines t 9)
  by_cases e : a = 0
  · have ed := specDerive_ev (spreadN t 9)
    by_cases hd : spreadB (spreadN t 9) = true ∧ (restN (spreadN t 9) 10).length = 6
    · rw [show deriveR (spreadN t 9) = (deriveL (spreadN t 9), true) from if_pos hd] at ed
      obtain ⟨l2, q2, hl2, hq2, e2⟩ := spread_j0 hs (p := q + 1) (by omega) (by omega) (l := deriveL (spreadN t 9)) (by rw [deriveL_length]; omega) (deriveL_nines hd.1)
      refine ⟨l2, q2, hl2, by omega, ?_⟩
      unfold spec_l91Spread.f
      exact Ev.bind et (Ev.bind eo (Ev.pos rfl (Ev.bind ea (Ev.pos e (Ev.bind ed (Ev.pos rfl e2))))))
    · rw [show deriveR (spreadN t 9) = ([], false) from if_neg hd] at ed
      refine ⟨l1, q1, hl1, by omega, ?_⟩
      unfold spec_l91Spread.f
      exact Ev.bind et (Ev.bind eo (Ev.pos rfl (Ev.bind ea (Ev.pos e (Ev.bind ed (Ev.neg (by decide) e1))))))
  · refine ⟨l1, q1, hl1, by omega, ?_⟩
    unfold spec_l91Spread.f
    exact Ev.bind et (Ev.bind eo (Ev.pos rfl (Ev.bind ea (Ev.neg e e1))))
end Go.Proofs.Ytbfafjejmljcpaa.X

set_option linter.unusedVariables false
set_option linter.unusedSimpArgs false
namespace Go.Proofs.Ytbfafjejmljcpaa.X
open Go.RowKit Go.Proofs.YtbfafjejmljcpaaW.PrintWords Go.Proofs.YtbfafjejmljcpaaW.PrintLast Go.Proofs.Ytbfafjejmljcpaa.P

theorem sameInts_loop (a b : List Int) (hl : a.length ≤ 1048576) (hab : a.length = b.length) (d : Nat) : ∀ (i : Int), 0 ≤ i → i + d = a.length → (∀ j : Nat, (j : Int) < i → rd a (j : Int) = rd b (j : Int)) → Ev (fun k => laws_sameInts.l0 k a b i) (decide (a = b)) := by
  induction d with
  | zero =>
    intro i h0 h1 h
    refine Ev.step (fun k => by rw [laws_sameInts.l0]) ?_
    refine Ev.neg (by omega) (Ev.done ?_)
    rw [decide_eq_true (ext_rd hab fun j hj => h j (by omega))]
  | succ d ih =>
    intro i h0 h1 h
    refine Ev.step (fun k => by rw [laws_sameInts.l0]) ?_
    simp (disch := omega) only [w64]
    refine Ev.pos (by omega) (Ev.pos (by omega) (Ev.pos (by omega) ?_))
    by_cases e : rd a i = rd b i
    · refine Ev.pos e (ih (i + 1) (by omega) (by omega) fun j hj => ?_)
      by_cases ej : (j : Int) = i
      · rw [ej]; exact e
      · exact h j (by omega)
    · refine Ev.neg e (Ev.done ?_)
      rw [decide_eq_false (fun hab => e (by rw [hab]))]
theorem sameInts_ev (a b : List Int) (hl : a.length ≤ 1048576) : Ev (fun k => laws_sameInts.f k a b) (decide (a = b)) := by
  unfold laws_sameInts.f
  by_cases h : a.length = b.length
  · exact Ev.pos (by omega) (sameInts_loop a b hl h a.length 0 (by omega) (by omega) fun j hj => by omega)
  · refine Ev.neg (by omega) (Ev.done ?_)
    rw [decide_eq_false (fun hab => h (by rw [hab]))]
end Go.Proofs.Ytbfafjejmljcpaa.X

set_option linter.unusedVariables false
set_option linter.unusedSimpArgs false
namespace Go.Proofs.Ytbfafjejmljcpaa.X
open Go.RowKit Go.Proofs.YtbfafjejmljcpaaW.PrintWords Go.Proofs.YtbfafjejmljcpaaW.PrintLast Go.Proofs.Ytbfafjejmljcpaa.P

theorem sameRows_l0 {a b : List (List Int)} (hl : a.length ≤ 1048576) (hs : ∀ x ∈ a, x.length ≤ 1048576) (hab : a.length = b.length) (d : Nat) : ∀ i : Int, 0 ≤ i → i + d = a.length → (∀ j : Nat, (j : Int) < i → rd_LI a (j : Int) = rd_LI b (j : Int)) → Ev (fun k => laws_sameRows.l0 k a b i) (decide (a = b)) := by
  induction d with
  | zero =>
    intro i i0 i1 h
    refine Ev.step (fun k => by rw [laws_sameRows.l0]) ?_
    refine Ev.neg (by omega) (Ev.done ?_)
    rw [decide_eq_true (ext_rdL hab fun j hj => h j (by omega))]
  | succ d ih =>
    intro i i0 i1 h
    refine Ev.step (fun k => by rw [laws_sameRows.l0]) ?_
    rw [w64 (x := i + 1) (by omega) (by omega)]
    refine Ev.pos (by omega) (Ev.pos i0 (Ev.pos (by omega) (Ev.bind (sameInts_ev _ _ (hs _ (rdL_mem i0 (by omega)))) ?_)))
    by_cases e : rd_LI a i = rd_LI b i
    · refine Ev.pos (decide_eq_true e) (ih (i + 1) (by omega) (by omega) fun j hj => ?_)
      by_cases ej : (j : Int) = i
      · rw [ej]; exact e
      · exact h j (by omega)
    · refine Ev.neg (by simpa using e) (Ev.done ?_)
      rw [decide_eq_false fun hab => e (by rw [hab])]
theorem sameRows_ev (a b : List (List Int)) (hl : a.length ≤ 1048576) (hs : ∀ x ∈ a, x.length ≤ 1048576) : Ev (fun k => laws_sameRows.f k a b) (decide (a = b)) := by
  unfold laws_sameRows.f
  by_cases h : a.length = b.length
  · exact Ev.pos (by omega) (sameRows_l0 hl hs h a.length 0 (by omega) (by omega) fun j hj => by omega)
  · refine Ev.neg (by omega) (Ev.done ?_)
    rw [decide_eq_false fun e => h (by rw [e])]
end Go.Proofs.Ytbfafjejmljcpaa.X

set_option linter.unusedVariables false
set_option linter.unusedSimpArgs false
namespace Go.Proofs.Ytbfafjejmljcpaa.Pure
open Go.RowKit Go.Proofs.Ytbfafjejmljcpaa.P Go.Proofs.YtbfafjejmljcpaaW.PrintWords Go.Proofs.YtbfafjejmljcpaaW.PrintLast Go.Proofs.Ytbfafjejmljcpaa.X

theorem deriveR_rows (l : List (List Int)) : (deriveR l).1.length ≤ 1048576 ∧ ∀ x ∈ (deriveR l).1, x.length ≤ 1048576 := by
  unfold deriveR
  by_cases h : spreadB l = true ∧ (restN l 10).length = 6
  · rw [if_pos h]
    exact ⟨by rw [deriveL_length, h.2]; omega, fun x hx => by rw [deriveL_nines h.1 x hx]; omega⟩
  · rw [if_neg h]
    exact ⟨by simp, fun x hx => absurd hx (by simp)⟩
theorem FnDerive : laws_FnDerive.Pure := by
  intro l0 _ _ hu
  refine Ev.rounds ?_
  unfold laws_FnDerive.f
  by_cases hb : (l0.length : Int) > 1048576
  · exact Ev.pos hb (Ev.done rfl)
  refine Ev.neg hb ?_
  obtain ⟨s, hs, eo⟩ := open_ev l0 hu
  obtain ⟨l, q, _, _, el⟩ := dspread_ev hs (p := 0) (by omega) (by omega)
  have ed : Ev (fun k => spec_DrawSpreadDerive.f k l0) l := by
    unfold spec_DrawSpreadDerive.f
    exact Ev.fix eo (Ev.bind el (Ev.done rfl))
  refine Ev.bind ed (Ev.fix (show impl_SpreadDerive.f l = some (deriveR l) from rfl) (Ev.bind (specDerive_ev l) (Ev.neg (by simp) ?_)))
  have hl := deriveR_rows l
  obtain ⟨r, hr⟩ : ∃ r, deriveR l = r := ⟨_, rfl⟩
  rw [hr] at hl ⊢
  refine Ev.bind (sameRows_ev r.1 r.1 hl.1 hl.2) (Ev.pos (by simp) ?_)
  refine Ev.step (fun k => by rw [laws_FnDerive.j0]) ?_
  by_cases h : spreadB l = true ∧ (restN l 10).length = 6
  case neg =>
    unfold deriveR at hr
    rw [if_neg h] at hr
    subst hr
    exact Ev.pos (by decide) (Ev.pos (by simp) (Ev.bind (sameRows_ev [] [] (by simp) (by simp)) (Ev.done (by simp))))
  unfold deriveR at hr
  rw [if_pos h] at hr
  subst hr
  have h6 : (restI l 10).length = 6 := by rw [restI_length]; exact h.2
  have hsp := derive_spread h.1 h6
  refine Ev.neg (by simp) ?_
  have es : sameR l (deriveL l) = (6, true) := by
    unfold sameR
    rw [h.1, hsp, if_pos (by decide), derive_same 10 (by omega), h6]; rfl
  have hin : impl_SpreadIn.f (deriveL l) = some true := by
    unfold impl_SpreadIn.f
    rw [show impl_isSpread.f (deriveL l) = some (spreadB (deriveL l)) from rfl, hsp]; rfl
  refine Ev.bind (implSame_ev l (deriveL l)) ?_
  rw [es]
  refine Ev.fix (show impl_SpreadDerive.f (deriveL l) = some (deriveR (deriveL l)) from rfl) ?_
  rw [derive_again h.1 h6]
  exact Ev.pos rfl (Ev.pos rfl (Ev.neg (by decide) (Ev.fix hin (Ev.done rfl))))
end Go.Proofs.Ytbfafjejmljcpaa.Pure

namespace Go.Proofs.YtbfafjejmljcpaaW.PrintWords
open Go.ChangeShapes Go.WideShapes
theorem sized_ints {H : Type} {enc : TypeId × Value → H} {P : Program} {W : World} {base : Nat} {spare : Nat → Bool} {held : Bool} {t e : TypeId} {k : IntKind} {a : Option Addr} {len cap : Nat} {d : DataW H} {ps : List MemPlace} {ts : List TypeId} {ds : List (DataW H)} {j : Nat}
    (hsz : (DataW.weightsEach P ts ds).all (· ≤ reachBytes) = true) (ht : ts[j]? = some t) (hd : ds[j]? = some d) (hu : P.underlying t = some (.slice e)) (he : P.underlying e = some (.int k)) (hc : P.cellsOf e = 1) {B : Nat} (hB : P.bytesOf e = B)
    (h : DataW.Trod enc P W base spare held t (.slice a len cap) d ps) : len * B ≤ 140737488351232 := by
  obtain ⟨fuel, hf⟩ := h
  rcases open_ints hu he hc hf with ⟨hcs, _⟩ | ⟨x, l, c, zs, hcs, _, hl, _, hz, hx, _, _⟩
  · simp [Value.cells] at hcs
    obtain ⟨rfl, rfl, rfl⟩ := hcs
    simp
  · simp [Value.cells] at hcs
    obtain ⟨rfl, rfl, rfl⟩ := hcs
    obtain ⟨hx, _⟩ := Prod.mk.inj hx
    subst hx
    have z := sized_slice hsz ht hd hu
    rw [hB] at z
    have hl2 : len ≤ zs.length := by
      rw [hz]
      split
      · exact hl
      · exact Nat.le_refl _
    have h1 : (lits (H := H) k (zs.take len)).length + (lits (H := H) k (zs.drop len)).length = zs.length := by
      simp [lits]
      omega
    rw [h1] at z
    exact Nat.le_trans (Nat.mul_le_mul_right _ hl2) z
end Go.Proofs.YtbfafjejmljcpaaW.PrintWords

namespace Go.Proofs.Ytbfafjejmljcpaa.fnDerive
open Go.ChangeShapes Go.WideShapes Go.ChangeAt Go.RowKit
open Go.ChangeMaps (open_string shut_string)
set_option linter.unusedVariables false
theorem own : ownKnob Try.prog.godebug = none := by kernel_rfl
theorem laidOut : laidOutB Try.prog = true := by kernel_rfl
def IsRow (k : IntKind) (w : World) (a : Option Addr) (len cap : Nat) (zs : List Int) : Prop :=
  (a = none ∧ len = 0 ∧ cap = 0 ∧ zs = []) ∨
  ∃ x, a = some x ∧ len ≤ cap ∧ cap ≤ maxLen ∧ zs.length = cap ∧ (∀ i, i < zs.length → w.cell? (x.add i) = some (.int k (zs.getD i 0))) ∧ ∀ n ∈ zs, (Lit.int k n).wf = true
set_option maxRecDepth 100000 in
theorem lifted (os : Os) (started : os.Started) (H : Type) (enc : TypeId × Value → H) :
    ReturnsInHanded {} Try.checked os 10 .any (Rows.fnDeriveSpec.pre6 enc Try.prog Try.f10 Rows.fnDeriveRow.domain false) (Rows.fnDeriveSpec.post enc Try.prog Try.f10 false true false false) := by
  refine returnsInHanded_of_change_sized (C := Try.checked) own started (by kernel_rfl) Try.func10
    (ChangeSpec.witness6 (enc := enc) (C := Try.checked) false ⟨#[], #[.slice none 0 0], []⟩ 8 (by kernel_rfl) (by kernel_rfl) (by kernel_rfl) (by kernel_rfl)) ?_
  intro W base args ds gs before hval0 hW hcnd hsz0 _
  have hsz : (DataW.weightsEach Try.prog (Try.f10.params.toList ++ Rows.fnDeriveSpec.plain.varTypes Try.prog) (ds ++ gs)).all (· ≤ reachBytes) = true := hsz0
  have hval : ∀ (j : Nat) t v, Try.f10.params[j]? = some t → args[j]? = some v → Value.okWide Try.prog W .any base t v := hval0
  have hW' := hW
  obtain ⟨p, q, hA0, hV, rfl, hfz, hnd⟩ := hW
  have hA : DataW.TrodAll enc Try.prog W 0 (fun _ => true) true Try.f10.params.toList args.toList ds p := hA0
  rw [Try.params10] at hA hval hsz
  obtain ⟨v0, vs0, d0, ds0, p0, q0, hargs, rfl, rfl, h0, r0⟩ := trodAll_cons hA
  obtain ⟨rfl, rfl, rfl⟩ := trodAll_nil r0
  obtain rfl : args = #[v0] := by cases args; simp_all
  obtain ⟨rfl, rfl⟩ := trodVars_none hV
  obtain ⟨a0, len0, cap0, rfl⟩ := okWide_slice Try.underlying22 (hval 0 22 v0 rfl rfl)
  have k0 := h0
  have lt0 : ∀ x ∈ p0, x.block < W.heap.size := by obtain ⟨m, hm⟩ := k0; exact DataW.trod_lt m _ _ _ hm
  obtain ⟨z0, w0⟩ : ∃ zs, IsRow .u8 W a0 len0 cap0 zs := by
    obtain ⟨fuel, hf⟩ := h0
    rcases open_ints Try.underlying22 Try.underlying5 (by kernel_rfl) hf with ⟨hcs, _⟩ | ⟨x, l, c, zs, hcs, _, hl, hm, hz, _, hcell, hwz⟩
    · simp [Value.cells] at hcs
      obtain ⟨rfl, rfl, rfl⟩ := hcs
      exact ⟨[], .inl ⟨rfl, rfl, rfl, rfl⟩⟩
    · simp [Value.cells] at hcs
      obtain ⟨rfl, rfl, rfl⟩ := hcs
      exact ⟨zs, .inr ⟨_, rfl, hl, hm, by simpa using hz, hcell, hwz⟩⟩
  have y0 : len0 * 1 ≤ 140737488351232 := Go.Proofs.YtbfafjejmljcpaaW.PrintWords.sized_ints hsz (j := 0) (t := 22) rfl rfl Try.underlying22 Try.underlying5 (by kernel_rfl) (by kernel_rfl) h0
  clear hA0 hval0 hsz0 hsz
  refine (P.laws_FnDerive.walk Pure.FnDerive a0 len0 cap0 z0 W w0 y0).mono fun e W' ⟨he, bel⟩ => ?_
  subst he
  exact ⟨_, rfl, _, _, _, [], _, [], hW', trodAll_mk1 (shut_bool Try.underlying4 _), (trodAll_cons_mk (Below.trod laidOut (by kernel_rfl) (of_decide_eq_true (by kernel_rfl)) k0 bel lt0) trodAll_mk0), rfl, bel.frame _, fun h => by cases h⟩
theorem over : Rows.fnDeriveRow.holds Try.pinned (OpenSpec.ofChange Rows.fnDeriveSpec) :=
  OpenClaim.holds_of_wide 10 Try.f10 rfl rfl rfl rfl rfl rfl rfl ⟨rfl, rfl, rfl, rfl, rfl⟩ rfl rfl rfl rfl rfl (by kernel_rfl) Try.func10 (by kernel_rfl)
    (of_decide_eq_true (by kernel_rfl)) (by unfold Func.isWrapper; first | (rw [if_pos (by decide +kernel)]; kernel_rfl) | (rw [if_neg (by decide +kernel)]; exact ⟨rfl, rfl⟩))
    (fun os started H enc _ => lifted os started H enc)
theorem proved : Rows.FnDeriveSaid := over
#print axioms proved
end Go.Proofs.Ytbfafjejmljcpaa.fnDerive
namespace Go.Proofs.Ytbfafjejmljcpaa
theorem fnDerive_holds : Rows.FnDeriveSaid := fnDerive.proved
end Go.Proofs.Ytbfafjejmljcpaa
