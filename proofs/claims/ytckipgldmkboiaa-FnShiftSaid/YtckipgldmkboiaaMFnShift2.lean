/- The law FnShift of the given program: for every input the call returns true, and each argument reads afterwards as it read before. No conditions. (Part 3 of 3; the last part holds the theorem.) -/
import Derived.Test.YtckipgldmkboiaaMFnShift1
import Derived.Test.YtckipgldmkboiaaMFnShift0
import Derived.Deep.RegionHeld3
import Derived.Test.YtckipgldmkboiaaRows
import Derived.WalkKit
import Derived.ProofKit
import Derived.OpenShut
import Derived.ShutString
import Derived.ChangeOld
import Derived.Below
import Derived.SizedLaws
import Derived.Test.YtckipgldmkboiaaWSized
set_option linter.unusedVariables false
set_option linter.unusedSimpArgs false
namespace Go.Proofs.Ytckipgldmkboiaa.X
open Go.RowKit Go.Proofs.YtckipgldmkboiaaW.PrintWords Go.Proofs.YtckipgldmkboiaaW.PrintLast Go.Proofs.Ytckipgldmkboiaa.P

def shiftF (a b x y : Int) : Int := 9 * addN x a + addN y b
theorem entersMS : Eg 74 := enters_of Try.func74 (by kernel_rfl) rfl
set_option maxHeartbeats 2000000 in
theorem moveShift1_calls (ba bb : Nat) (a b : Int) (hA : In9 a) (hB : In9 b) (w : World) (ha : w.cell? ⟨ba, 0, none⟩ = some (.int .i64 a)) (hb : w.cell? ⟨bb, 0, none⟩ = some (.int .i64 b)) (x y : Int) (hx : In9 x) (hy : In9 y) :
    Calls Try.prog 74 #[.int .i64 x, .int .i64 y, .pointer (some ⟨ba, 0, none⟩), .pointer (some ⟨bb, 0, none⟩)] w fun e w' => e = .returned (.int .i64 (shiftF a b x y)) ∧ Below w.heap.size w w' := by
  have C1 := Aside0.mk (add_calls x a hx hA)
  have C2 := Aside0.mk (add_calls y b hy hB)
  obtain ⟨r0, r1⟩ := addN_range x a
  obtain ⟨s0, s1⟩ := addN_range y b
  unfold shiftF
  obtain ⟨u, hu⟩ : ∃ u, addN x a = u := ⟨_, rfl⟩
  obtain ⟨v, hv⟩ : ∃ v, addN y b = v := ⟨_, rfl⟩
  rw [hu] at C1 r0 r1 ⊢
  rw [hv] at C2 s0 s1 ⊢
  clear hu hv hA hB hx hy
  go_enter Try.func74, Try.ntmps74
  go_wp2
  go_quiet ((first | (go_at_call 75; with_reducible exact qd (C1.out _)) | (go_at_call 75; with_reducible exact qd (C2.out _))))
  go_wp2
  go_ret
  exact ⟨rfl, Drawn0.below ⟨⟨_, rfl⟩⟩⟩

def shiftL (a b : Int) : List Int := moveL (shiftF a b)
set_option maxRecDepth 100000 in
set_option maxHeartbeats 4000000 in
theorem moveShift_yes (A0 : Option Addr) (c0 : Nat) (t : List Int) (a b : Int) (w : World) (hr : Kd.C (Kd.int .i64) w A0 t.length t) (hs : sysB t = true) (hA : isN a = true) (hB : isN b = true) :
    Calls Try.prog 32 #[.slice A0 t.length c0, .int .i64 a, .int .i64 b] w fun e w' => ∃ v : Value, e = .returned (.tuple #[v, .bool true]) ∧ Kd.R (Kd.int .i64) 3 w' w.heap.size (fun _ => True) v (shiftL a b) ∧ Below w.heap.size w w' := by
  have hmf : ∀ (fn : Fn) (first cap : Array Value) (w : World), (Instr.makeFunc fn first cap).run Try.prog w = .ok (.func fn first cap) w := fun _ _ _ _ => rfl
  have hb0 : Below w.heap.size w ((w.alloc (.cells #[.int .i64 a] 3)).alloc (.cells #[.int .i64 b] 3)) := ((Below.refl _ _).alloc (Nat.le_refl _) _).alloc (by simp) _
  have hcall := isSystem_calls A0 c0 t _ (Kd.C_below hr hb0)
  rw [hs] at hcall
  have ha1 : ((w.alloc (.cells #[.int .i64 a] 3)).alloc (.cells #[.int .i64 b] 3)).cell? ⟨w.heap.size, 0, none⟩ = some (.int .i64 a) := by
    rw [World.cell?_alloc_past _ _ _ (by simp)]; exact World.cell?_alloc_at _ _ _ _ rfl
  have hb1 : ((w.alloc (.cells #[.int .i64 a] 3)).alloc (.cells #[.int .i64 b] 3)).cell? ⟨w.heap.size + 1, 0, none⟩ = some (.int .i64 b) := World.cell?_alloc_at _ _ _ _ (by simp)
  have HC := Aside0.mk hcall
  have HB0 := Aside0.mk hb0
  have HA1 := Aside0.mk ha1
  have HB1 := Aside0.mk hb1
  have N1 := isNine_calls a
  have N2 := isNine_calls b
  rw [hA] at N1
  rw [hB] at N2
  have HN1 := Aside0.mk N1
  have HN2 := Aside0.mk N2
  have HRA := Aside0.mk (isN_iff.1 hA)
  have HRB := Aside0.mk (isN_iff.1 hB)
  clear hcall hb0 ha1 hb1 hr hs hA hB N1 N2
  go_enter Try.func32, Try.ntmps32
  go_wp2_with fail
  refine HC.out.mono ?_
  rintro e w1 ⟨rfl, hbw⟩
  have ha2 : w1.cell? ⟨w.heap.size, 0, none⟩ = some (.int .i64 a) := (hbw.cell (World.block_lt_of_cell? _ _ HA1.out)).trans HA1.out
  have hb2 : w1.cell? ⟨w.heap.size + 1, 0, none⟩ = some (.int .i64 b) := (hbw.cell (World.block_lt_of_cell? _ _ HB1.out)).trans HB1.out
  have HBW := Aside0.mk (bstep HB0.out hbw)
  clear hbw HC HA1 HB1 HB0
  go_wp2_with (go_at_call 72; first | (with_reducible refine (HN1.out _).mono ?_; rintro e w' ⟨rfl, ⟨nd, rfl⟩⟩) | (with_reducible refine (HN2.out _).mono ?_; rintro e w' ⟨rfl, ⟨nd, rfl⟩⟩))
  have key : ∀ W : World, Drawn0 w1 W → Calls Try.prog 73 #[.func (.func 74) #[] #[.pointer (some ⟨w.heap.size, 0, none⟩), .pointer (some ⟨w.heap.size + 1, 0, none⟩)]] W fun e w' => ∃ v : Value, e = .returned v ∧ Kd.R (Kd.int .i64) 3 w' W.heap.size (fun _ => True) v (shiftL a b) ∧ Below W.heap.size W w' := fun W hW =>
    moveBy_calls 74 _ entersMS (shiftF a b) W (fun W2 x y hW2 hd =>
      moveShift1_calls _ _ a b HRA.out HRB.out W2 ((hW2.cell (World.block_lt_of_cell? _ _ ((hW.below.cell (World.block_lt_of_cell? _ _ ha2)).trans ha2))).trans ((hW.below.cell (World.block_lt_of_cell? _ _ ha2)).trans ha2))
        ((hW2.cell (World.block_lt_of_cell? _ _ ((hW.below.cell (World.block_lt_of_cell? _ _ hb2)).trans hb2))).trans ((hW.below.cell (World.block_lt_of_cell? _ _ hb2)).trans hb2)) x y hd.1 hd.2)
  refine (key _ ⟨⟨_, rfl⟩⟩).mono ?_
  rintro e w2 ⟨v, rfl, ho, hb⟩
  have HO := Aside0.mk ho
  have HB2 := Aside0.mk hb
  clear ho hb key
  go_wp2
  go_ret2
  have hsz : w.heap.size ≤ w1.heap.size := HBW.out.size
  exact ⟨_, rfl, Kd.R_lower HO.out (by simpa using hsz), HBW.out.trans (Below.trans (Below.mono (Drawn0.below ⟨⟨_, rfl⟩⟩) hsz) (HB2.out.mono (by simpa using hsz)))⟩

set_option maxRecDepth 100000 in
set_option maxHeartbeats 4000000 in
theorem moveShift_no (A0 : Option Addr) (c0 : Nat) (t : List Int) (a b : Int) (w : World) (hr : Kd.C (Kd.int .i64) w A0 t.length t) (h : (sysB t && (isN a && isN b)) = false) :
    Calls Try.prog 32 #[.slice A0 t.length c0, .int .i64 a, .int .i64 b] w fun e w' => e = .returned (.tuple #[.slice none 0 0, .bool false]) ∧ Below w.heap.size w w' := by
  have hb0 : Below w.heap.size w ((w.alloc (.cells #[.int .i64 a] 3)).alloc (.cells #[.int .i64 b] 3)) := ((Below.refl _ _).alloc (Nat.le_refl _) _).alloc (by simp) _
  have hcall := isSystem_calls A0 c0 t _ (Kd.C_below hr hb0)
  have ha1 : ((w.alloc (.cells #[.int .i64 a] 3)).alloc (.cells #[.int .i64 b] 3)).cell? ⟨w.heap.size, 0, none⟩ = some (.int .i64 a) := by
    rw [World.cell?_alloc_past _ _ _ (by simp)]; exact World.cell?_alloc_at _ _ _ _ rfl
  have hb1 : ((w.alloc (.cells #[.int .i64 a] 3)).alloc (.cells #[.int .i64 b] 3)).cell? ⟨w.heap.size + 1, 0, none⟩ = some (.int .i64 b) := World.cell?_alloc_at _ _ _ _ (by simp)
  have HB0 := Aside0.mk hb0
  have HA1 := Aside0.mk ha1
  have HB1 := Aside0.mk hb1
  have N1 := isNine_calls a
  have N2 := isNine_calls b
  clear hb0 ha1 hb1 hr
  by_cases hs : sysB t = true
  case neg =>
    have hs := Bool.eq_false_iff.2 hs
    rw [hs] at hcall
    have HC := Aside0.mk hcall
    clear hcall hs h N1 N2
    go_enter Try.func32, Try.ntmps32
    go_wp2_with (go_at_call 66; refine HC.out.mono ?_; rintro e w' ⟨rfl, hb⟩)
    go_ret2
    exact ⟨rfl, bstep HB0.out hb⟩
  case pos =>
    rw [hs] at hcall h
    have HC := Aside0.mk hcall
    clear hcall
    by_cases hA : isN a = true
    case neg =>
      have hA := Bool.eq_false_iff.2 hA
      rw [hA] at N1
      have HN1 := Aside0.mk N1
      clear N1 N2 h hs hA
      go_enter Try.func32, Try.ntmps32
      go_wp2_with fail
      refine HC.out.mono ?_
      rintro e w1 ⟨rfl, hbw⟩
      have ha2 : w1.cell? ⟨w.heap.size, 0, none⟩ = some (.int .i64 a) := (hbw.cell (World.block_lt_of_cell? _ _ HA1.out)).trans HA1.out
      have hb2 : w1.cell? ⟨w.heap.size + 1, 0, none⟩ = some (.int .i64 b) := (hbw.cell (World.block_lt_of_cell? _ _ HB1.out)).trans HB1.out
      have HBW := Aside0.mk (bstep HB0.out hbw)
      clear hbw HC HA1 HB1 HB0
      go_wp2_with (go_at_call 72; refine (HN1.out _).mono ?_; rintro e w' ⟨rfl, ⟨nd, rfl⟩⟩)
      go_ret2
      exact ⟨rfl, bstep HBW.out (Drawn0.below ⟨⟨_, rfl⟩⟩)⟩
    case pos =>
      rw [hA] at N1 h
      have hB : isN b = false := by simpa using h
      rw [hB] at N2
      have HN1 := Aside0.mk N1
      have HN2 := Aside0.mk N2
      clear N1 N2 h hs hA hB
      go_enter Try.func32, Try.ntmps32
      go_wp2_with fail
      refine HC.out.mono ?_
      rintro e w1 ⟨rfl, hbw⟩
      have ha2 : w1.cell? ⟨w.heap.size, 0, none⟩ = some (.int .i64 a) := (hbw.cell (World.block_lt_of_cell? _ _ HA1.out)).trans HA1.out
      have hb2 : w1.cell? ⟨w.heap.size + 1, 0, none⟩ = some (.int .i64 b) := (hbw.cell (World.block_lt_of_cell? _ _ HB1.out)).trans HB1.out
      have HBW := Aside0.mk (bstep HB0.out hbw)
      clear hbw HC HA1 HB1 HB0
      go_wp2_with fail
      refine (HN1.out _).mono ?_
      rintro e w' ⟨rfl, ⟨nd, rfl⟩⟩
      go_wp2_with fail
      refine (HN2.out _).mono ?_
      rintro e w' ⟨rfl, ⟨nd2, rfl⟩⟩
      go_wp2
      go_ret2
      exact ⟨rfl, bstep HBW.out (Drawn0.below ⟨⟨_, rfl⟩⟩)⟩

end Go.Proofs.Ytckipgldmkboiaa.X
namespace Go.Proofs.Ytckipgldmkboiaa.P
open Go.RowKit Go.Proofs.YtckipgldmkboiaaW.PrintWords Go.Proofs.YtckipgldmkboiaaW.PrintLast
def impl_MoveShift.f (l0 : List Int) (a1 a2 : Int) : Option (List Int × Bool) := some (if (X.sysB l0 && (X.isN a1 && X.isN a2)) = true then (X.shiftL a1 a2, true) else ([], false))
theorem impl_MoveShift.calls (A0 : Option Addr) (c0 : Nat) (l0 : List Int) (a1 : Int) (a2 : Int) (r1 : List Int) (r2 : Bool) (w : World) (hr0 : Kd.C (Kd.int .i64) w A0 l0.length l0) (hc0 : l0.length ≤ c0) (h : impl_MoveShift.f l0 a1 a2 = some (r1, r2)) :
    Calls Try.prog 32 #[.slice A0 l0.length c0, .int .i64 a1, .int .i64 a2] w fun e w' => ∃ v0_ : Value, e = .returned (.tuple #[v0_, .bool r2]) ∧ Kd.R (Kd.int .i64) 3 w' w.heap.size (fun _ => True) v0_ r1 ∧ Below w.heap.size w w' := by
  unfold impl_MoveShift.f at h
  by_cases hc : (X.sysB l0 && (X.isN a1 && X.isN a2)) = true
  · rw [if_pos hc] at h
    injection h with h
    injection h with h1 h2
    subst h1; subst h2
    have := Bool.and_eq_true _ _ ▸ hc
    have h2 := Bool.and_eq_true _ _ ▸ this.2
    exact X.moveShift_yes A0 c0 l0 a1 a2 w hr0 this.1 h2.1 h2.2
  · rw [if_neg hc] at h
    injection h with h
    injection h with h1 h2
    subst h1; subst h2
    exact (X.moveShift_no A0 c0 l0 a1 a2 w hr0 (Bool.eq_false_iff.2 hc)).mono fun e w' ⟨he, hb⟩ => ⟨_, he, Kd.R_nil _ _ _ _ _, hb⟩
end Go.Proofs.Ytckipgldmkboiaa.P

namespace Go.Proofs.Ytckipgldmkboiaa.P
open Go.RowKit Go.Proofs.YtckipgldmkboiaaW.PrintWords Go.Proofs.YtckipgldmkboiaaW.PrintLast Go.Proofs.YtckipgldmkboiaaW.PrintMore
attribute [local go_sem] max2_int min2_int max_two min_two max_three min_three max_four min_four   -- for this text's walks alone
set_option linter.unusedVariables false
set_option linter.unusedSimpArgs false

/-! ### laws_FnShift: function 9 -/
mutual
def laws_FnShift.j0 : Nat → List Int → Int → Int → List Int → Bool → List Int → Bool → Bool → Option (Bool)
 | 0, _, _, _, _, _, _, _, _ => none
 | k + 1, x3, x4, x5, x6, x7, x8, x9, x47 => if x47 = true then (if (x7 == x9) = true then ((laws_sameInts.f k x6 x8).bind fun t613 => (some t613)) else (some false)) else (if x4 = 0 then (laws_FnShift.j1 k x3 x6 (x5 == 0)) else (laws_FnShift.j1 k x3 x6 false))
def laws_FnShift.j1 : Nat → List Int → List Int → Bool → Option (Bool)
 | 0, _, _, _ => none
 | k + 1, x3, x6, x61 => if x61 = true then ((impl_MoveIn.f x3 x6).bind fun t614 => (some t614)) else ((impl_MoveOrder.f k x3 x6).bind fun bt615 => (if bt615.2 = true then (if bt615.1 = 3 then ((impl_MoveAxis.f x3 x6).bind fun t617 => (if t617 = 90 then ((impl_MoveCentre.f x3 x6).bind fun t618 => (some (decide (t618 ≥ 81)))) else (some false))) else (some false)) else (some false)))
end
def laws_FnShift.f (k : Nat) (l0 : List Int) : Option (Bool) := if (l0.length : Int) > 1048576 then (some true) else ((spec_DrawMoveShift.f k l0).bind fun bt599 => ((impl_MoveShift.f bt599.1 bt599.2.1 bt599.2.2).bind fun bt604 => ((spec_MoveShift.f k bt599.1 bt599.2.1 bt599.2.2).bind fun bt608 => (if (bt604.2 != bt608.2) = true then (laws_FnShift.j0 k bt599.1 bt599.2.1 bt599.2.2 bt604.1 bt604.2 bt608.1 bt608.2 true) else ((laws_sameInts.f k bt604.1 bt608.1).bind fun t612 => (if t612 = true then (laws_FnShift.j0 k bt599.1 bt599.2.1 bt599.2.2 bt604.1 bt604.2 bt608.1 bt608.2 (!bt604.2)) else (laws_FnShift.j0 k bt599.1 bt599.2.1 bt599.2.2 bt604.1 bt604.2 bt608.1 bt608.2 true)))))))
set_option maxHeartbeats 8000000 in
set_option maxRecDepth 100000 in
theorem laws_FnShift.calls (k : Nat) (A0 : Option Addr) (c0 : Nat) (l0 : List Int) (r : Bool) (w : World) (hr0 : Kd.C (Kd.int .u8) w A0 l0.length l0) (hc0 : l0.length ≤ c0) (h : laws_FnShift.f k l0 = some r) :
  Calls Try.prog 9 #[.slice A0 l0.length c0] w fun e w' => e = .returned (.bool r) ∧ Below w.heap.size w w' := by
 have HR0 := Aside0.mk hr0
 have HC0 := Aside0.mk hc0
 clear hr0 hc0
 have HB := Aside0.mk (Below.refl w.heap.size w)
 have H : (if (l0.length : Int) > 1048576 then (some true) else ((spec_DrawMoveShift.f k l0).bind fun bt599 => ((impl_MoveShift.f bt599.1 bt599.2.1 bt599.2.2).bind fun bt604 => ((spec_MoveShift.f k bt599.1 bt599.2.1 bt599.2.2).bind fun bt608 => (if (bt604.2 != bt608.2) = true then (laws_FnShift.j0 k bt599.1 bt599.2.1 bt599.2.2 bt604.1 bt604.2 bt608.1 bt608.2 true) else ((laws_sameInts.f k bt604.1 bt608.1).bind fun t612 => (if t612 = true then (laws_FnShift.j0 k bt599.1 bt599.2.1 bt599.2.2 bt604.1 bt604.2 bt608.1 bt608.2 (!bt604.2)) else (laws_FnShift.j0 k bt599.1 bt599.2.1 bt599.2.2 bt604.1 bt604.2 bt608.1 bt608.2 true)))))))) = some r := h
 clear h
 by_cases c2 : (l0.length : Int) > 1048576
 ·rw [if_pos c2] at H
  have c2b0 : decide (1048576 < (l0.length : Int)) = true := decide_eq_true c2
  have c2b1 : decide (1048576 < l0.length) = true := decide_eq_true (by omega)
  clear c2
  obtain rfl := Option.some.inj H
  go_enter Try.func9, Try.ntmps9
  go_wp2
  go_ret
  exact ⟨by first | rfl | (simp [errW_none, errW_some] <;> rfl) | (simp [*, errW_none, errW_some] <;> rfl), by repeat (first | (with_reducible first | exact HB.out | apply below_alloc | apply pw_below_drewN | apply below_drew1) | exact HB.out)⟩
 ·rw [if_neg c2] at H
  have c2b0 : decide (1048576 < (l0.length : Int)) = false := decide_eq_false c2
  have c2b1 : decide (1048576 < l0.length) = false := decide_eq_false (by omega)
  clear c2
  replace H := Option.bind_eq_some_iff.mp H
  obtain ⟨⟨t599, t600, t601⟩, A30, H⟩ := H
  replace H : ((impl_MoveShift.f t599 t600 t601).bind fun bt604 => ((spec_MoveShift.f k t599 t600 t601).bind fun bt608 => (if (bt604.2 != bt608.2) = true then (laws_FnShift.j0 k t599 t600 t601 bt604.1 bt604.2 bt608.1 bt608.2 true) else ((laws_sameInts.f k bt604.1 bt608.1).bind fun t612 => (if t612 = true then (laws_FnShift.j0 k t599 t600 t601 bt604.1 bt604.2 bt608.1 bt608.2 (!bt604.2)) else (laws_FnShift.j0 k t599 t600 t601 bt604.1 bt604.2 bt608.1 bt608.2 true)))))) = some r := H
  have A3 := Aside0.mk A30
  clear A30
  replace H := Option.bind_eq_some_iff.mp H
  obtain ⟨⟨t604, t605⟩, A40, H⟩ := H
  replace H : ((spec_MoveShift.f k t599 t600 t601).bind fun bt608 => (if (t605 != bt608.2) = true then (laws_FnShift.j0 k t599 t600 t601 t604 t605 bt608.1 bt608.2 true) else ((laws_sameInts.f k t604 bt608.1).bind fun t612 => (if t612 = true then (laws_FnShift.j0 k t599 t600 t601 t604 t605 bt608.1 bt608.2 (!t605)) else (laws_FnShift.j0 k t599 t600 t601 t604 t605 bt608.1 bt608.2 true))))) = some r := H
  have A4 := Aside0.mk A40
  clear A40
  replace H := Option.bind_eq_some_iff.mp H
  obtain ⟨⟨t608, t609⟩, A50, H⟩ := H
  replace H : (if (t605 != t609) = true then (laws_FnShift.j0 k t599 t600 t601 t604 t605 t608 t609 true) else ((laws_sameInts.f k t604 t608).bind fun t612 => (if t612 = true then (laws_FnShift.j0 k t599 t600 t601 t604 t605 t608 t609 (!t605)) else (laws_FnShift.j0 k t599 t600 t601 t604 t605 t608 t609 true)))) = some r := H
  have A5 := Aside0.mk A50
  clear A50
  have HC6 := Aside0.mk H
  clear H
  go_enter Try.func9, Try.ntmps9
  go_upto_region 6 with (first | ((with_reducible refine gate_callee (f := 31) rfl ?_); refine goesL_ (some 17) rfl rfl Try.func31 (by kernel_rfl) rfl #[.slice A0 l0.length c0] rfl (by (try simp only [List.map_toArray, List.map_cons, List.map_nil]); first | done | rfl | (simp only [List.length_drop, List.length_take]; rfl)) ?_; (with_reducible refine (spec_DrawMoveShift.calls k _ _ l0 t599 t600 t601 _ ?side1 ?side2 A3.out).mono ?_); (case side1 => repeat (first | exact HR0.out | (with_reducible refine Kd.C_alloc ?_ _) | (with_reducible refine Kd.C_drewN ?_ _) | (with_reducible refine Kd.C_drew ?_))); (case side2 => exact HC0.out); rintro e w7 ⟨v602, rfl, ho0, hb⟩; refine ⟨_, rfl, ?_⟩; have n0_ := Aside0.mk (Kd.R_lower ho0 (below_size (by repeat (first | (with_reducible first | exact HB.out | apply below_alloc | apply pw_below_drewN | apply below_drew1) | exact HB.out)))); have n1_ := Aside0.mk (below_step (by repeat (first | (with_reducible first | exact HB.out | apply below_alloc | apply pw_below_drewN | apply below_drew1) | exact HB.out)) hb); clear HB; have HO603 := n0_; have HB := n1_; clear n0_ n1_; (try clear hb); (try clear hb2); (try clear hk); (try clear hi); (try clear ho0); obtain ⟨Ao8, co8, eo8⟩ := Kd.R_slice HO603.out; subst eo8) | ((with_reducible refine gate_callee (f := 32) rfl ?_); refine goesL_ (some 25) rfl rfl Try.func32 (by kernel_rfl) rfl #[.slice Ao8 t599.length co8, .int .i64 t600, .int .i64 t601] rfl (by (try simp only [List.map_toArray, List.map_cons, List.map_nil]); first | done | rfl | (simp only [List.length_drop, List.length_take]; rfl)) ?_; (with_reducible refine (impl_MoveShift.calls _ _ t599 t600 t601 t604 t605 _ ?side1 ?side2 A4.out).mono ?_); (case side1 => repeat (first | exact (Kd.R_reads' HO603.out).2.2 | (with_reducible refine Kd.C_alloc ?_ _) | (with_reducible refine Kd.C_drewN ?_ _) | (with_reducible refine Kd.C_drew ?_))); (case side2 => exact (Kd.R_reads' HO603.out).2.1); rintro e w9 ⟨v606, rfl, ho0, hb⟩; refine ⟨_, rfl, ?_⟩; have n0_ := Aside0.mk (Kd.R_elder' (by (with_reducible repeat (first | apply Kd.R_alloc | apply Kd.R_drewN | apply Kd.R_drew)); exact HO603.out) (Kd.R_base ho0) hb); have n1_ := Aside0.mk (Kd.R_lower (Kd.R_new' ho0 (Kd.R_lt (by (with_reducible repeat (first | apply Kd.R_alloc | apply Kd.R_drewN | apply Kd.R_drew)); exact HO603.out))) (below_size (by repeat (first | (with_reducible first | exact HB.out | apply below_alloc | apply pw_below_drewN | apply below_drew1) | exact HB.out)))); have n2_ := Aside0.mk (below_step (by repeat (first | (with_reducible first | exact HB.out | apply below_alloc | apply pw_below_drewN | apply below_drew1) | exact HB.out)) hb); clear HO603; clear HB; have HO603 := n0_; have HO607 := n1_; have HB := n2_; clear n0_ n1_ n2_; (try clear hb); (try clear hb2); (try clear hk); (try clear hi); (try clear ho0)) | ((with_reducible refine gate_callee (f := 33) rfl ?_); refine goesL_ (some 32) rfl rfl Try.func33 (by kernel_rfl) rfl #[.slice Ao8 t599.length co8, .int .i64 t600, .int .i64 t601] rfl (by (try simp only [List.map_toArray, List.map_cons, List.map_nil]); first | done | rfl | (simp only [List.length_drop, List.length_take]; rfl)) ?_; (with_reducible refine (spec_MoveShift.calls k _ _ t599 t600 t601 t608 t609 _ ?side1 ?side2 A5.out).mono ?_); (case side1 => repeat (first | exact (Kd.R_reads' HO603.out).2.2 | (with_reducible refine Kd.C_alloc ?_ _) | (with_reducible refine Kd.C_drewN ?_ _) | (with_reducible refine Kd.C_drew ?_))); (case side2 => exact (Kd.R_reads' HO603.out).2.1); rintro e w10 ⟨v610, rfl, ho0, hb⟩; refine ⟨_, rfl, ?_⟩; have n0_ := Aside0.mk (Kd.R_elder' (by (with_reducible repeat (first | apply Kd.R_alloc | apply Kd.R_drewN | apply Kd.R_drew)); exact HO603.out) (Kd.R_base ho0) hb); have n1_ := Aside0.mk (Kd.R_elder' (by (with_reducible repeat (first | apply Kd.R_alloc | apply Kd.R_drewN | apply Kd.R_drew)); exact HO607.out) (Kd.R_base ho0) hb); have n2_ := Aside0.mk (Kd.R_lower (Kd.R_new' (Kd.R_new' ho0 (Kd.R_lt (by (with_reducible repeat (first | apply Kd.R_alloc | apply Kd.R_drewN | apply Kd.R_drew)); exact HO603.out))) (Kd.R_lt (by (with_reducible repeat (first | apply Kd.R_alloc | apply Kd.R_drewN | apply Kd.R_drew)); exact HO607.out))) (below_size (by repeat (first | (with_reducible first | exact HB.out | apply below_alloc | apply pw_below_drewN | apply below_drew1) | exact HB.out)))); have n3_ := Aside0.mk (below_step (by repeat (first | (with_reducible first | exact HB.out | apply below_alloc | apply pw_below_drewN | apply below_drew1) | exact HB.out)) hb); clear HO603; clear HO607; clear HB; have HO603 := n0_; have HO607 := n1_; have HO611 := n2_; have HB := n3_; clear n0_ n1_ n2_ n3_; (try clear hb); (try clear hb2); (try clear hk); (try clear hi); (try clear ho0)))
  (try simp only [Act.put, List.setIfInBounds_toArray, List.set_cons_zero, List.set_cons_succ])
  go_cut [47] (fun v47 wc => ∃ (kq : Nat) (x47_5 : Bool), v47 = .bool x47_5 ∧ Aside0 (laws_FnShift.j0 kq t599 t600 t601 t604 t605 t608 t609 x47_5 = some r) ∧ Aside0 (kq ≤ k) ∧ Aside0 (Kd.R (Kd.int .i64) 3 wc w.heap.size (fun k_ => some k_ ≠ (v606 : Value).ownBlock ∧ some k_ ≠ (v610 : Value).ownBlock) (.slice Ao8 t599.length co8) t599) ∧ Aside0 (Kd.R (Kd.int .i64) 3 wc w.heap.size (fun k_ => some k_ ≠ ((.slice Ao8 t599.length co8) : Value).ownBlock ∧ some k_ ≠ (v610 : Value).ownBlock) v606 t604) ∧ Aside0 (Kd.R (Kd.int .i64) 3 wc w.heap.size (fun k_ => some k_ ≠ ((.slice Ao8 t599.length co8) : Value).ownBlock ∧ some k_ ≠ (v606 : Value).ownBlock) v610 t608) ∧ Aside0 (Below w.heap.size w wc))
  case first =>
   have H := HC6.out
   clear HC6
   by_cases c11 : (t605 != t609) = true
   ·rw [if_pos c11] at H
    have c11b0 : (t605 != t609) = true := c11
    (try (have c11b1 : decide (t605 = t609) = false := by simpa using c11))
    (try (have c11b2 : (t605 == t609) = false := by simpa using c11))
    (try (have c11b3 : ¬ (t605 = t609) := by simpa using c11))
    clear c11
    (first | rw [c11b0] | (simp only [i64_w, i32_w]; rw [c11b0]) | skip)
    have H' := Aside0.mk H
    clear H
    go_wp2
    go_meet
    case rel => exact ⟨_, (true), (by first | rfl | (simp; done) | (simp [*]; done)), H', ⟨by first | omega | exact Nat.le_refl _⟩, ⟨by (with_reducible repeat (first | apply Kd.R_alloc | apply Kd.R_drewN | apply Kd.R_drew)); exact Kd.R_mono HO603.out (fun _ hk => ⟨hk.1.2, hk.2⟩)⟩, ⟨by (with_reducible repeat (first | apply Kd.R_alloc | apply Kd.R_drewN | apply Kd.R_drew)); exact Kd.R_mono HO607.out (fun _ hk => ⟨hk.1.2, hk.2⟩)⟩, ⟨by (with_reducible repeat (first | apply Kd.R_alloc | apply Kd.R_drewN | apply Kd.R_drew)); exact Kd.R_mono HO611.out (fun _ hk => ⟨hk.1.2, hk.2⟩)⟩, ⟨by repeat (first | (with_reducible first | exact HB.out | apply below_alloc | apply pw_below_drewN | apply below_drew1) | exact HB.out)⟩⟩
   ·rw [if_neg c11] at H
    have c11b0 : (t605 != t609) = false := by simpa using c11
    (try (have c11b1 : decide (t605 = t609) = true := by simpa using c11))
    (try (have c11b2 : (t605 == t609) = true := by simpa using c11))
    clear c11
    (first | rw [c11b0] | (simp only [i64_w, i32_w]; rw [c11b0]) | skip)
    replace H := Option.bind_eq_some_iff.mp H
    obtain ⟨t612, A120, H⟩ := H
    replace H : (if t612 = true then (laws_FnShift.j0 k t599 t600 t601 t604 t605 t608 t609 (!t605)) else (laws_FnShift.j0 k t599 t600 t601 t604 t605 t608 t609 true)) = some r := H
    have A12 := Aside0.mk A120
    clear A120
    by_cases c13 : t612 = true
    ·subst c13
     have H1 : (laws_FnShift.j0 k t599 t600 t601 t604 t605 t608 t609 (!t605)) = some r := by rw [if_pos rfl] at H; exact H
     clear H
     have H := H1
     clear H1
     have H' := Aside0.mk H
     clear H
     obtain ⟨Ao14, co14, eo14⟩ := Kd.R_slice HO607.out
     subst eo14
     obtain ⟨Ao15, co15, eo15⟩ := Kd.R_slice HO611.out
     subst eo15
     go_wp2_with (first | (go_at_call 34; (with_reducible refine (laws_sameInts.calls k _ _ t604 _ _ t608 true _ ?side1 ?side2 ?side3 ?side4 A12.out).mono ?_); (case side1 => repeat (first | exact (Kd.R_reads' HO607.out).2.2 | (with_reducible refine Kd.C_alloc ?_ _) | (with_reducible refine Kd.C_drewN ?_ _) | (with_reducible refine Kd.C_drew ?_))); (case side2 => exact (Kd.R_reads' HO607.out).2.1); (case side3 => repeat (first | exact (Kd.R_reads' HO611.out).2.2 | (with_reducible refine Kd.C_alloc ?_ _) | (with_reducible refine Kd.C_drewN ?_ _) | (with_reducible refine Kd.C_drew ?_))); (case side4 => exact (Kd.R_reads' HO611.out).2.1); rintro e w' ⟨rfl, ⟨nd, rfl⟩⟩))
     go_meet
     case rel => exact ⟨_, (!t605), (by first | rfl | (simp; done) | (simp [*]; done)), H', ⟨by first | omega | exact Nat.le_refl _⟩, ⟨by (with_reducible repeat (first | apply Kd.R_alloc | apply Kd.R_drewN | apply Kd.R_drew)); exact Kd.R_mono HO603.out (fun _ hk => ⟨hk.1.2, hk.2⟩)⟩, ⟨by (with_reducible repeat (first | apply Kd.R_alloc | apply Kd.R_drewN | apply Kd.R_drew)); exact Kd.R_mono HO607.out (fun _ hk => ⟨hk.1.2, hk.2⟩)⟩, ⟨by (with_reducible repeat (first | apply Kd.R_alloc | apply Kd.R_drewN | apply Kd.R_drew)); exact Kd.R_mono HO611.out (fun _ hk => ⟨hk.1.2, hk.2⟩)⟩, ⟨by repeat (first | (with_reducible first | exact HB.out | apply below_alloc | apply pw_below_drewN | apply below_drew1) | exact HB.out)⟩⟩
    ·replace c13 := Bool.eq_false_iff.mpr c13
     subst c13
     have H1 : (laws_FnShift.j0 k t599 t600 t601 t604 t605 t608 t609 true) = some r := by rw [if_neg (show ¬ (false = true) by decide)] at H; exact H
     clear H
     have H := H1
     clear H1
     have H' := Aside0.mk H
     clear H
     obtain ⟨Ao16, co16, eo16⟩ := Kd.R_slice HO607.out
     subst eo16
     obtain ⟨Ao17, co17, eo17⟩ := Kd.R_slice HO611.out
     subst eo17
     go_wp2_with (first | (go_at_call 34; (with_reducible refine (laws_sameInts.calls k _ _ t604 _ _ t608 false _ ?side1 ?side2 ?side3 ?side4 A12.out).mono ?_); (case side1 => repeat (first | exact (Kd.R_reads' HO607.out).2.2 | (with_reducible refine Kd.C_alloc ?_ _) | (with_reducible refine Kd.C_drewN ?_ _) | (with_reducible refine Kd.C_drew ?_))); (case side2 => exact (Kd.R_reads' HO607.out).2.1); (case side3 => repeat (first | exact (Kd.R_reads' HO611.out).2.2 | (with_reducible refine Kd.C_alloc ?_ _) | (with_reducible refine Kd.C_drewN ?_ _) | (with_reducible refine Kd.C_drew ?_))); (case side4 => exact (Kd.R_reads' HO611.out).2.1); rintro e w' ⟨rfl, ⟨nd, rfl⟩⟩))
     go_meet
     case rel => exact ⟨_, (true), (by first | rfl | (simp; done) | (simp [*]; done)), H', ⟨by first | omega | exact Nat.le_refl _⟩, ⟨by (with_reducible repeat (first | apply Kd.R_alloc | apply Kd.R_drewN | apply Kd.R_drew)); exact Kd.R_mono HO603.out (fun _ hk => ⟨hk.1.2, hk.2⟩)⟩, ⟨by (with_reducible repeat (first | apply Kd.R_alloc | apply Kd.R_drewN | apply Kd.R_drew)); exact Kd.R_mono HO607.out (fun _ hk => ⟨hk.1.2, hk.2⟩)⟩, ⟨by (with_reducible repeat (first | apply Kd.R_alloc | apply Kd.R_drewN | apply Kd.R_drew)); exact Kd.R_mono HO611.out (fun _ hk => ⟨hk.1.2, hk.2⟩)⟩, ⟨by repeat (first | (with_reducible first | exact HB.out | apply below_alloc | apply pw_below_drewN | apply below_drew1) | exact HB.out)⟩⟩
  case rest =>
   clear HC6
   try clear c1
   try clear c2
   try clear c2b0
   try clear c2b1
   try clear p2
   try clear c3
   try clear c9
   try clear c11
   try clear c11b0
   try clear c11b1
   try clear c11b2
   try clear c13
   obtain ⟨kq, x47_5, rfl, HA, HJ5, HO_3, HO_6, HO_8, HB⟩ := hcut
   cases kq with
   | zero => exact absurd HA.out (by simp [laws_FnShift.j0])
   | succ kj5 =>
    have H := HA.out
    clear HA
    simp only [laws_FnShift.j0] at H
    by_cases c18 : x47_5 = true
    ·subst c18
     have H1 : (if (t605 == t609) = true then ((laws_sameInts.f kj5 t604 t608).bind fun t613 => (some t613)) else (some false)) = some r := by rw [if_pos rfl] at H; exact H
     clear H
     have H := H1
     clear H1
     by_cases c19 : (t605 == t609) = true
     ·rw [if_pos c19] at H
      have c19b0 : (t605 == t609) = true := c19
      (try (have c19b1 : decide (t605 = t609) = true := by simpa using c19))
      (try (have c19b2 : (t605 == t609) = true := by simpa using c19))
      clear c19
      replace H := Option.bind_eq_some_iff.mp H
      obtain ⟨t613, A200, H⟩ := H
      replace H : (some t613) = some r := H
      have A20 := Aside0.mk A200
      clear A200
      obtain rfl := Option.some.inj H
      obtain ⟨Ao21, co21, eo21⟩ := Kd.R_slice HO_6.out
      subst eo21
      obtain ⟨Ao22, co22, eo22⟩ := Kd.R_slice HO_8.out
      subst eo22
      go_wp2_with (first | (go_at_call 34; (with_reducible refine (laws_sameInts.calls kj5 _ _ t604 _ _ t608 t613 _ ?side1 ?side2 ?side3 ?side4 A20.out).mono ?_); (case side1 => repeat (first | exact (Kd.R_reads' HO_6.out).2.2 | (with_reducible refine Kd.C_alloc ?_ _) | (with_reducible refine Kd.C_drewN ?_ _) | (with_reducible refine Kd.C_drew ?_))); (case side2 => exact (Kd.R_reads' HO_6.out).2.1); (case side3 => repeat (first | exact (Kd.R_reads' HO_8.out).2.2 | (with_reducible refine Kd.C_alloc ?_ _) | (with_reducible refine Kd.C_drewN ?_ _) | (with_reducible refine Kd.C_drew ?_))); (case side4 => exact (Kd.R_reads' HO_8.out).2.1); rintro e w' ⟨rfl, ⟨nd, rfl⟩⟩))
      go_ret
      exact ⟨by first | rfl | (simp [errW_none, errW_some] <;> rfl) | (simp [*, errW_none, errW_some] <;> rfl), by repeat (first | (with_reducible first | exact HB.out | apply below_alloc | apply pw_below_drewN | apply below_drew1) | exact HB.out)⟩
     ·rw [if_neg c19] at H
      have c19b0 : (t605 == t609) = false := by simpa using c19
      (try (have c19b1 : decide (t605 = t609) = false := by simpa using c19))
      (try (have c19b2 : (t605 == t609) = false := by simpa using c19))
      (try (have c19b3 : ¬ (t605 = t609) := by simpa using c19))
      clear c19
      obtain rfl := Option.some.inj H
      go_wp2
      go_ret
      exact ⟨by first | rfl | (simp [errW_none, errW_some] <;> rfl) | (simp [*, errW_none, errW_some] <;> rfl), by repeat (first | (with_reducible first | exact HB.out | apply below_alloc | apply pw_below_drewN | apply below_drew1) | exact HB.out)⟩
    ·replace c18 := Bool.eq_false_iff.mpr c18
     subst c18
     have H1 : (if t600 = 0 then (laws_FnShift.j1 kj5 t599 t604 (t601 == 0)) else (laws_FnShift.j1 kj5 t599 t604 false)) = some r := by rw [if_neg (show ¬ (false = true) by decide)] at H; exact H
     clear H
     have H := H1
     clear H1
     have HC23 := Aside0.mk H
     clear H
     go_upto_region 8 with (fail)
     go_cut [61] (fun v61 wc => ∃ (kq : Nat) (x61_22 : Bool), v61 = .bool x61_22 ∧ Aside0 (laws_FnShift.j1 kq t599 t604 x61_22 = some r) ∧ Aside0 (kq ≤ kj5) ∧ Aside0 (Kd.R (Kd.int .i64) 3 wc w.heap.size (fun k_ => some k_ ≠ (v606 : Value).ownBlock) (.slice Ao8 t599.length co8) t599) ∧ Aside0 (Kd.R (Kd.int .i64) 3 wc w.heap.size (fun k_ => some k_ ≠ ((.slice Ao8 t599.length co8) : Value).ownBlock) v606 t604) ∧ Aside0 (Below w.heap.size w wc))
     case first =>
      have H := HC23.out
      clear HC23
      by_cases c24 : t600 = 0
      ·rw [if_pos c24] at H
       have c24b0 : (t600 == 0) = true := beq_iff_eq.mpr c24
       have c24b1 : (t600 != 0) = false := bne_eq_false_iff_eq.mpr c24
       clear c24
       (first | rw [c24b0] | (simp only [i64_w, i32_w]; rw [c24b0]) | skip)
       have H' := Aside0.mk H
       clear H
       go_wp2
       go_meet
       case rel => exact ⟨_, ((t601 == 0)), (by first | rfl | (simp; done) | (simp [*]; done)), H', ⟨by have := HJ5.out; first | omega | exact Nat.le_refl _⟩, ⟨by (with_reducible repeat (first | apply Kd.R_alloc | apply Kd.R_drewN | apply Kd.R_drew)); exact Kd.R_mono HO_3.out (fun _ hk => hk.1)⟩, ⟨by (with_reducible repeat (first | apply Kd.R_alloc | apply Kd.R_drewN | apply Kd.R_drew)); exact Kd.R_mono HO_6.out (fun _ hk => hk.1)⟩, ⟨by repeat (first | (with_reducible first | exact HB.out | apply below_alloc | apply pw_below_drewN | apply below_drew1) | exact HB.out)⟩⟩
      ·rw [if_neg c24] at H
       have c24b0 : (t600 == 0) = false := beq_eq_false_iff_ne.mpr c24
       have c24b1 : (t600 != 0) = true := bne_iff_ne.mpr c24
       (first | rw [c24b0] | (simp only [i64_w, i32_w]; rw [c24b0]) | skip)
       have H' := Aside0.mk H
       clear H
       go_wp2
       go_meet
       case rel => exact ⟨_, (false), (by first | rfl | (simp; done) | (simp [*]; done)), H', ⟨by have := HJ5.out; first | omega | exact Nat.le_refl _⟩, ⟨by (with_reducible repeat (first | apply Kd.R_alloc | apply Kd.R_drewN | apply Kd.R_drew)); exact Kd.R_mono HO_3.out (fun _ hk => hk.1)⟩, ⟨by (with_reducible repeat (first | apply Kd.R_alloc | apply Kd.R_drewN | apply Kd.R_drew)); exact Kd.R_mono HO_6.out (fun _ hk => hk.1)⟩, ⟨by repeat (first | (with_reducible first | exact HB.out | apply below_alloc | apply pw_below_drewN | apply below_drew1) | exact HB.out)⟩⟩
     case rest =>
      clear HC23
      try clear c1
      try clear c2
      try clear c2b0
      try clear c2b1
      try clear p2
      try clear c3
      try clear c9
      try clear c11
      try clear c11b0
      try clear c11b1
      try clear c11b2
      try clear c13
      try clear c18
      try clear c19
      try clear c19b0
      try clear c19b1
      try clear c19b2
      try clear c24
      try clear c24b0
      try clear c24b1
      try clear p2
      obtain ⟨kq, x61_22, rfl, HA, HJ22, HO_3, HO_6, HB⟩ := hcut
      cases kq with
      | zero => exact absurd HA.out (by simp [laws_FnShift.j1])
      | succ kj22 =>
       have H := HA.out
       clear HA
       simp only [laws_FnShift.j1] at H
       by_cases c25 : x61_22 = true
       ·subst c25
        have H1 : ((impl_MoveIn.f t599 t604).bind fun t614 => (some t614)) = some r := by rw [if_pos rfl] at H; exact H
        clear H
        have H := H1
        clear H1
        replace H := Option.bind_eq_some_iff.mp H
        obtain ⟨t614, A260, H⟩ := H
        replace H : (some t614) = some r := H
        have A26 := Aside0.mk A260
        clear A260
        obtain rfl := Option.some.inj H
        obtain ⟨Ao27, co27, eo27⟩ := Kd.R_slice HO_6.out
        subst eo27
        go_wp2_with (first | ((with_reducible refine gate_callee (f := 35) rfl ?_); refine goesL_ (some 64) rfl rfl Try.func35 (by kernel_rfl) rfl #[.slice Ao8 t599.length co8, .slice Ao27 t604.length co27] rfl (by (try simp only [List.map_toArray, List.map_cons, List.map_nil]); first | done | rfl | (simp only [List.length_drop, List.length_take]; rfl)) ?_; (with_reducible refine (impl_MoveIn.calls _ _ t599 _ _ t604 t614 _ ?side1 ?side2 ?side3 ?side4 A26.out).mono ?_); (case side1 => repeat (first | exact (Kd.R_reads' HO_3.out).2.2 | (with_reducible refine Kd.C_alloc ?_ _) | (with_reducible refine Kd.C_drewN ?_ _) | (with_reducible refine Kd.C_drew ?_))); (case side2 => exact (Kd.R_reads' HO_3.out).2.1); (case side3 => repeat (first | exact (Kd.R_reads' HO_6.out).2.2 | (with_reducible refine Kd.C_alloc ?_ _) | (with_reducible refine Kd.C_drewN ?_ _) | (with_reducible refine Kd.C_drew ?_))); (case side4 => exact (Kd.R_reads' HO_6.out).2.1); rintro e w28 ⟨rfl, hb⟩; refine ⟨_, rfl, ?_⟩; have n0_ := Aside0.mk (Kd.R_below (by (with_reducible repeat (first | apply Kd.R_alloc | apply Kd.R_drewN | apply Kd.R_drew)); exact HO_3.out) hb); have n1_ := Aside0.mk (Kd.R_below (by (with_reducible repeat (first | apply Kd.R_alloc | apply Kd.R_drewN | apply Kd.R_drew)); exact HO_6.out) hb); have n2_ := Aside0.mk (below_step (by repeat (first | (with_reducible first | exact HB.out | apply below_alloc | apply pw_below_drewN | apply below_drew1) | exact HB.out)) hb); clear HO_3; clear HO_6; clear HB; have HO_3 := n0_; have HO_6 := n1_; have HB := n2_; clear n0_ n1_ n2_; (try clear hb); (try clear hb2); (try clear hk); (try clear hi)))
        go_ret
        exact ⟨by first | rfl | (simp [errW_none, errW_some] <;> rfl) | (simp [*, errW_none, errW_some] <;> rfl), by repeat (first | (with_reducible first | exact HB.out | apply below_alloc | apply pw_below_drewN | apply below_drew1) | exact HB.out)⟩
       ·replace c25 := Bool.eq_false_iff.mpr c25
        subst c25
        have H1 : ((impl_MoveOrder.f kj22 t599 t604).bind fun bt615 => (if bt615.2 = true then (if bt615.1 = 3 then ((impl_MoveAxis.f t599 t604).bind fun t617 => (if t617 = 90 then ((impl_MoveCentre.f t599 t604).bind fun t618 => (some (decide (t618 ≥ 81)))) else (some false))) else (some false)) else (some false))) = some r := by rw [if_neg (show ¬ (false = true) by decide)] at H; exact H
        clear H
        have H := H1
        clear H1
        replace H := Option.bind_eq_some_iff.mp H
        obtain ⟨⟨t615, t616⟩, A290, H⟩ := H
        replace H : (if t616 = true then (if t615 = 3 then ((impl_MoveAxis.f t599 t604).bind fun t617 => (if t617 = 90 then ((impl_MoveCentre.f t599 t604).bind fun t618 => (some (decide (t618 ≥ 81)))) else (some false))) else (some false)) else (some false)) = some r := H
        have A29 := Aside0.mk A290
        clear A290
        by_cases c30 : t616 = true
        ·subst c30
         have H1 : (if t615 = 3 then ((impl_MoveAxis.f t599 t604).bind fun t617 => (if t617 = 90 then ((impl_MoveCentre.f t599 t604).bind fun t618 => (some (decide (t618 ≥ 81)))) else (some false))) else (some false)) = some r := by rw [if_pos rfl] at H; exact H
         clear H
         have H := H1
         clear H1
         by_cases c31 : t615 = 3
         ·rw [if_pos c31] at H
          have c31b0 : (t615 == 3) = true := beq_iff_eq.mpr c31
          have c31b1 : (t615 != 3) = false := bne_eq_false_iff_eq.mpr c31
          clear c31
          replace H := Option.bind_eq_some_iff.mp H
          obtain ⟨t617, A320, H⟩ := H
          replace H : (if t617 = 90 then ((impl_MoveCentre.f t599 t604).bind fun t618 => (some (decide (t618 ≥ 81)))) else (some false)) = some r := H
          have A32 := Aside0.mk A320
          clear A320
          by_cases c33 : t617 = 90
          ·rw [if_pos c33] at H
           have c33b0 : (t617 == 90) = true := beq_iff_eq.mpr c33
           have c33b1 : (t617 != 90) = false := bne_eq_false_iff_eq.mpr c33
           clear c33
           replace H := Option.bind_eq_some_iff.mp H
           obtain ⟨t618, A340, H⟩ := H
           replace H : (some (decide (t618 ≥ 81))) = some r := H
           have A34 := Aside0.mk A340
           clear A340
           obtain rfl := Option.some.inj H
           obtain ⟨Ao35, co35, eo35⟩ := Kd.R_slice HO_6.out
           subst eo35
           go_wp2_with (first | ((with_reducible refine gate_callee (f := 26) rfl ?_); refine goesL_ (some 68) rfl rfl Try.func26 (by kernel_rfl) rfl #[.slice Ao8 t599.length co8, .slice Ao35 t604.length co35] rfl (by (try simp only [List.map_toArray, List.map_cons, List.map_nil]); first | done | rfl | (simp only [List.length_drop, List.length_take]; rfl)) ?_; (with_reducible refine (impl_MoveOrder.calls kj22 _ _ t599 (fun k_ => some k_ = (.slice Ao35 t604.length co35 : Value).ownBlock) _ _ t604 t615 true _ ?side1 ?side2 ?side3 A29.out).mono ?_); (case side1 => repeat (first | exact (Kd.R_reads' HO_3.out).2.2 | (with_reducible refine Kd.C_alloc ?_ _) | (with_reducible refine Kd.C_drewN ?_ _) | (with_reducible refine Kd.C_drew ?_))); (case side2 => exact (Kd.R_reads' HO_3.out).2.1); (case side3 => exact Kd.R_V (Kd.R_tight rfl (HO_6.out))); rintro e w36 ⟨rfl, hb⟩; refine ⟨_, rfl, ?_⟩; have n0_ := Aside0.mk (Kd.R_below (by (with_reducible repeat (first | apply Kd.R_alloc | apply Kd.R_drewN | apply Kd.R_drew)); exact HO_3.out) hb); have n1_ := Aside0.mk (Kd.R_below (by (with_reducible repeat (first | apply Kd.R_alloc | apply Kd.R_drewN | apply Kd.R_drew)); exact HO_6.out) hb); have n2_ := Aside0.mk (below_step (by repeat (first | (with_reducible first | exact HB.out | apply below_alloc | apply pw_below_drewN | apply below_drew1) | exact HB.out)) hb); clear HO_3; clear HO_6; clear HB; have HO_3 := n0_; have HO_6 := n1_; have HB := n2_; clear n0_ n1_ n2_; (try clear hb); (try clear hb2); (try clear hk); (try clear hi)) | (go_at_call 36; (with_reducible refine (impl_MoveAxis.calls _ _ t599 _ _ t604 t617 _ ?side1 ?side2 ?side3 ?side4 A32.out).mono ?_); (case side1 => repeat (first | exact (Kd.R_reads' HO_3.out).2.2 | (with_reducible refine Kd.C_alloc ?_ _) | (with_reducible refine Kd.C_drewN ?_ _) | (with_reducible refine Kd.C_drew ?_))); (case side2 => exact (Kd.R_reads' HO_3.out).2.1); (case side3 => repeat (first | exact (Kd.R_reads' HO_6.out).2.2 | (with_reducible refine Kd.C_alloc ?_ _) | (with_reducible refine Kd.C_drewN ?_ _) | (with_reducible refine Kd.C_drew ?_))); (case side4 => exact (Kd.R_reads' HO_6.out).2.1); rintro e w37 ⟨rfl, hb⟩; have n0_ := Aside0.mk (Kd.R_below (by (with_reducible repeat (first | apply Kd.R_alloc | apply Kd.R_drewN | apply Kd.R_drew)); exact HO_3.out) hb); have n1_ := Aside0.mk (Kd.R_below (by (with_reducible repeat (first | apply Kd.R_alloc | apply Kd.R_drewN | apply Kd.R_drew)); exact HO_6.out) hb); have n2_ := Aside0.mk (below_step (by repeat (first | (with_reducible first | exact HB.out | apply below_alloc | apply pw_below_drewN | apply below_drew1) | exact HB.out)) hb); clear HO_3; clear HO_6; clear HB; have HO_3 := n0_; have HO_6 := n1_; have HB := n2_; clear n0_ n1_ n2_; (try clear hb); (try clear hb2); (try clear hk); (try clear hi)) | (go_at_call 22; (with_reducible refine (impl_MoveCentre.calls _ _ t599 _ _ t604 t618 _ ?side1 ?side2 ?side3 ?side4 A34.out).mono ?_); (case side1 => repeat (first | exact (Kd.R_reads' HO_3.out).2.2 | (with_reducible refine Kd.C_alloc ?_ _) | (with_reducible refine Kd.C_drewN ?_ _) | (with_reducible refine Kd.C_drew ?_))); (case side2 => exact (Kd.R_reads' HO_3.out).2.1); (case side3 => repeat (first | exact (Kd.R_reads' HO_6.out).2.2 | (with_reducible refine Kd.C_alloc ?_ _) | (with_reducible refine Kd.C_drewN ?_ _) | (with_reducible refine Kd.C_drew ?_))); (case side4 => exact (Kd.R_reads' HO_6.out).2.1); rintro e w38 ⟨rfl, hb⟩; have n0_ := Aside0.mk (Kd.R_below (by (with_reducible repeat (first | apply Kd.R_alloc | apply Kd.R_drewN | apply Kd.R_drew)); exact HO_3.out) hb); have n1_ := Aside0.mk (Kd.R_below (by (with_reducible repeat (first | apply Kd.R_alloc | apply Kd.R_drewN | apply Kd.R_drew)); exact HO_6.out) hb); have n2_ := Aside0.mk (below_step (by repeat (first | (with_reducible first | exact HB.out | apply below_alloc | apply pw_below_drewN | apply below_drew1) | exact HB.out)) hb); clear HO_3; clear HO_6; clear HB; have HO_3 := n0_; have HO_6 := n1_; have HB := n2_; clear n0_ n1_ n2_; (try clear hb); (try clear hb2); (try clear hk); (try clear hi)))
           go_ret
           exact ⟨by first | rfl | (simp [errW_none, errW_some] <;> rfl) | (simp [*, errW_none, errW_some] <;> rfl), by repeat (first | (with_reducible first | exact HB.out | apply below_alloc | apply pw_below_drewN | apply below_drew1) | exact HB.out)⟩
          ·rw [if_neg c33] at H
           have c33b0 : (t617 == 90) = false := beq_eq_false_iff_ne.mpr c33
           have c33b1 : (t617 != 90) = true := bne_iff_ne.mpr c33
           obtain rfl := Option.some.inj H
           obtain ⟨Ao39, co39, eo39⟩ := Kd.R_slice HO_6.out
           subst eo39
           go_wp2_with (first | ((with_reducible refine gate_callee (f := 26) rfl ?_); refine goesL_ (some 68) rfl rfl Try.func26 (by kernel_rfl) rfl #[.slice Ao8 t599.length co8, .slice Ao39 t604.length co39] rfl (by (try simp only [List.map_toArray, List.map_cons, List.map_nil]); first | done | rfl | (simp only [List.length_drop, List.length_take]; rfl)) ?_; (with_reducible refine (impl_MoveOrder.calls kj22 _ _ t599 (fun k_ => some k_ = (.slice Ao39 t604.length co39 : Value).ownBlock) _ _ t604 t615 true _ ?side1 ?side2 ?side3 A29.out).mono ?_); (case side1 => repeat (first | exact (Kd.R_reads' HO_3.out).2.2 | (with_reducible refine Kd.C_alloc ?_ _) | (with_reducible refine Kd.C_drewN ?_ _) | (with_reducible refine Kd.C_drew ?_))); (case side2 => exact (Kd.R_reads' HO_3.out).2.1); (case side3 => exact Kd.R_V (Kd.R_tight rfl (HO_6.out))); rintro e w40 ⟨rfl, hb⟩; refine ⟨_, rfl, ?_⟩; have n0_ := Aside0.mk (Kd.R_below (by (with_reducible repeat (first | apply Kd.R_alloc | apply Kd.R_drewN | apply Kd.R_drew)); exact HO_3.out) hb); have n1_ := Aside0.mk (Kd.R_below (by (with_reducible repeat (first | apply Kd.R_alloc | apply Kd.R_drewN | apply Kd.R_drew)); exact HO_6.out) hb); have n2_ := Aside0.mk (below_step (by repeat (first | (with_reducible first | exact HB.out | apply below_alloc | apply pw_below_drewN | apply below_drew1) | exact HB.out)) hb); clear HO_3; clear HO_6; clear HB; have HO_3 := n0_; have HO_6 := n1_; have HB := n2_; clear n0_ n1_ n2_; (try clear hb); (try clear hb2); (try clear hk); (try clear hi)) | (go_at_call 36; (with_reducible refine (impl_MoveAxis.calls _ _ t599 _ _ t604 t617 _ ?side1 ?side2 ?side3 ?side4 A32.out).mono ?_); (case side1 => repeat (first | exact (Kd.R_reads' HO_3.out).2.2 | (with_reducible refine Kd.C_alloc ?_ _) | (with_reducible refine Kd.C_drewN ?_ _) | (with_reducible refine Kd.C_drew ?_))); (case side2 => exact (Kd.R_reads' HO_3.out).2.1); (case side3 => repeat (first | exact (Kd.R_reads' HO_6.out).2.2 | (with_reducible refine Kd.C_alloc ?_ _) | (with_reducible refine Kd.C_drewN ?_ _) | (with_reducible refine Kd.C_drew ?_))); (case side4 => exact (Kd.R_reads' HO_6.out).2.1); rintro e w41 ⟨rfl, hb⟩; have n0_ := Aside0.mk (Kd.R_below (by (with_reducible repeat (first | apply Kd.R_alloc | apply Kd.R_drewN | apply Kd.R_drew)); exact HO_3.out) hb); have n1_ := Aside0.mk (Kd.R_below (by (with_reducible repeat (first | apply Kd.R_alloc | apply Kd.R_drewN | apply Kd.R_drew)); exact HO_6.out) hb); have n2_ := Aside0.mk (below_step (by repeat (first | (with_reducible first | exact HB.out | apply below_alloc | apply pw_below_drewN | apply below_drew1) | exact HB.out)) hb); clear HO_3; clear HO_6; clear HB; have HO_3 := n0_; have HO_6 := n1_; have HB := n2_; clear n0_ n1_ n2_; (try clear hb); (try clear hb2); (try clear hk); (try clear hi)))
           go_ret
           exact ⟨by first | rfl | (simp [errW_none, errW_some] <;> rfl) | (simp [*, errW_none, errW_some] <;> rfl), by repeat (first | (with_reducible first | exact HB.out | apply below_alloc | apply pw_below_drewN | apply below_drew1) | exact HB.out)⟩
         ·rw [if_neg c31] at H
          have c31b0 : (t615 == 3) = false := beq_eq_false_iff_ne.mpr c31
          have c31b1 : (t615 != 3) = true := bne_iff_ne.mpr c31
          obtain rfl := Option.some.inj H
          obtain ⟨Ao42, co42, eo42⟩ := Kd.R_slice HO_6.out
          subst eo42
          go_wp2_with (first | ((with_reducible refine gate_callee (f := 26) rfl ?_); refine goesL_ (some 68) rfl rfl Try.func26 (by kernel_rfl) rfl #[.slice Ao8 t599.length co8, .slice Ao42 t604.length co42] rfl (by (try simp only [List.map_toArray, List.map_cons, List.map_nil]); first | done | rfl | (simp only [List.length_drop, List.length_take]; rfl)) ?_; (with_reducible refine (impl_MoveOrder.calls kj22 _ _ t599 (fun k_ => some k_ = (.slice Ao42 t604.length co42 : Value).ownBlock) _ _ t604 t615 true _ ?side1 ?side2 ?side3 A29.out).mono ?_); (case side1 => repeat (first | exact (Kd.R_reads' HO_3.out).2.2 | (with_reducible refine Kd.C_alloc ?_ _) | (with_reducible refine Kd.C_drewN ?_ _) | (with_reducible refine Kd.C_drew ?_))); (case side2 => exact (Kd.R_reads' HO_3.out).2.1); (case side3 => exact Kd.R_V (Kd.R_tight rfl (HO_6.out))); rintro e w43 ⟨rfl, hb⟩; refine ⟨_, rfl, ?_⟩; have n0_ := Aside0.mk (Kd.R_below (by (with_reducible repeat (first | apply Kd.R_alloc | apply Kd.R_drewN | apply Kd.R_drew)); exact HO_3.out) hb); have n1_ := Aside0.mk (Kd.R_below (by (with_reducible repeat (first | apply Kd.R_alloc | apply Kd.R_drewN | apply Kd.R_drew)); exact HO_6.out) hb); have n2_ := Aside0.mk (below_step (by repeat (first | (with_reducible first | exact HB.out | apply below_alloc | apply pw_below_drewN | apply below_drew1) | exact HB.out)) hb); clear HO_3; clear HO_6; clear HB; have HO_3 := n0_; have HO_6 := n1_; have HB := n2_; clear n0_ n1_ n2_; (try clear hb); (try clear hb2); (try clear hk); (try clear hi)))
          go_ret
          exact ⟨by first | rfl | (simp [errW_none, errW_some] <;> rfl) | (simp [*, errW_none, errW_some] <;> rfl), by repeat (first | (with_reducible first | exact HB.out | apply below_alloc | apply pw_below_drewN | apply below_drew1) | exact HB.out)⟩
        ·replace c30 := Bool.eq_false_iff.mpr c30
         subst c30
         have H1 : (some false) = some r := by rw [if_neg (show ¬ (false = true) by decide)] at H; exact H
         clear H
         have H := H1
         clear H1
         obtain rfl := Option.some.inj H
         obtain ⟨Ao44, co44, eo44⟩ := Kd.R_slice HO_6.out
         subst eo44
         go_wp2_with (first | ((with_reducible refine gate_callee (f := 26) rfl ?_); refine goesL_ (some 68) rfl rfl Try.func26 (by kernel_rfl) rfl #[.slice Ao8 t599.length co8, .slice Ao44 t604.length co44] rfl (by (try simp only [List.map_toArray, List.map_cons, List.map_nil]); first | done | rfl | (simp only [List.length_drop, List.length_take]; rfl)) ?_; (with_reducible refine (impl_MoveOrder.calls kj22 _ _ t599 (fun k_ => some k_ = (.slice Ao44 t604.length co44 : Value).ownBlock) _ _ t604 t615 false _ ?side1 ?side2 ?side3 A29.out).mono ?_); (case side1 => repeat (first | exact (Kd.R_reads' HO_3.out).2.2 | (with_reducible refine Kd.C_alloc ?_ _) | (with_reducible refine Kd.C_drewN ?_ _) | (with_reducible refine Kd.C_drew ?_))); (case side2 => exact (Kd.R_reads' HO_3.out).2.1); (case side3 => exact Kd.R_V (Kd.R_tight rfl (HO_6.out))); rintro e w45 ⟨rfl, hb⟩; refine ⟨_, rfl, ?_⟩; have n0_ := Aside0.mk (Kd.R_below (by (with_reducible repeat (first | apply Kd.R_alloc | apply Kd.R_drewN | apply Kd.R_drew)); exact HO_3.out) hb); have n1_ := Aside0.mk (Kd.R_below (by (with_reducible repeat (first | apply Kd.R_alloc | apply Kd.R_drewN | apply Kd.R_drew)); exact HO_6.out) hb); have n2_ := Aside0.mk (below_step (by repeat (first | (with_reducible first | exact HB.out | apply below_alloc | apply pw_below_drewN | apply below_drew1) | exact HB.out)) hb); clear HO_3; clear HO_6; clear HB; have HO_3 := n0_; have HO_6 := n1_; have HB := n2_; clear n0_ n1_ n2_; (try clear hb); (try clear hb2); (try clear hk); (try clear hi)))
         go_ret
         exact ⟨by first | rfl | (simp [errW_none, errW_some] <;> rfl) | (simp [*, errW_none, errW_some] <;> rfl), by repeat (first | (with_reducible first | exact HB.out | apply below_alloc | apply pw_below_drewN | apply below_drew1) | exact HB.out)⟩

/-- THE ONE PURE STATEMENT of laws_FnShift: yours. -/
def laws_FnShift.Pure : Prop := ∀ (l0 : List Int), l0.length ≤ maxLen → l0.length * 1 ≤ 140737488351232 → (∀ x ∈ l0, (Lit.int .u8 x).wf = true) → ∃ k, laws_FnShift.f k l0 = some true
theorem laws_FnShift.walk (P : laws_FnShift.Pure) (a0 : Option Addr) (len0 cap0 : Nat) (z0 : List Int) (w : World) (w0 : (a0 = none ∧ len0 = 0 ∧ cap0 = 0 ∧ z0 = []) ∨ ∃ x, a0 = some x ∧ len0 ≤ cap0 ∧ cap0 ≤ maxLen ∧ z0.length = cap0 ∧ (∀ i, i < z0.length → w.cell? (x.add i) = some (.int .u8 (z0.getD i 0))) ∧ ∀ n ∈ z0, (Lit.int .u8 n).wf = true) (y0 : len0 * 1 ≤ 140737488351232) :
  Calls Try.prog 9 #[.slice a0 len0 cap0] w fun e w' => e = .returned (.bool true) ∧ Below w.heap.size w w' := by
 obtain ⟨l0, rfl, hr0, hm0, hw0, hc0⟩ := ReadsInt.ofRowC w0
 obtain ⟨k, h⟩ := P l0 hm0 y0 hw0
 refine (laws_FnShift.calls k _ _ l0 true w (Kd.C_of_reads (d := (0 : Int)) (h1 := fun _ => rfl) hr0) hc0 h).mono ?_
 rintro e w' ⟨rfl, hd⟩
 exact ⟨rfl, hd⟩


end Go.Proofs.Ytckipgldmkboiaa.P

set_option linter.unusedVariables false
set_option linter.unusedSimpArgs false
namespace Go.Proofs.Ytckipgldmkboiaa.X
open Go.RowKit Go.Proofs.YtckipgldmkboiaaW.PrintWords

theorem off_ex (t : List Int) {l : Int} (hl : In91 l) : ∃ q, In91 q ∧ onB t q l = false := by
  rcases line_cases hl.1 hl.2 with ⟨m, b, m0, m1, b0, b1, rfl⟩ | ⟨c, c0, c1, rfl⟩ | rfl
  · refine ⟨90, ⟨by omega, by omega⟩, Bool.eq_false_iff.2 fun h => ?_⟩
    have := (on_far (by omega) m0 m1 b0 b1).1 h; omega
  · refine ⟨81, ⟨by omega, by omega⟩, Bool.eq_false_iff.2 fun h => ?_⟩
    have := (on_far_vert (by omega) c0 c1).1 h; omega
  · refine ⟨0, ⟨by omega, by omega⟩, Bool.eq_false_iff.2 fun h => ?_⟩
    have := on_inf.1 h; omega
theorem perm_rd {m : List Int} (hm : permB m = true) {p : Int} (hp : In91 p) : In91 (rd m p) :=
  diffB_pt (permB_diff hm) hp.1 (by have := permB_len hm; have := hp.2; omega)
theorem perm_inj {m : List Int} (hm : permB m = true) {p q : Int} (hp : In91 p) (hq : In91 q) (e : rd m p = rd m q) : p = q :=
  diffB_inj (permB_diff hm) hp.1 (by have := permB_len hm; have := hp.2; omega) hq.1 (by have := permB_len hm; have := hq.2; omega) e
theorem perm_onto {m : List Int} (hm : permB m = true) {q : Int} (hq : In91 q) : ∃ p, In91 p ∧ rd m p = q := by
  obtain ⟨i, hi, he⟩ := pigeon 91 (fun i => (rd m (i : Int)).toNat) (fun i h => by obtain ⟨u0, u1⟩ := perm_rd hm (p := (i : Int)) ⟨by omega, by omega⟩; omega)
    (fun i j h h' e => by
      have a := perm_rd hm (p := (i : Int)) ⟨by omega, by omega⟩
      have b := perm_rd hm (p := (j : Int)) ⟨by omega, by omega⟩
      have a0 := a.1; have b0 := b.1
      have := perm_inj hm (p := (i : Int)) (q := (j : Int)) ⟨by omega, by omega⟩ ⟨by omega, by omega⟩ (by omega)
      omega) q.toNat (by have := hq.1; have := hq.2; omega)
  have a := (perm_rd hm (p := (i : Int)) ⟨by omega, by omega⟩).1
  have := hq.1
  exact ⟨i, ⟨by omega, by omega⟩, by omega⟩
theorem toLine_in {t m : List Int} (h : moveB t m = true) {l : Int} (hl : In91 l) : In91 (toLine t m l) := by
  obtain ⟨hs, hm, _⟩ := moveB_parts h
  exact (toLine_spec hs hm hl).2.2.2
theorem toLine_on {t m : List Int} (h : moveB t m = true) {l p : Int} (hl : In91 l) (hp : In91 p) (ho : onB t p l = true) : onB t (rd m p) (toLine t m l) = true := by
  obtain ⟨hs, hm, hk⟩ := moveB_parts h
  have := hk l hl.1 hl.2
  unfold lineOk at this
  rw [Bool.not_eq_true', List.any_eq_false] at this
  have := this p (mem_pointsL.2 ⟨hp.1, hp.2, ho⟩)
  simpa using this
/-- A line on which the images of two points of l are is the image of l. -/
theorem toLine_eq {t m : List Int} (h : moveB t m = true) {l k p q : Int} (hl : In91 l) (hk : In91 k) (hp : In91 p) (hq : In91 q) (hne : p ≠ q) (p1 : onB t p l = true) (q1 : onB t q l = true) (p2 : onB t (rd m p) k = true) (q2 : onB t (rd m q) k = true) : toLine t m l = k := by
  obtain ⟨hs, hm, _⟩ := moveB_parts h
  have a := perm_rd hm hp
  have b := perm_rd hm hq
  have c := toLine_in h hl
  exact join_uniq hs a.1 a.2 b.1 b.2 (fun e => hne (perm_inj hm hp hq e)) c.1 c.2 hk.1 hk.2 (toLine_on h hl hp p1) (toLine_on h hl hq q1) p2 q2
theorem two_pts {t : List Int} (h : sysB t = true) {l : Int} (hl : In91 l) : ∃ a b, In91 a ∧ In91 b ∧ a ≠ b ∧ onB t a l = true ∧ onB t b l = true := by
  have h2 := pointsL_two h hl.1 hl.2
  have a := pointsL_rd (t := t) (l := l) (i := 0) (by omega) (by omega)
  have b := pointsL_rd (t := t) (l := l) (i := 1) (by omega) (by omega)
  have hlt := filI_lt (n := 91) (p := fun p => onB t p l) (i := 0) (j := 1) (by omega) (by omega) (show (1 : Int) < (pointsL t l).length by omega)
  exact ⟨_, _, a.1, b.1, fun e => by have h3 : rd (pointsL t l) 0 < rd (pointsL t l) 1 := hlt; omega, a.2, b.2⟩
/-- A point is on a line exactly if its image is on the line's. -/
theorem toLine_iff {t m : List Int} (h : moveB t m = true) {l p : Int} (hl : In91 l) (hp : In91 p) : onB t (rd m p) (toLine t m l) = onB t p l := by
  obtain ⟨hs, hm, _⟩ := moveB_parts h
  cases e : onB t p l with
  | true => exact toLine_on h hl hp e
  | false =>
    refine Bool.eq_false_iff.2 fun hon => ?_
    have hL := toLine_in h hl
    obtain ⟨z, hz, hzo⟩ := off_ex t hL
    obtain ⟨q, hq, hqz⟩ := perm_onto hm hz
    by_cases hqp : q = p
    · rw [hqp] at hqz; rw [hqz, hzo] at hon; exact absurd hon (by decide)
    · obtain ⟨k0, k1, kq, kp⟩ := joinI_spec hs hq.1 hq.2 hp.1 hp.2 hqp
      have hkl : joinI t q p ≠ l := fun ee => by rw [ee, e] at kp; exact absurd kp (by decide)
      obtain ⟨a0, a1, ak, al⟩ := meetI_spec hs k0 k1 hl.1 hl.2 hkl
      have hap : meetI t (joinI t q p) l ≠ p := fun ee => by rw [ee, e] at al; exact absurd al (by decide)
      have e2 := toLine_eq h ⟨k0, k1⟩ hL ⟨a0, a1⟩ hp hap ak kp (toLine_on h hl ⟨a0, a1⟩ al) hon
      have := toLine_on h ⟨k0, k1⟩ hq kq
      rw [e2, hqz, hzo] at this
      exact absurd this (by decide)
theorem toLine_inj {t m : List Int} (h : moveB t m = true) {l k : Int} (hl : In91 l) (hk : In91 k) (e : toLine t m l = toLine t m k) : l = k := by
  obtain ⟨hs, hm, _⟩ := moveB_parts h
  obtain ⟨a, b, ha, hb, hne, al, bl⟩ := two_pts hs hl
  have h1 := toLine_iff h hk ha
  have h2 := toLine_iff h hk hb
  rw [← e, toLine_iff h hl ha, al] at h1
  rw [← e, toLine_iff h hl hb, bl] at h2
  exact join_uniq hs ha.1 ha.2 hb.1 hb.2 hne hl.1 hl.2 hk.1 hk.2 al bl h1.symm h2.symm
/-- What maps points one to one onto points, and lines into lines, is a move. -/
theorem move_of {t m : List Int} (hs : sysB t = true) (hm : permB m = true) (f : Int → Int) (hf : ∀ l, In91 l → In91 (f l)) (ho : ∀ p l, In91 p → In91 l → onB t p l = true → onB t (rd m p) (f l) = true) : moveB t m = true := by
  refine moveB_all hs hm fun l l0 l1 => ?_
  have hl : In91 l := ⟨l0, l1⟩
  obtain ⟨a, b, hne, hin⟩ := toLine_spec hs hm hl
  have h2 := pointsL_two hs l0 l1
  have p0 := pointsL_rd (t := t) (l := l) (i := 0) (by omega) (by omega)
  have p1 := pointsL_rd (t := t) (l := l) (i := 1) (by omega) (by omega)
  have e : toLine t m l = f l := joinI_eq hs a.1 a.2 b.1 b.2 hne (hf l hl).1 (hf l hl).2 (ho _ _ p0.1 hl p0.2) (ho _ _ p1.1 hl p1.2)
  unfold lineOk
  rw [Bool.not_eq_true', List.any_eq_false]
  intro p hp
  obtain ⟨p0, p1, hpo⟩ := mem_pointsL.1 hp
  rw [e, ho p l ⟨p0, p1⟩ hl hpo]; decide
theorem toLine_of {t m : List Int} (h : moveB t m = true) (f : Int → Int) (hf : ∀ l, In91 l → In91 (f l)) (ho : ∀ p l, In91 p → In91 l → onB t p l = true → onB t (rd m p) (f l) = true) {l : Int} (hl : In91 l) : toLine t m l = f l := by
  obtain ⟨hs, hm, _⟩ := moveB_parts h
  obtain ⟨a, b, ha, hb, hne, al, bl⟩ := two_pts hs hl
  exact toLine_eq h hl (hf l hl) ha hb hne al bl (ho _ _ ha hl al) (ho _ _ hb hl bl)
theorem permB_of {m : List Int} (hl : m.length = 91) (h : ∀ p, In91 p → In91 (rd m p)) (hi : ∀ p q, In91 p → In91 q → rd m p = rd m q → p = q) : permB m = true := by
  unfold permB
  rw [decide_eq_true hl, Bool.true_and]
  refine diffB_all fun i i0 i1 => ?_
  have hi91 : In91 i := ⟨i0, by omega⟩
  unfold newB
  rw [ptB_iff.2 (h i hi91), Bool.true_and, Bool.not_eq_true', decide_eq_false_iff_not]
  intro hm
  obtain ⟨j, hj, e⟩ := List.mem_take_iff_getElem.1 hm
  rw [← rd_cast m j (by omega)] at e
  have := hi (j : Int) i ⟨by omega, by omega⟩ hi91 e
  omega

/-! ### the way back, one move behind another -/
def backN (m : List Int) : Nat → List Int
  | 0 => List.replicate 91 0
  | n + 1 => (backN m n).set (rd m (n : Int)).toNat (n : Int)
def backL (m : List Int) : List Int := backN m 91
theorem backN_length (m : List Int) (n : Nat) : (backN m n).length = 91 := by
  induction n with
  | zero => simp [backN]
  | succ n ih => unfold backN; rw [List.length_set, ih]
theorem backL_length (m : List Int) : (backL m).length = 91 := by unfold backL; exact backN_length m 91
theorem rd_setC {l : List Int} {i j v : Int} (i0 : 0 ≤ i) (i1 : i < l.length) (j0 : 0 ≤ j) : rd (l.set i.toNat v) j = if j = i then v else rd l j := by
  unfold rd
  rw [List.getD_eq_getElem?_getD, List.getD_eq_getElem?_getD, List.getElem?_set]
  by_cases e : j = i
  · rw [if_pos e, if_pos (by omega), if_pos (by omega)]; rfl
  · rw [if_neg e, if_neg (by omega)]
theorem backN_rd {m : List Int} (hm : permB m = true) (n : Nat) (hn : n ≤ 91) : ∀ p : Int, 0 ≤ p → p < n → rd (backN m n) (rd m p) = p := by
  induction n with
  | zero => intro p h0 h1; omega
  | succ n ih =>
    intro p h0 h1
    have a := perm_rd hm (p := (n : Int)) ⟨by omega, by omega⟩
    have b := perm_rd hm (p := p) ⟨by omega, by omega⟩
    unfold backN
    rw [rd_setC a.1 (by rw [backN_length]; have := a.2; omega) b.1]
    by_cases e : p = n
    · rw [e, if_pos rfl]
    · rw [if_neg (fun ee => e (perm_inj hm ⟨by omega, by omega⟩ ⟨by omega, by omega⟩ ee))]
      exact ih (by omega) p h0 (by omega)
theorem back_rd {m : List Int} (hm : permB m = true) {p : Int} (hp : In91 p) : rd (backL m) (rd m p) = p := backN_rd hm 91 (by omega) p hp.1 hp.2
theorem back_rd2 {m : List Int} (hm : permB m = true) {q : Int} (hq : In91 q) : rd m (rd (backL m) q) = q := by
  obtain ⟨p, hp, rfl⟩ := perm_onto hm hq
  rw [back_rd hm hp]
def behL (m n : List Int) : List Int := mapI 91 fun p => rd n (rd m p)
theorem behL_rd (m n : List Int) {p : Int} (hp : In91 p) : rd (behL m n) p = rd n (rd m p) := rd_mapI hp.1 hp.2
theorem back_in {m : List Int} (hm : permB m = true) {q : Int} (hq : In91 q) : In91 (rd (backL m) q) := by
  obtain ⟨p, hp, rfl⟩ := perm_onto hm hq
  rw [back_rd hm hp]; exact hp
theorem back_perm {m : List Int} (hm : permB m = true) : permB (backL m) = true :=
  permB_of (backN_length m 91) (fun q hq => back_in hm hq) fun p q hp hq e => by
    have := congrArg (rd m) e
    rwa [back_rd2 hm hp, back_rd2 hm hq] at this
theorem beh_perm {m n : List Int} (hm : permB m = true) (hn : permB n = true) : permB (behL m n) = true :=
  permB_of (mapI_length _ _) (fun p hp => by rw [behL_rd _ _ hp]; exact perm_rd hn (perm_rd hm hp)) fun p q hp hq e => by
    rw [behL_rd _ _ hp, behL_rd _ _ hq] at e
    exact perm_inj hm hp hq (perm_inj hn (perm_rd hm hp) (perm_rd hm hq) e)
theorem beh_move {t m n : List Int} (hm : moveB t m = true) (hn : moveB t n = true) : moveB t (behL m n) = true := by
  obtain ⟨hs, pm, _⟩ := moveB_parts hm
  obtain ⟨_, pn, _⟩ := moveB_parts hn
  refine move_of hs (beh_perm pm pn) (fun l => toLine t n (toLine t m l)) (fun l hl => toLine_in hn (toLine_in hm hl)) fun p l hp hl ho => ?_
  rw [behL_rd _ _ hp]
  exact toLine_on hn (toLine_in hm hl) (perm_rd pm hp) (toLine_on hm hl hp ho)
theorem beh_line {t m n : List Int} (hm : moveB t m = true) (hn : moveB t n = true) {l : Int} (hl : In91 l) : toLine t (behL m n) l = toLine t n (toLine t m l) := by
  obtain ⟨hs, pm, _⟩ := moveB_parts hm
  refine toLine_of (beh_move hm hn) (fun l => toLine t n (toLine t m l)) (fun l hl => toLine_in hn (toLine_in hm hl)) (fun p l hp hl ho => ?_) hl
  rw [behL_rd _ _ hp]
  exact toLine_on hn (toLine_in hm hl) (perm_rd pm hp) (toLine_on hm hl hp ho)
/-- Lines are moved onto all lines. -/
theorem toLine_onto {t m : List Int} (h : moveB t m = true) {k : Int} (hk : In91 k) : ∃ l, In91 l ∧ toLine t m l = k := by
  obtain ⟨hs, hm, _⟩ := moveB_parts h
  obtain ⟨a, b, ha, hb, hne, al, bl⟩ := two_pts hs hk
  have ia := back_in hm ha
  have ib := back_in hm hb
  have hne' : rd (backL m) a ≠ rd (backL m) b := fun e => hne (by rw [← back_rd2 hm ha, e, back_rd2 hm hb])
  have hj := joinI_spec hs ia.1 ia.2 ib.1 ib.2 hne'
  exact ⟨_, ⟨hj.1, hj.2.1⟩, toLine_eq h ⟨hj.1, hj.2.1⟩ hk ia ib hne' hj.2.2.1 hj.2.2.2 (by rw [back_rd2 hm ha]; exact al) (by rw [back_rd2 hm hb]; exact bl)⟩
theorem back_move {t m : List Int} (h : moveB t m = true) : moveB t (backL m) = true := by
  obtain ⟨hs, hm, _⟩ := moveB_parts h
  refine moveB_all hs (back_perm hm) fun l l0 l1 => ?_
  obtain ⟨k, hk, e⟩ := toLine_onto h (k := l) ⟨l0, l1⟩
  have hin : ∀ p, In91 p → onB t p l = true → onB t (rd (backL m) p) k = true := fun p hp ho => by
    have := toLine_iff h hk (back_in hm hp)
    rw [back_rd2 hm hp, e, ho] at this
    exact this.symm
  obtain ⟨a, b, hne, _⟩ := toLine_spec hs (back_perm hm) (l := l) ⟨l0, l1⟩
  have h2 := pointsL_two hs l0 l1
  have p0 := pointsL_rd (t := t) (l := l) (i := 0) (by omega) (by omega)
  have p1 := pointsL_rd (t := t) (l := l) (i := 1) (by omega) (by omega)
  have e : toLine t (backL m) l = k := joinI_eq hs a.1 a.2 b.1 b.2 hne hk.1 hk.2 (hin _ p0.1 p0.2) (hin _ p1.1 p1.2)
  unfold lineOk
  rw [Bool.not_eq_true', List.any_eq_false]
  intro p hp
  obtain ⟨p0, p1, hpo⟩ := mem_pointsL.1 hp
  rw [e, hin p ⟨p0, p1⟩ hpo]; decide

end Go.Proofs.Ytckipgldmkboiaa.X

set_option linter.unusedVariables false
set_option linter.unusedSimpArgs false
namespace Go.Proofs.Ytckipgldmkboiaa.X
open Go.RowKit Go.Proofs.YtckipgldmkboiaaW.PrintWords

theorem least_ex {P : Nat → Prop} (h : ∃ n, P n) : ∃ n, P n ∧ ∀ k, P k → n ≤ k := by
  obtain ⟨n, hn⟩ := h
  induction n using Nat.strongRecOn with
  | ind n ih =>
    by_cases e : ∃ k, k < n ∧ P k
    · obtain ⟨k, hk, hp⟩ := e
      exact ih k hk hp
    · exact ⟨n, hn, fun k hk => Nat.le_of_not_lt fun hlt => e ⟨k, hlt, hk⟩⟩
def itI (m : List Int) : Nat → Int → Int
  | 0, p => p
  | k + 1, p => rd m (itI m k p)
theorem itI_in {m : List Int} (hm : permB m = true) (k : Nat) {p : Int} (hp : In91 p) : In91 (itI m k p) := by
  induction k with
  | zero => exact hp
  | succ k ih => exact perm_rd hm ih
theorem itI_add (m : List Int) (j k : Nat) (p : Int) : itI m (j + k) p = itI m j (itI m k p) := by
  induction j with
  | zero => rw [Nat.zero_add]; rfl
  | succ j ih => rw [Nat.succ_add]; show rd m (itI m (j + k) p) = rd m (itI m j (itI m k p)); rw [ih]
theorem itI_inj {m : List Int} (hm : permB m = true) (k : Nat) {p q : Int} (hp : In91 p) (hq : In91 q) (e : itI m k p = itI m k q) : p = q := by
  induction k with
  | zero => exact e
  | succ k ih => exact ih (perm_inj hm (itI_in hm k hp) (itI_in hm k hq) e)
theorem itI_mul (m : List Int) (n : Nat) {p : Int} (h : itI m n p = p) (j : Nat) : itI m (n * j) p = p := by
  induction j with
  | zero => rfl
  | succ j ih => rw [Nat.mul_succ, itI_add, h, ih]
theorem itI_mod {m : List Int} (n : Nat) {p : Int} (h : itI m n p = p) (k : Nat) : itI m k p = itI m (k % n) p := by
  have e : k = k % n + n * (k / n) := by rw [Nat.mod_add_div]
  calc itI m k p = itI m (k % n + n * (k / n)) p := by rw [← e]
    _ = itI m (k % n) p := by rw [itI_add, itI_mul m n h]
/-- No point is moved, where a move is done so often. -/
def IdN (m : List Int) (n : Nat) : Prop := ∀ p, In91 p → itI m n p = p
def IsOrd (m : List Int) (n : Nat) : Prop := 1 ≤ n ∧ IdN m n ∧ ∀ k, 1 ≤ k → IdN m k → n ≤ k
theorem IsOrd.uniq {m : List Int} {n k : Nat} (h : IsOrd m n) (h' : IsOrd m k) : n = k := Nat.le_antisymm (h.2.2 k h'.1 h'.2.1) (h'.2.2 n h.1 h.2.1)
theorem IsOrd.dvd {m : List Int} {n k : Nat} (h : IsOrd m n) (hk : IdN m k) : n ∣ k := by
  refine Nat.dvd_of_mod_eq_zero ?_
  rcases Nat.eq_zero_or_pos (k % n) with e | e
  · exact e
  · have h1 := h.2.2 (k % n) e fun p hp => by rw [← itI_mod n (h.2.1 p hp) k]; exact hk p hp
    have h2 := Nat.mod_lt k (show 0 < n from h.1)
    omega
theorem ord_of_id {m : List Int} {k : Nat} (h1 : 1 ≤ k) (hk : IdN m k) : ∃ n, IsOrd m n := by
  obtain ⟨n, ⟨a, b⟩, c⟩ := least_ex (P := fun n => 1 ≤ n ∧ IdN m n) ⟨k, h1, hk⟩
  exact ⟨n, a, b, fun j h1 hj => c j ⟨h1, hj⟩⟩

/-! ### the way round of one point -/
def IsCyc (m : List Int) (p : Int) (n : Nat) : Prop := 1 ≤ n ∧ itI m n p = p ∧ ∀ k, 1 ≤ k → itI m k p = p → n ≤ k
theorem cyc_ex {m : List Int} (hm : permB m = true) {p : Int} (hp : In91 p) : ∃ n, n ≤ 91 ∧ IsCyc m p n := by
  have hret : ∃ n, 1 ≤ n ∧ n ≤ 91 ∧ itI m n p = p := by
    rcases Classical.em (∃ i j, i < j ∧ j < 92 ∧ itI m i p = itI m j p) with ⟨i, j, hij, hj, e⟩ | hno
    · refine ⟨j - i, by omega, by omega, ?_⟩
      have e2 : itI m j p = itI m i (itI m (j - i) p) := by rw [← itI_add, show i + (j - i) = j by omega]
      exact (itI_inj hm i hp (itI_in hm _ hp) (e.trans e2)).symm
    · exfalso
      obtain ⟨i, hi, he⟩ := pigeon 92 (fun i => (itI m i p).toNat) (fun i h => by have := (itI_in hm i hp).2; show (itI m i p).toNat < 92; omega)
        (fun i j h h' e => hno ⟨i, j, h, h', by
          have a := itI_in hm i hp
          have b := itI_in hm j hp
          have a0 := a.1; have b0 := b.1
          have e : (itI m i p).toNat = (itI m j p).toNat := e
          omega⟩) 91 (by omega)
      have := (itI_in hm i hp).2
      have he : (itI m i p).toNat = 91 := he
      omega
  obtain ⟨k, k1, k2, k3⟩ := hret
  obtain ⟨n, ⟨a, b⟩, c⟩ := least_ex (P := fun n => 1 ≤ n ∧ itI m n p = p) ⟨k, k1, k3⟩
  exact ⟨n, Nat.le_trans (c k ⟨k1, k3⟩) k2, a, b, fun j h1 hj => c j ⟨h1, hj⟩⟩
theorem IsCyc.dvd {m : List Int} {p : Int} {n k : Nat} (h : IsCyc m p n) (hk : itI m k p = p) : n ∣ k := by
  refine Nat.dvd_of_mod_eq_zero ?_
  rcases Nat.eq_zero_or_pos (k % n) with e | e
  · exact e
  · have h1 := h.2.2 (k % n) e (by rw [← itI_mod n h.2.1 k]; exact hk)
    have h2 := Nat.mod_lt k (show 0 < n from h.1)
    omega
theorem IsCyc.ne {m : List Int} (hm : permB m = true) {p : Int} (hp : In91 p) {n i j : Nat} (h : IsCyc m p n) (hij : i < j) (hj : j < n) : itI m i p ≠ itI m j p := fun e => by
  have e2 : itI m j p = itI m i (itI m (j - i) p) := by rw [← itI_add, show i + (j - i) = j by omega]
  have := h.2.2 (j - i) (by omega) (itI_inj hm i hp (itI_in hm _ hp) (e.trans e2)).symm
  omega

/-! ### powers as lists; sorted lists -/
def powL (m : List Int) (k : Nat) : List Int := mapI 91 (itI m k)
theorem powL_rd (m : List Int) (k : Nat) {p : Int} (hp : In91 p) : rd (powL m k) p = itI m k p := rd_mapI hp.1 hp.2
theorem powL_one {m : List Int} (hm : permB m = true) : powL m 1 = m := by
  have hl := permB_len hm
  refine ext_rd (by unfold powL; rw [mapI_length, hl]) fun i hi => ?_
  unfold powL at hi
  rw [mapI_length] at hi
  rw [powL_rd m 1 ⟨by omega, by omega⟩]; rfl
theorem powL_perm {m : List Int} (hm : permB m = true) (k : Nat) : permB (powL m k) = true :=
  permB_of (mapI_length _ _) (fun p hp => by rw [powL_rd m k hp]; exact itI_in hm k hp) fun p q hp hq e => by
    rw [powL_rd m k hp, powL_rd m k hq] at e
    exact itI_inj hm k hp hq e
theorem powL_beh (m : List Int) (k : Nat) : behL (powL m k) m = powL m (k + 1) := by
  unfold behL
  refine mapI_congr (n := 91) fun i hi => ?_
  rw [powL_rd m k ⟨by omega, by omega⟩]; rfl
theorem asc_id (f : Int → Int) (n : Nat) (hr : ∀ i : Int, 0 ≤ i → i < n → 0 ≤ f i ∧ f i < n) (ha : ∀ i : Int, 0 ≤ i → i + 1 < n → f i < f (i + 1)) : ∀ i : Int, 0 ≤ i → i < n → f i = i := by
  have up : ∀ d : Nat, (d : Int) < n → (d : Int) ≤ f d := by
    intro d
    induction d with
    | zero => intro h; exact (hr 0 (by omega) h).1
    | succ d ih =>
      intro h
      have h1 := ih (by omega)
      have h2 := ha d (by omega) (by omega)
      have e : ((d + 1 : Nat) : Int) = (d : Int) + 1 := by omega
      rw [e]; omega
  have down : ∀ (d : Nat) (i : Int), 0 ≤ i → i + d + 1 = n → f i ≤ i := by
    intro d
    induction d with
    | zero => intro i i0 h; have := (hr i i0 (by omega)).2; omega
    | succ d ih =>
      intro i i0 h
      have h1 := ih (i + 1) (by omega) (by omega)
      have h2 := ha i i0 (by omega)
      omega
  intro i i0 i1
  have h1 := up i.toNat (by omega)
  rw [Int.toNat_of_nonneg i0] at h1
  have h2 := down (n - 1 - i.toNat) i i0 (by omega)
  omega
def sortB (l : List Int) : Bool := allI l.length fun i => decide (i ≤ 0) || !decide (rd l i < rd l (i - 1))
theorem sortB_iff {l : List Int} : sortB l = true ↔ ∀ i : Int, 0 < i → i < l.length → rd l (i - 1) ≤ rd l i := by
  unfold sortB
  rw [allI_int_iff]
  constructor
  · intro h i i0 i1
    have := h i (by omega) i1
    rw [decide_eq_false (by omega : ¬ i ≤ 0), Bool.false_or, Bool.not_eq_true', decide_eq_false_iff_not] at this
    omega
  · intro h i i0 i1
    by_cases e : i ≤ 0
    · rw [decide_eq_true e, Bool.true_or]
    · rw [decide_eq_false e, Bool.false_or, Bool.not_eq_true', decide_eq_false_iff_not]
      have := h i (by omega) i1
      omega
theorem sort_pow {m : List Int} (hm : permB m = true) (k : Nat) : sortB (powL m k) = true ↔ IdN m k := by
  have hlen : (powL m k).length = 91 := mapI_length _ _
  rw [sortB_iff, hlen]
  constructor
  · intro h
    have := asc_id (itI m k) 91 (fun i i0 i1 => itI_in hm k ⟨i0, i1⟩) (fun i i0 i1 => by
      have h1 := h (i + 1) (by omega) (by omega)
      rw [show i + 1 - 1 = i by omega, powL_rd m k ⟨i0, by omega⟩, powL_rd m k (p := i + 1) ⟨by omega, by omega⟩] at h1
      rcases Int.lt_or_eq_of_le h1 with hlt | he
      · exact hlt
      · have := itI_inj hm k ⟨i0, by omega⟩ ⟨by omega, by omega⟩ he; omega)
    exact fun p hp => this p hp.1 hp.2
  · intro h i i0 i1
    rw [powL_rd m k (p := i - 1) ⟨by omega, by omega⟩, powL_rd m k (p := i) ⟨by omega, by omega⟩, h (i - 1) ⟨by omega, by omega⟩, h i ⟨by omega, by omega⟩]
    omega

end Go.Proofs.Ytckipgldmkboiaa.X

set_option linter.unusedVariables false
set_option linter.unusedSimpArgs false
namespace Go.Proofs.Ytckipgldmkboiaa.X
open Go.RowKit Go.Proofs.YtckipgldmkboiaaW.PrintWords

def addP (p q : Int) : Int := 9 * addN (p / 9) (q / 9) + addN (p % 9) (q % 9)
def negP (p : Int) : Int := 9 * minusN (p / 9) + minusN (p % 9)
def nearP (p : Int) : Prop := 0 ≤ p ∧ p < 81
theorem addP_near (p q : Int) : nearP (addP p q) := by
  have a := addN_range (p / 9) (q / 9)
  have b := addN_range (p % 9) (q % 9)
  unfold addP nearP; omega
theorem addP_div (p q : Int) : addP p q / 9 = addN (p / 9) (q / 9) := by
  have a := addN_range (p / 9) (q / 9)
  have b := addN_range (p % 9) (q % 9)
  unfold addP; omega
theorem addP_mod (p q : Int) : addP p q % 9 = addN (p % 9) (q % 9) := by
  have a := addN_range (p / 9) (q / 9)
  have b := addN_range (p % 9) (q % 9)
  unfold addP; omega
theorem negP_div (p : Int) : negP p / 9 = minusN (p / 9) := by
  have a := minusN_range (p / 9)
  have b := minusN_range (p % 9)
  unfold negP; omega
theorem negP_mod (p : Int) : negP p % 9 = minusN (p % 9) := by
  have a := minusN_range (p / 9)
  have b := minusN_range (p % 9)
  unfold negP; omega
theorem near_ext {p q : Int} (h1 : p / 9 = q / 9) (h2 : p % 9 = q % 9) : p = q := by omega
/-- a + (b - c) = b + (a - c) -/
theorem addP_swap {a b c : Int} (ha : nearP a) (hb : nearP b) (hc : nearP c) : addP a (addP b (negP c)) = addP b (addP a (negP c)) := by
  obtain ⟨a0, a1⟩ := ha
  obtain ⟨b0, b1⟩ := hb
  obtain ⟨c0, c1⟩ := hc
  have key : ∀ x y z : Int, 0 ≤ x → x < 9 → 0 ≤ y → y < 9 → 0 ≤ z → z < 9 → addN x (addN y (minusN z)) = addN y (addN x (minusN z)) :=
    fun x y z x0 x1 y0 y1 z0 z1 => nine3 (P := fun x y z => addN x (addN y (minusN z)) = addN y (addN x (minusN z))) (by decide +kernel) x y z x0 x1 y0 y1 z0 z1
  refine near_ext ?_ ?_
  · rw [addP_div, addP_div, addP_div, addP_div, negP_div]
    exact key _ _ _ (by omega) (by omega) (by omega) (by omega) (by omega) (by omega)
  · rw [addP_mod, addP_mod, addP_mod, addP_mod, negP_mod]
    exact key _ _ _ (by omega) (by omega) (by omega) (by omega) (by omega) (by omega)
/-- a + (b - a) = b -/
theorem addP_back {a b : Int} (ha : nearP a) (hb : nearP b) : addP a (addP b (negP a)) = b := by
  obtain ⟨a0, a1⟩ := ha
  obtain ⟨b0, b1⟩ := hb
  refine near_ext ?_ ?_
  · rw [addP_div, addP_div, negP_div]
    exact (solve_b (by omega) (by omega) (by omega) (by omega)).symm
  · rw [addP_mod, addP_mod, negP_mod]
    exact (solve_b (by omega) (by omega) (by omega) (by omega)).symm
theorem line_shift {x y w e : Int} (hx : 0 ≤ x ∧ x < 9) (hy : 0 ≤ y ∧ y < 9) (hw : 0 ≤ w ∧ w < 9) (he : 0 ≤ e ∧ e < 9) (a : y = addN x e) : addN w (addN y (minusN (addN x e))) = addN w 0 := by
  rw [← a, addN_minus hy.1 hy.2]
/-- Where two near points are on a line with a far point, a third one and its sum with their difference are, too. -/
theorem shift_line {t : List Int} (h : sysB t = true) {p q r f l : Int} (hp : nearP p) (hq : nearP q) (hr : nearP r) (hl : In91 l) (hf : 81 ≤ f) (hf1 : f < 91) (a : onB t p l = true) (b : onB t q l = true) (c : onB t f l = true) (hne : p ≠ q) :
    ∃ k, In91 k ∧ onB t r k = true ∧ onB t (addP r (addP q (negP p))) k = true ∧ onB t f k = true := by
  obtain ⟨p0, p1⟩ := hp
  obtain ⟨q0, q1⟩ := hq
  obtain ⟨r0, r1⟩ := hr
  obtain ⟨x, y, x0, x1, y0, y1, rfl⟩ : ∃ x y : Int, 0 ≤ x ∧ x < 9 ∧ 0 ≤ y ∧ y < 9 ∧ p = 9 * x + y := ⟨p / 9, p % 9, by omega, by omega, by omega, by omega, by omega⟩
  obtain ⟨u, v, u0, u1, v0, v1, rfl⟩ : ∃ x y : Int, 0 ≤ x ∧ x < 9 ∧ 0 ≤ y ∧ y < 9 ∧ q = 9 * x + y := ⟨q / 9, q % 9, by omega, by omega, by omega, by omega, by omega⟩
  obtain ⟨g, i, g0, g1, i0, i1, rfl⟩ : ∃ x y : Int, 0 ≤ x ∧ x < 9 ∧ 0 ≤ y ∧ y < 9 ∧ r = 9 * x + y := ⟨r / 9, r % 9, by omega, by omega, by omega, by omega, by omega⟩
  have es : addP (9 * g + i) (addP (9 * u + v) (negP (9 * x + y))) = 9 * addN g (addN u (minusN x)) + addN i (addN v (minusN y)) := by
    refine near_ext ?_ ?_
    · rw [addP_div, addP_div, negP_div, show (9 * g + i) / 9 = g by omega, show (9 * u + v) / 9 = u by omega, show (9 * x + y) / 9 = x by omega]
      have := addN_range i (addN v (minusN y)); omega
    · rw [addP_mod, addP_mod, negP_mod, show (9 * g + i) % 9 = i by omega, show (9 * u + v) % 9 = v by omega, show (9 * x + y) % 9 = y by omega]
      have := addN_range i (addN v (minusN y)); omega
  rw [es]
  have rX := addN_range g (addN u (minusN x))
  have rY := addN_range i (addN v (minusN y))
  have rD := addN_range u (minusN x)
  rcases line_cases hl.1 hl.2 with ⟨m, e, m0, m1, e0, e1, rfl⟩ | ⟨e, e0, e1, rfl⟩ | rfl
  · rw [on_near x0 x1 y0 y1 m0 m1 e0 e1] at a
    rw [on_near u0 u1 v0 v1 m0 m1 e0 e1] at b
    have c := (on_far hf m0 m1 e0 e1).1 c
    have rg := sys_range h g0 g1 m0 m1
    have rx := sys_range h x0 x1 m0 m1
    have ru := sys_range h u0 u1 m0 m1
    have rd' := sys_range h rD.1 rD.2 m0 m1
    have rE := addN_range i (minusN (rd t (9 * g + m)))
    refine ⟨9 * m + addN i (minusN (rd t (9 * g + m))), ⟨by omega, by omega⟩, (on_near g0 g1 i0 i1 m0 m1 rE.1 rE.2).2 (solve_b rg.1 rg.2 i0 i1), (on_near rX.1 rX.2 rY.1 rY.2 m0 m1 rE.1 rE.2).2 ?_, (on_far hf m0 m1 rE.1 rE.2).2 c⟩
    have s1 := sys_share h g0 g1 rD.1 rD.2 m0 m1
    have s2 := sys_share h rD.1 rD.2 x0 x1 m0 m1
    rw [minus_add u0 u1 x0 x1] at s2
    rw [s1]
    subst a
    subst b
    rw [s2]
    generalize rd t (9 * addN u (minusN x) + m) = D at rd' ⊢
    generalize rd t (9 * x + m) = X at rx ⊢
    generalize rd t (9 * g + m) = G at rg ⊢
    have k1 : addN (addN (addN D X) e) (minusN (addN X e)) = D := nine3 (P := fun D X e => addN (addN (addN D X) e) (minusN (addN X e)) = D) (by decide +kernel) D X e rd'.1 rd'.2 rx.1 rx.2 e0 e1
    rw [k1]
    exact nine3 (P := fun i D G => addN i D = addN (addN G D) (addN i (minusN G))) (by decide +kernel) i D G i0 i1 rd'.1 rd'.2 rg.1 rg.2
  · rw [on_vert x0 x1 y0 y1 e0 e1] at a
    rw [on_vert u0 u1 v0 v1 e0 e1] at b
    have c := (on_far_vert hf e0 e1).1 c
    have ed : addN u (minusN x) = 0 := by rw [a, b]; exact addN_minus e0 e1
    rw [ed, addN_zero g0 g1]
    exact ⟨81 + g, ⟨by omega, by omega⟩, (on_vert g0 g1 i0 i1 g0 g1).2 rfl, (on_vert g0 g1 rY.1 rY.2 g0 g1).2 rfl, (on_far_vert hf g0 g1).2 c⟩
  · have := on_inf.1 a; omega
theorem on90 {t : List Int} {p : Int} (h : 81 ≤ p) : onB t p 90 = true := on_inf.2 h
/-- Two different far points are on the far line only. -/
theorem far_line {t : List Int} (h : sysB t = true) {p q l : Int} (hp : 81 ≤ p) (p1 : p < 91) (hq : 81 ≤ q) (q1 : q < 91) (hne : p ≠ q) (hl : In91 l) (a : onB t p l = true) (b : onB t q l = true) : l = 90 :=
  join_uniq h (by omega) p1 (by omega) q1 hne hl.1 hl.2 (by omega) (by omega) a b (on90 hp) (on90 hq)

end Go.Proofs.Ytckipgldmkboiaa.X

set_option linter.unusedVariables false
set_option linter.unusedSimpArgs false
namespace Go.Proofs.Ytckipgldmkboiaa.X
open Go.RowKit Go.Proofs.YtckipgldmkboiaaW.PrintWords Go.Proofs.YtckipgldmkboiaaW.PrintLast Go.Proofs.Ytckipgldmkboiaa.P

set_option maxRecDepth 100000 in
set_option maxHeartbeats 4000000 in
theorem elementsThat_calls (g : Nat) (lb : Array Value) (eg : Eg g) (p : Int → Bool) (w : World) (hp : Fn1 g lb w (fun x => 0 ≤ x ∧ x < 9) (fun x => .bool (p x))) :
    Calls Try.prog 140 #[.func (.func g) #[] lb] w fun e w' => ∃ v : Value, e = .returned v ∧ Kd.R (Kd.int .i64) 3 w' w.heap.size (fun _ => True) v (filI 9 p) ∧ Below w.heap.size w w' := by
  have HP := Aside0.mk hp
  clear hp
  unfold Eg at eg
  go_enter Try.func140, Try.ntmps140
  go_wp2_with ((with_reducible refine gate_dst (N := 5) rfl ?_); refine Kd.R_lit (Kd.int .i64) _ 3 ?hg (N := 5) ?hd (xs := ([] : List Int)) (inner := []) (ok := fun _ => True) (okp := fun _ => True) ?hr ?hp (fun _ hk => hk) trivial (Below.refl _ _) (Nat.le_refl _) (by simp) ?_; (case hd => rfl); (case hg => rfl); (case hr => first | (go_simp; done) | (go_simp; rfl)); (case hp => exact (Reps.none _ _)); intro v0 w0 ho0 hb0 hg0 hnew0; have HO0 := Aside0.mk ho0; have HB0 := Aside0.mk hb0; clear ho0 hb0 hg0 hnew0)
  go_loopg [3, 6] 9 (fun kq v3 v6 w' => ∃ i : Int, v6 = .int .i64 i ∧ Aside0 (0 ≤ i ∧ i ≤ 9) ∧ Aside0 ((9 : Int) - i ≤ kq) ∧ Aside0 (Kd.R (Kd.int .i64) 3 w' w.heap.size (fun _ => True) v3 (filI i.toNat p)) ∧ Aside0 (Below w.heap.size w w'))
  case atStart => exact ⟨0, rfl, ⟨by omega⟩, ⟨by omega⟩, HO0, HB0⟩
  case round =>
    clear HO0 HB0
    obtain ⟨i, rfl, HI, HK, HO, HB⟩ := hrel
    have h0 : 0 ≤ i := HI.out.1
    by_cases c6 : i < 9
    · have hlen : (filI i.toNat p).length ≤ i.toNat := filI_length_le _ _
      have hcall := HP.out wr i HB.out ⟨h0, c6⟩
      dsimp only at hcall
      have hsucc : filI (i + 1).toNat p = filI i.toNat p ++ (if p i = true then [i] else []) := by
        rw [show (i + 1).toNat = i.toNat + 1 by omega, filI_succ, Int.toNat_of_nonneg h0]
      have HSU := Aside0.mk hsucc
      have HL := Aside0.mk hlen
      clear hlen hsucc
      obtain ⟨xs, hxs⟩ : ∃ xs, filI i.toNat p = xs := ⟨_, rfl⟩
      rw [hxs] at HO HSU HL
      clear hxs
      by_cases hv : p i = true
      · rw [hv] at hcall
        have hz : filI (i + 1).toNat p = xs ++ [i] := by rw [HSU.out, if_pos hv]
        have HZ := Aside0.mk hz
        have HC := Aside0.mk hcall
        clear hcall hz hv
        go_wp2_with fail
        refine HC.out.mono ?_
        rintro e w1 ⟨rfl, hb1⟩
        have HB1 := Aside0.mk (bstep HB.out hb1)
        have HO1 := Aside0.mk (Kd.R_below HO.out hb1)
        clear hb1 HO HB
        go_wp2_with (at_builtin; refine Kd.R_append (Kd.int .i64) (w0 := w) w.heap.size rfl (.tmp 12) (.tmp 14) 22 3 (.int .i64 0) 8 rfl Try.underlying22 info3 rfl (by decide) (by omega) u3 xs i [.int .i64 i] (fun _ => True) (fun _ => False) rfl rfl ?aP (fun _ hk => hk.elim) ?aF ?aO ?aB ?aS ?aL ?_; (case aP => exact rfl); (case aB => exact HB1.out); (case aF => exact (fun _ _ => trivial)); (case aO => exact HO1.out); (case aS => exact HB1.out.size); (case aL => have := HL.out; omega); intro v1 w2 ho hb hg hat; have HO2 := Aside0.mk ho; have HB2 := Aside0.mk hb; clear ho hb hg hat)
        go_roundg (9 - (i.toNat + 1))
        case measure => have := HK.out; omega
        case rel => exact ⟨i + 1, rfl, ⟨by omega⟩, ⟨by omega⟩, ⟨by rw [HZ.out]; exact HO2.out⟩, HB2⟩
      · have hv := Bool.eq_false_iff.2 hv
        rw [hv] at hcall
        have hz : filI (i + 1).toNat p = xs := by rw [HSU.out, if_neg (by rw [hv]; simp), List.append_nil]
        have HZ := Aside0.mk hz
        have HC := Aside0.mk hcall
        clear hcall hz hv
        go_wp2_with (go_at_fn g; refine HC.out.mono ?_; rintro e w1 ⟨rfl, hb1⟩)
        go_roundg (9 - (i.toNat + 1))
        case measure => have := HK.out; omega
        case rel => exact ⟨i + 1, rfl, ⟨by omega⟩, ⟨by omega⟩, ⟨by rw [HZ.out]; exact Kd.R_below HO.out hb1⟩, ⟨bstep HB.out hb1⟩⟩
    · go_wp2
      go_ret
      have hi : i = 9 := by have := HI.out; omega
      subst hi
      exact ⟨_, rfl, HO.out, HB.out⟩

end Go.Proofs.Ytckipgldmkboiaa.X

set_option linter.unusedVariables false
set_option linter.unusedSimpArgs false
namespace Go.Proofs.Ytckipgldmkboiaa.X
open Go.RowKit Go.Proofs.YtckipgldmkboiaaW.PrintWords Go.Proofs.YtckipgldmkboiaaW.PrintLast Go.Proofs.Ytckipgldmkboiaa.P

def kerB (t : List Int) (k a b : Int) : Bool := (rd t (9 * k + rd t (9 * a + b)) == rd t (9 * rd t (9 * k + a) + b)) && (rd t (9 * k + addN a b) == addN (rd t (9 * k + a)) (rd t (9 * k + b)))
def kernelB (t : List Int) (k : Int) : Bool := all3 fun a b _ => kerB t k a b
def kernelL (t : List Int) : List Int := filI 9 (kernelB t)
set_option maxHeartbeats 8000000 in
theorem kernel11_calls (b bk : Nat) (A0 : Option Addr) (c0 : Nat) (t : List Int) (w : World) (hb : BoxT w b A0 c0 t) (hn : ninesB t 81 = true) (k : Int) (hK : In9 k)
    (hk : w.cell? ⟨bk, 0, none⟩ = some (.int .i64 k)) (x y z : Int) (hx : In9 x) (hy : In9 y) :
    Calls Try.prog 142 #[.int .i64 x, .int .i64 y, .int .i64 z, .pointer (some ⟨b, 0, none⟩), .pointer (some ⟨bk, 0, none⟩)] w fun e w' => e = .returned (.bool (kerB t k x y)) ∧ Below w.heap.size w w' := by
  obtain ⟨hl, _⟩ := ninesB_iff.1 hn
  obtain ⟨ad, rfl⟩ := hb.some (by omega)
  obtain ⟨x0, x1⟩ := hx
  obtain ⟨y0, y1⟩ := hy
  obtain ⟨k0, k1⟩ := hK
  have hc := hb.cell
  unfold kerB
  have C1 := Aside0.mk (add_calls x y ⟨x0, x1⟩ ⟨y0, y1⟩)
  have q1 := nines_rd hn (i := 9 * x + y) (by omega) (by omega)
  have g1 := hb.at (9 * x + y) (by omega) (by omega)
  have q3 := nines_rd hn (i := 9 * k + x) (by omega) (by omega)
  have g3 := hb.at (9 * k + x) (by omega) (by omega)
  have q6 := nines_rd hn (i := 9 * k + y) (by omega) (by omega)
  have g6 := hb.at (9 * k + y) (by omega) (by omega)
  obtain ⟨s0, s1⟩ := addN_range x y
  have C2 := Aside0.mk (add_calls (rd t (9 * k + x)) (rd t (9 * k + y)) q3 q6)
  obtain ⟨u1, hu1⟩ : ∃ u, rd t (9 * x + y) = u := ⟨_, rfl⟩
  obtain ⟨u3, hu3⟩ : ∃ u, rd t (9 * k + x) = u := ⟨_, rfl⟩
  obtain ⟨u6, hu6⟩ : ∃ u, rd t (9 * k + y) = u := ⟨_, rfl⟩
  obtain ⟨s, hs⟩ : ∃ s, addN x y = s := ⟨_, rfl⟩
  obtain ⟨r, hr⟩ : ∃ r, addN u3 u6 = r := ⟨_, rfl⟩
  rw [hu1] at q1 g1 ⊢
  rw [hu3] at q3 g3 C2 ⊢
  rw [hu6] at q6 g6 C2 ⊢
  rw [hs] at C1 s0 s1 ⊢
  rw [hr] at C2 ⊢
  obtain ⟨q10, q11⟩ := q1
  obtain ⟨q30, q31⟩ := q3
  have g2 := hb.at (9 * k + u1) (by omega) (by omega)
  have g4 := hb.at (9 * u3 + y) (by omega) (by omega)
  have g5 := hb.at (9 * k + s) (by omega) (by omega)
  obtain ⟨u2, hu2⟩ : ∃ u, rd t (9 * k + u1) = u := ⟨_, rfl⟩
  obtain ⟨u4, hu4⟩ : ∃ u, rd t (9 * u3 + y) = u := ⟨_, rfl⟩
  obtain ⟨u5, hu5⟩ : ∃ u, rd t (9 * k + s) = u := ⟨_, rfl⟩
  rw [hu2] at g2 ⊢
  rw [hu4] at g4 ⊢
  rw [hu5] at g5 ⊢
  have hlen : 81 ≤ t.length := by omega
  clear hb hn hu1 hu2 hu3 hu4 hu5 hu6 hs hr hl q6
  by_cases h1 : (u2 == u4) = true
  case neg =>
    have h1 := Bool.eq_false_iff.2 h1
    rw [h1]
    go_enter Try.func142, Try.ntmps142
    go_wp2
    go_quiet ((first | (go_at_call 75; with_reducible exact qd (C1.out _)) | (go_at_call 75; with_reducible exact qd (C2.out _))))
    go_wp2
    go_ret
    exact ⟨rfl, Drawn0.below ⟨⟨_, rfl⟩⟩⟩
  case pos =>
    rw [h1, Bool.true_and]
    go_enter Try.func142, Try.ntmps142
    go_wp2
    go_quiet ((first | (go_at_call 75; with_reducible exact qd (C1.out _)) | (go_at_call 75; with_reducible exact qd (C2.out _))))
    go_wp2
    go_ret
    exact ⟨rfl, Drawn0.below ⟨⟨_, rfl⟩⟩⟩
theorem entersK11 : Eg 142 := enters_of Try.func142 (by kernel_rfl) rfl
theorem entersK1 : Eg 141 := enters_of Try.func141 (by kernel_rfl) rfl
set_option maxHeartbeats 4000000 in
theorem kernel1_calls (b : Nat) (A0 : Option Addr) (c0 : Nat) (t : List Int) (w : World) (hb : BoxT w b A0 c0 t) (hn : ninesB t 81 = true) (k : Int) (hK : In9 k) :
    Calls Try.prog 141 #[.int .i64 k, .pointer (some ⟨b, 0, none⟩)] w fun e w' => e = .returned (.bool (kernelB t k)) ∧ Below w.heap.size w w' := by
  have hmf : ∀ (fn : Fn) (first cap : Array Value) (w : World), (Instr.makeFunc fn first cap).run Try.prog w = .ok (.func fn first cap) w := fun _ _ _ _ => rfl
  have hb0 : Below w.heap.size w (w.alloc (.cells #[.int .i64 k] 3)) := (Below.refl _ _).alloc (Nat.le_refl _) _
  have hb1 : (w.alloc (.cells #[.int .i64 k] 3)).cell? ⟨w.heap.size, 0, none⟩ = some (.int .i64 k) := World.cell?_alloc_new w _ _ 0
  have hbx := hb.below hb0
  have hcall := forAll_calls 142 #[.pointer (some ⟨b, 0, none⟩), .pointer (some ⟨w.heap.size, 0, none⟩)] entersK11 (fun x y _ => kerB t k x y) (w.alloc (.cells #[.int .i64 k] 3))
    (fun W x y z hW hd => kernel11_calls b w.heap.size A0 c0 t W (hbx.below hW) hn k hK (pw_cell_below hW hb1) x y z hd.1 hd.2.1)
  rw [show all3 (fun x y _ => kerB t k x y) = kernelB t k from rfl] at hcall
  have HC := Aside0.mk hcall
  have HB := Aside0.mk hb0
  clear hb hn hbx hb0 hb1 hcall
  go_enter Try.func141, Try.ntmps141
  go_wp2_with (go_at_call 112; refine HC.out.mono ?_; rintro e w' ⟨rfl, hb'⟩)
  go_ret
  exact ⟨rfl, bstep HB.out hb'⟩
set_option maxHeartbeats 4000000 in
theorem kernel_calls (A0 : Option Addr) (c0 : Nat) (t : List Int) (w : World) (hr : Kd.C (Kd.int .i64) w A0 t.length t) (hn : ninesB t 81 = true) :
    Calls Try.prog 96 #[.slice A0 t.length c0] w fun e w' => ∃ v : Value, e = .returned v ∧ Kd.R (Kd.int .i64) 3 w' w.heap.size (fun _ => True) v (kernelL t) ∧ Below w.heap.size w w' := by
  have hmf : ∀ (fn : Fn) (first cap : Array Value) (w : World), (Instr.makeFunc fn first cap).run Try.prog w = .ok (.func fn first cap) w := fun _ _ _ _ => rfl
  have hb0 : Below w.heap.size w (w.alloc (.cells #[.slice A0 t.length c0] 22)) := (Below.refl _ _).alloc (Nat.le_refl _) _
  have hb1 : (w.alloc (.cells #[.slice A0 t.length c0] 22)).cell? ⟨w.heap.size, 0, none⟩ = some (.slice A0 t.length c0) := World.cell?_alloc_new w _ _ 0
  have hbx : BoxT (w.alloc (.cells #[.slice A0 t.length c0] 22)) w.heap.size A0 c0 t := ⟨hb1, Kd.C_below hr hb0⟩
  have HC := Aside0.mk (elementsThat_calls 141 #[.pointer (some ⟨w.heap.size, 0, none⟩)] entersK1 (kernelB t) _
    (fun W k hW hd => kernel1_calls _ A0 c0 t W (hbx.below hW) hn k hd))
  have HB := Aside0.mk hb0
  clear hr hn hb0 hb1 hbx
  go_enter Try.func96, Try.ntmps96
  go_wp2_with (go_at_call 140; refine HC.out.mono ?_; rintro e w' ⟨v, rfl, ho, hb⟩; have HO := Aside0.mk ho; have HB2 := Aside0.mk hb; clear ho hb)
  go_ret
  exact ⟨_, rfl, Kd.R_lower HO.out HB.out.size, bstep HB.out HB2.out⟩

end Go.Proofs.Ytckipgldmkboiaa.X

set_option linter.unusedVariables false
set_option linter.unusedSimpArgs false
namespace Go.Proofs.Ytckipgldmkboiaa.X
open Go.RowKit Go.Proofs.YtckipgldmkboiaaW.PrintWords Go.Proofs.YtckipgldmkboiaaW.PrintLast Go.Proofs.Ytckipgldmkboiaa.P

def stretchF (t : List Int) (k x y : Int) : Int := 9 * rd t (9 * k + x) + rd t (9 * k + y)
def stretchL (t : List Int) (k : Int) : List Int := moveL (stretchF t k)
def stretchOk (t : List Int) (k : Int) : Bool := sysB t && (k != 0 && decide (k ∈ kernelL t))
def stretchR (t : List Int) (k : Int) : List Int × Bool := if stretchOk t k = true then (stretchL t k, true) else ([], false)
set_option maxHeartbeats 4000000 in
theorem stretch1_calls (b bk : Nat) (A0 : Option Addr) (c0 : Nat) (t : List Int) (w : World) (hb : BoxT w b A0 c0 t) (hn : ninesB t 81 = true) (k : Int) (hK : In9 k)
    (hk : w.cell? ⟨bk, 0, none⟩ = some (.int .i64 k)) (x y : Int) (hx : In9 x) (hy : In9 y) :
    Calls Try.prog 97 #[.int .i64 x, .int .i64 y, .pointer (some ⟨b, 0, none⟩), .pointer (some ⟨bk, 0, none⟩)] w fun e w' => e = .returned (.int .i64 (stretchF t k x y)) ∧ Below w.heap.size w w' := by
  obtain ⟨hl, _⟩ := ninesB_iff.1 hn
  obtain ⟨ad, rfl⟩ := hb.some (by omega)
  obtain ⟨x0, x1⟩ := hx
  obtain ⟨y0, y1⟩ := hy
  obtain ⟨k0, k1⟩ := hK
  have hc := hb.cell
  have g1 := hb.at (9 * k + x) (by omega) (by omega)
  have g2 := hb.at (9 * k + y) (by omega) (by omega)
  obtain ⟨q10, q11⟩ := nines_rd hn (i := 9 * k + x) (by omega) (by omega)
  obtain ⟨q20, q21⟩ := nines_rd hn (i := 9 * k + y) (by omega) (by omega)
  unfold stretchF
  obtain ⟨u, hu⟩ : ∃ u, rd t (9 * k + x) = u := ⟨_, rfl⟩
  obtain ⟨v, hv⟩ : ∃ u, rd t (9 * k + y) = u := ⟨_, rfl⟩
  rw [hu] at g1 q10 q11 ⊢
  rw [hv] at g2 q20 q21 ⊢
  have hlen : 81 ≤ t.length := by omega
  clear hb hn hu hv hl
  go_enter Try.func97, Try.ntmps97
  go_wp2
  go_quiet (fail)
  go_wp2
  go_ret
  exact ⟨rfl, Drawn0.below ⟨⟨_, rfl⟩⟩⟩
theorem entersST1 : Eg 97 := enters_of Try.func97 (by kernel_rfl) rfl
theorem kernelL_mem {t : List Int} {k : Int} (h : k ∈ kernelL t) : In9 k := by
  have := mem_filI.1 h
  exact ⟨this.1, this.2.1⟩

set_option maxRecDepth 100000 in
set_option maxHeartbeats 8000000 in
theorem moveStretch_yes (A0 : Option Addr) (c0 : Nat) (t : List Int) (k : Int) (w : World) (hr : Kd.C (Kd.int .i64) w A0 t.length t) (h : stretchOk t k = true) :
    Calls Try.prog 44 #[.slice A0 t.length c0, .int .i64 k] w fun e w' => ∃ v : Value, e = .returned (.tuple #[v, .bool true]) ∧ Kd.R (Kd.int .i64) 3 w' w.heap.size (fun _ => True) v (stretchL t k) ∧ Below w.heap.size w w' := by
  have hmf : ∀ (fn : Fn) (first cap : Array Value) (w : World), (Instr.makeFunc fn first cap).run Try.prog w = .ok (.func fn first cap) w := fun _ _ _ _ => rfl
  have hb0 : Below w.heap.size w ((w.alloc (.cells #[.slice A0 t.length c0] 22)).alloc (.cells #[.int .i64 k] 3)) := ((Below.refl _ _).alloc (Nat.le_refl _) _).alloc (by simp) _
  have ha1 : ((w.alloc (.cells #[.slice A0 t.length c0] 22)).alloc (.cells #[.int .i64 k] 3)).cell? ⟨w.heap.size, 0, none⟩ = some (.slice A0 t.length c0) := by
    rw [World.cell?_alloc_past _ _ _ (by simp)]; exact World.cell?_alloc_at _ _ _ _ rfl
  have hb1 : ((w.alloc (.cells #[.slice A0 t.length c0] 22)).alloc (.cells #[.int .i64 k] 3)).cell? ⟨w.heap.size + 1, 0, none⟩ = some (.int .i64 k) := World.cell?_alloc_at _ _ _ _ (by simp)
  have hbt : BoxT ((w.alloc (.cells #[.slice A0 t.length c0] 22)).alloc (.cells #[.int .i64 k] 3)) w.heap.size A0 c0 t := ⟨ha1, Kd.C_below hr hb0⟩
  unfold stretchOk at h
  simp only [Bool.and_eq_true, decide_eq_true_eq] at h
  obtain ⟨hs, hk0, hkm⟩ := h
  have hki := kernelL_mem hkm
  have hkm := decide_eq_true hkm
  have HBT := Aside0.mk hbt
  have HB0 := Aside0.mk hb0
  have HK := Aside0.mk hb1
  have HS := Aside0.mk hs
  have HM := Aside0.mk hkm
  have k0 : (k == 0) = false := by simpa using hk0
  have HKI := Aside0.mk hki
  clear hki hk0
  clear hbt hb0 ha1 hb1 hs hkm hr
  go_enter Try.func44, Try.ntmps44
  go_wp2_with fail
  generalize ((w.alloc (.cells #[.slice A0 t.length c0] 22)).alloc (.cells #[.int .i64 k] 3)) = w1 at HBT HB0 HK ⊢
  have HC1 := Aside0.mk (fun W (hW : Below w1.heap.size w1 W) => isSystem_calls A0 c0 t W (HBT.out.below hW).read)
  have HC2 := Aside0.mk (fun W (hW : Below w1.heap.size w1 W) => kernel_calls A0 c0 t W (HBT.out.below hW).read (sysB_parts HS.out).1)
  rw [HS.out] at HC1
  have c1 := HBT.out.cell
  have c2 := HK.out
  have HX0 := Aside0.mk (Below.refl w1.heap.size w1)
  go_region_held3 (fun w' => w'.cell? ⟨w.heap.size, 0, none⟩ = some (.slice A0 t.length c0) ∧ w'.cell? ⟨w.heap.size + 1, 0, none⟩ = some (.int .i64 k))
    (go_keep)
    (first
     | (go_at_call 66; refine (HC1.out _ ?_).mono ?_; (repeat (first | exact HX0.out | apply pw_below_drewN | apply below_drew1)); rintro e w2 ⟨rfl, hb⟩; have HX1 := Aside0.mk (bstep (pw_below_drewN HX0.out 1) hb); have d1 := pw_cell_below HX1.out c1; have d2 := pw_cell_below HX1.out c2; clear hb)
     | (go_at_call 96; refine (HC2.out _ ?_).mono ?_; (repeat (first | exact HX1.out | apply pw_below_drewN | apply below_drew1)); rintro e w3 ⟨v, rfl, ho, hb⟩; obtain ⟨Ao, co, eo⟩ := Kd.R_slice ho; subst eo; have HO := Aside0.mk ho; have HX2 := Aside0.mk (bstep HX1.out hb); have d3 := pw_cell_below HX2.out c1; have d4 := pw_cell_below HX2.out c2; clear hb ho)
     | (go_at_call 95; have hk := contains_calls Ao co (kernelL t) (Nat.le_trans (filI_length_le _ _) (by omega)) k w3 (Kd.R_reads' HO.out).2.2 (Kd.R_reads' HO.out).2.1; rw [HM.out] at hk; refine hk.mono ?_; clear hk; rintro e w4 ⟨rfl, ⟨nd, rfl⟩⟩))
  have HX3 := Aside0.mk (pw_below_drewN HX2.out nd)
  clear d1 d2 d3 d4 HX0 HX1 HX2 c1 c2 HC1 HC2
  generalize w3.drewN nd = w5 at HX3 ⊢
  have HBT5 := Aside0.mk (HBT.out.below HX3.out)
  have HK5 := Aside0.mk (pw_cell_below HX3.out HK.out)
  have HC := Aside0.mk (moveBy_calls 97 #[.pointer (some ⟨w.heap.size, 0, none⟩), .pointer (some ⟨w.heap.size + 1, 0, none⟩)] entersST1 (stretchF t k) w5 (fun W x y hW hd =>
      stretch1_calls _ _ A0 c0 t W (HBT5.out.below hW) (sysB_parts HS.out).1 k HKI.out (pw_cell_below hW HK5.out) x y hd.1 hd.2))
  go_wp2_with (go_at_call 73; refine HC.out.mono ?_; rintro e w6 ⟨v, rfl, ho, hb⟩; have HO6 := Aside0.mk ho; have HB6 := Aside0.mk (bstep HX3.out hb); clear ho hb)
  go_ret2
  exact ⟨_, rfl, Kd.R_lower HO6.out (Nat.le_trans HB0.out.size HX3.out.size), bstep HB0.out HB6.out⟩

set_option maxRecDepth 100000 in
set_option maxHeartbeats 8000000 in
theorem moveStretch_no (A0 : Option Addr) (c0 : Nat) (t : List Int) (k : Int) (w : World) (hr : Kd.C (Kd.int .i64) w A0 t.length t) (h : stretchOk t k = false) :
    Calls Try.prog 44 #[.slice A0 t.length c0, .int .i64 k] w fun e w' => e = .returned (.tuple #[.slice none 0 0, .bool false]) ∧ Below w.heap.size w w' := by
  have hmf : ∀ (fn : Fn) (first cap : Array Value) (w : World), (Instr.makeFunc fn first cap).run Try.prog w = .ok (.func fn first cap) w := fun _ _ _ _ => rfl
  have hb0 : Below w.heap.size w ((w.alloc (.cells #[.slice A0 t.length c0] 22)).alloc (.cells #[.int .i64 k] 3)) := ((Below.refl _ _).alloc (Nat.le_refl _) _).alloc (by simp) _
  have ha1 : ((w.alloc (.cells #[.slice A0 t.length c0] 22)).alloc (.cells #[.int .i64 k] 3)).cell? ⟨w.heap.size, 0, none⟩ = some (.slice A0 t.length c0) := by
    rw [World.cell?_alloc_past _ _ _ (by simp)]; exact World.cell?_alloc_at _ _ _ _ rfl
  have hb1 : ((w.alloc (.cells #[.slice A0 t.length c0] 22)).alloc (.cells #[.int .i64 k] 3)).cell? ⟨w.heap.size + 1, 0, none⟩ = some (.int .i64 k) := World.cell?_alloc_at _ _ _ _ (by simp)
  have hbt : BoxT ((w.alloc (.cells #[.slice A0 t.length c0] 22)).alloc (.cells #[.int .i64 k] 3)) w.heap.size A0 c0 t := ⟨ha1, Kd.C_below hr hb0⟩
  have HBT := Aside0.mk hbt
  have HB0 := Aside0.mk hb0
  have HK := Aside0.mk hb1
  clear hbt hb0 ha1 hb1 hr
  unfold stretchOk at h
  by_cases hs : sysB t = true
  case neg =>
    have HS := Aside0.mk (Bool.eq_false_iff.2 hs)
    clear h hs
    go_enter Try.func44, Try.ntmps44
    go_wp2_with fail
    generalize ((w.alloc (.cells #[.slice A0 t.length c0] 22)).alloc (.cells #[.int .i64 k] 3)) = w1 at HBT HB0 HK ⊢
    have HC1 := Aside0.mk (fun W (hW : Below w1.heap.size w1 W) => isSystem_calls A0 c0 t W (HBT.out.below hW).read)
    rw [HS.out] at HC1
    have c1 := HBT.out.cell
    have c2 := HK.out
    have HX0 := Aside0.mk (Below.refl w1.heap.size w1)
    go_region_with (go_at_call 66; refine (HC1.out _ ?_).mono ?_; (repeat (first | exact HX0.out | apply pw_below_drewN | apply below_drew1)); rintro e w2 ⟨rfl, hb⟩; have HX1 := Aside0.mk (bstep (pw_below_drewN HX0.out 1) hb); have d1 := pw_cell_below HX1.out c1; have d2 := pw_cell_below HX1.out c2; clear hb)
    all_goals (go_wp2; go_ret2; exact ⟨rfl, bstep HB0.out HX1.out⟩)
  case pos =>
  have HS := Aside0.mk hs
  rw [hs, Bool.true_and] at h
  clear hs
  by_cases hk0 : (k == 0) = true
  case pos =>
    clear h
    go_enter Try.func44, Try.ntmps44
    go_wp2_with fail
    generalize ((w.alloc (.cells #[.slice A0 t.length c0] 22)).alloc (.cells #[.int .i64 k] 3)) = w1 at HBT HB0 HK ⊢
    have HC1 := Aside0.mk (fun W (hW : Below w1.heap.size w1 W) => isSystem_calls A0 c0 t W (HBT.out.below hW).read)
    rw [HS.out] at HC1
    have c1 := HBT.out.cell
    have c2 := HK.out
    have HX0 := Aside0.mk (Below.refl w1.heap.size w1)
    go_region_with (go_at_call 66; refine (HC1.out _ ?_).mono ?_; (repeat (first | exact HX0.out | apply pw_below_drewN | apply below_drew1)); rintro e w2 ⟨rfl, hb⟩; have HX1 := Aside0.mk (bstep (pw_below_drewN HX0.out 1) hb); have d1 := pw_cell_below HX1.out c1; have d2 := pw_cell_below HX1.out c2; clear hb)
    all_goals (go_wp2; go_ret2; exact ⟨rfl, bstep HB0.out HX1.out⟩)
  case neg =>
    have k0 := Bool.eq_false_iff.2 hk0
    have HM : Aside0 (decide (k ∈ kernelL t) = false) := ⟨by rw [bne, k0] at h; simpa using h⟩
    clear h hk0
    go_enter Try.func44, Try.ntmps44
    go_wp2_with fail
    generalize ((w.alloc (.cells #[.slice A0 t.length c0] 22)).alloc (.cells #[.int .i64 k] 3)) = w1 at HBT HB0 HK ⊢
    have HC1 := Aside0.mk (fun W (hW : Below w1.heap.size w1 W) => isSystem_calls A0 c0 t W (HBT.out.below hW).read)
    have HC2 := Aside0.mk (fun W (hW : Below w1.heap.size w1 W) => kernel_calls A0 c0 t W (HBT.out.below hW).read (sysB_parts HS.out).1)
    rw [HS.out] at HC1
    have c1 := HBT.out.cell
    have c2 := HK.out
    have HX0 := Aside0.mk (Below.refl w1.heap.size w1)
    go_region_held3 (fun w' => w'.cell? ⟨w.heap.size, 0, none⟩ = some (.slice A0 t.length c0) ∧ w'.cell? ⟨w.heap.size + 1, 0, none⟩ = some (.int .i64 k))
      (go_keep)
      (first
         | (go_at_call 66; refine (HC1.out _ ?_).mono ?_; (repeat (first | exact HX0.out | apply pw_below_drewN | apply below_drew1)); rintro e w2 ⟨rfl, hb⟩; have HX1 := Aside0.mk (bstep (pw_below_drewN HX0.out 1) hb); have d1 := pw_cell_below HX1.out c1; have d2 := pw_cell_below HX1.out c2; clear hb)
         | (go_at_call 96; refine (HC2.out _ ?_).mono ?_; (repeat (first | exact HX1.out | apply pw_below_drewN | apply below_drew1)); rintro e w3 ⟨v, rfl, ho, hb⟩; obtain ⟨Ao, co, eo⟩ := Kd.R_slice ho; subst eo; have HO := Aside0.mk ho; have HX2 := Aside0.mk (bstep HX1.out hb); have d3 := pw_cell_below HX2.out c1; have d4 := pw_cell_below HX2.out c2; clear hb ho)
         | (go_at_call 95; have hk := contains_calls Ao co (kernelL t) (Nat.le_trans (filI_length_le _ _) (by omega)) k w3 (Kd.R_reads' HO.out).2.2 (Kd.R_reads' HO.out).2.1; rw [HM.out] at hk; refine hk.mono ?_; clear hk; rintro e w4 ⟨rfl, ⟨nd, rfl⟩⟩))
    go_wp2
    go_ret2
    exact ⟨rfl, bstep HB0.out (pw_below_drewN HX2.out _)⟩

end Go.Proofs.Ytckipgldmkboiaa.X
namespace Go.Proofs.Ytckipgldmkboiaa.P
open Go.RowKit Go.Proofs.YtckipgldmkboiaaW.PrintWords Go.Proofs.YtckipgldmkboiaaW.PrintLast
def impl_MoveStretch.f (l0 : List Int) (a1 : Int) : Option (List Int × Bool) := some (X.stretchR l0 a1)
theorem impl_MoveStretch.calls (A0 : Option Addr) (c0 : Nat) (l0 : List Int) (a1 : Int) (r1 : List Int) (r2 : Bool) (w : World) (hr0 : Kd.C (Kd.int .i64) w A0 l0.length l0) (hc0 : l0.length ≤ c0) (h : impl_MoveStretch.f l0 a1 = some (r1, r2)) :
    Calls Try.prog 44 #[.slice A0 l0.length c0, .int .i64 a1] w fun e w' => ∃ v0_ : Value, e = .returned (.tuple #[v0_, .bool r2]) ∧ Kd.R (Kd.int .i64) 3 w' w.heap.size (fun _ => True) v0_ r1 ∧ Below w.heap.size w w' := by
  unfold impl_MoveStretch.f X.stretchR at h
  by_cases hc : X.stretchOk l0 a1 = true
  · rw [if_pos hc] at h
    injection h with h
    injection h with h1 h2
    subst h1; subst h2
    exact X.moveStretch_yes A0 c0 l0 a1 w hr0 hc
  · rw [if_neg hc] at h
    injection h with h
    injection h with h1 h2
    subst h1; subst h2
    exact (X.moveStretch_no A0 c0 l0 a1 w hr0 (Bool.eq_false_iff.2 hc)).mono fun e w' ⟨he, hb⟩ => ⟨_, he, Kd.R_nil _ _ _ _ _, hb⟩
end Go.Proofs.Ytckipgldmkboiaa.P

set_option linter.unusedVariables false
set_option linter.unusedSimpArgs false
namespace Go.Proofs.Ytckipgldmkboiaa.X
open Go.RowKit Go.Proofs.YtckipgldmkboiaaW.PrintWords Go.Proofs.YtckipgldmkboiaaW.PrintLast Go.Proofs.Ytckipgldmkboiaa.P

/-- What a reader reads. -/
def RdS (s : List Int) : Prop := s.length ≤ 2000 ∧ ∀ x ∈ s, 0 ≤ x ∧ x ≤ 255
theorem u8_range {x : Int} (h : (Lit.int .u8 x).wf = true) : 0 ≤ x ∧ x ≤ 255 := by
  simp [Lit.wf, IntKind.min, IntKind.max, IntKind.signed, IntKind.bits] at h
  omega
theorem open_ev (l : List Int) (h : ∀ x ∈ l, (Lit.int .u8 x).wf = true) : ∃ s, RdS s ∧ spec_l6Open.f l = some (s, 0) := by
  unfold spec_l6Open.f
  by_cases hl : (l.length : Int) > 2000
  · rw [if_pos hl, if_pos (by omega)]
    exact ⟨_, ⟨by rw [List.length_take]; omega, fun x hx => u8_range (h x (List.mem_of_mem_take hx))⟩, rfl⟩
  · rw [if_neg hl]
    exact ⟨_, ⟨by omega, fun x hx => u8_range (h x hx)⟩, rfl⟩
theorem xor_nn {a b : Int} (h0 : 0 ≤ a) (h1 : a < 9223372036854775808) (h2 : 0 ≤ b) (h3 : b < 9223372036854775808) : 0 ≤ Go.bits .xor .i64 a b := by
  obtain ⟨x, rfl⟩ := Int.eq_ofNat_of_zero_le h0
  obtain ⟨y, rfl⟩ := Int.eq_ofNat_of_zero_le h2
  have hx : x ^^^ y < 2 ^ 63 := Nat.xor_lt_two_pow (by omega) (by omega)
  have e1 : (BitVec.ofInt 64 (x : Int)).toNat = x := by
    rw [BitVec.ofInt_natCast, BitVec.toNat_ofNat]; exact Nat.mod_eq_of_lt (by omega)
  have e2 : (BitVec.ofInt 64 (y : Int)).toNat = y := by
    rw [BitVec.ofInt_natCast, BitVec.toNat_ofNat]; exact Nat.mod_eq_of_lt (by omega)
  have e : Go.bits .xor .i64 (x : Int) (y : Int) = IntKind.i64.wrap ((BitVec.ofInt 64 (x : Int) ^^^ BitVec.ofInt 64 (y : Int)).toNat : Int) := rfl
  rw [e, BitVec.toNat_xor, e1, e2]
  generalize x ^^^ y = z at hx
  simp [IntKind.wrap, IntKind.bits, IntKind.signed]
  omega
theorem tmod_range {a n : Int} (h : 0 ≤ a) (hn : 1 ≤ n) : 0 ≤ Int.tmod a n ∧ Int.tmod a n < n := by
  rw [tmod_nn h]
  exact ⟨Int.emod_nonneg _ (by omega), Int.emod_lt_of_pos _ (by omega)⟩
theorem rd_byte {s : List Int} (hs : RdS s) {i : Int} (h0 : 0 ≤ i) (h1 : i < s.length) : 0 ≤ rd s i ∧ rd s i ≤ 255 := hs.2 _ (rd_mem h1 h0)
theorem pick_j0 (s : List Int) (hs : RdS s) (p : Int) (h0 : 0 ≤ p) (h1 : p ≤ 1099511627776) (n : Int) (n0 : 1 ≤ n) (n1 : n ≤ 1000000) :
    ∃ v, (0 ≤ v ∧ v < n) ∧ Ev (fun k => spec_l6Rd_pick.j0 k n ((s.length : Int) == 0) s (p + 1)) (v, p + 1) := by
  have hl := hs.1
  by_cases e : s.length = 0
  · refine ⟨0, by omega, ?_⟩
    refine Ev.step (fun k => by rw [spec_l6Rd_pick.j0]) ?_
    refine Ev.pos (by rw [e]; rfl) (Ev.done rfl)
  have ez : wrap64 (p + 1 - 1) = p := by rw [w64 (by omega) (by omega)]; omega
  have er : ∀ i : Int, 0 ≤ i → i < s.length → wrap64 (rd s i) = rd s i := fun i i0 i1 => by
    have := rd_byte hs i0 i1; exact w64 (by omega) (by omega)
  by_cases hp : p < s.length
  · obtain ⟨b0, b1⟩ := rd_byte hs h0 hp
    refine ⟨Int.tmod (rd s p) n, tmod_range b0 n0, ?_⟩
    refine Ev.step (fun k => by rw [spec_l6Rd_pick.j0]) ?_
    rw [ez]
    refine Ev.neg (by simp; intro hh; apply e; simp [hh]) (Ev.pos hp (Ev.pos h0 (Ev.neg (by omega) ?_)))
    rw [er p h0 hp]
    exact Ev.done rfl
  · have hL : (1 : Int) ≤ s.length := by omega
    have ha : 0 ≤ p % (s.length : Int) ∧ p % (s.length : Int) < s.length := ⟨Int.emod_nonneg _ (by omega), Int.emod_lt_of_pos _ (by omega)⟩
    have hb : 0 ≤ (p * 7 + 3) % (s.length : Int) ∧ (p * 7 + 3) % (s.length : Int) < s.length := ⟨Int.emod_nonneg _ (by omega), Int.emod_lt_of_pos _ (by omega)⟩
    have hd : 0 ≤ p / (s.length : Int) ∧ p / (s.length : Int) ≤ p := ⟨Int.ediv_nonneg h0 (by omega), Int.ediv_le_self _ h0⟩
    obtain ⟨a0, a1⟩ := rd_byte hs ha.1 ha.2
    obtain ⟨b0, b1⟩ := rd_byte hs hb.1 hb.2
    have ea := er _ ha.1 ha.2
    have eb := er _ hb.1 hb.2
    have e7 : wrap64 (wrap64 (p * 7) + 3) = p * 7 + 3 := by rw [w64 (x := p * 7) (by omega) (by omega), w64 (by omega) (by omega)]
    have em : Int.tmod p (s.length : Int) = p % (s.length : Int) := tmod_nn h0
    have en : Int.tmod (p * 7 + 3) (s.length : Int) = (p * 7 + 3) % (s.length : Int) := tmod_nn (by omega)
    have ed : Int.tdiv p (s.length : Int) = p / (s.length : Int) := tdiv_nn h0
    generalize hA : rd s (p % (s.length : Int)) = A at *
    generalize hB : rd s ((p * 7 + 3) % (s.length : Int)) = B at *
    generalize hD : p / (s.length : Int) = D at *
    have eX : wrap64 (wrap64 (wrap64 (wrap64 (A * 131) + wrap64 (B * 1117)) + wrap64 (p * 29)) + wrap64 (wrap64 D * 53)) = A * 131 + B * 1117 + p * 29 + D * 53 := by
      rw [w64 (x := A * 131) (by omega) (by omega), w64 (x := B * 1117) (by omega) (by omega), w64 (x := A * 131 + B * 1117) (by omega) (by omega), w64 (x := p * 29) (by omega) (by omega), w64 (x := D) (by omega) (by omega), w64 (x := D * 53) (by omega) (by omega), w64 (x := A * 131 + B * 1117 + p * 29) (by omega) (by omega), w64 (by omega) (by omega)]
    have hX0 : 0 ≤ A * 131 + B * 1117 + p * 29 + D * 53 := by omega
    have hX1 : A * 131 + B * 1117 + p * 29 + D * 53 ≤ 9223372036854775807 := by omega
    generalize A * 131 + B * 1117 + p * 29 + D * 53 = X at *
    have eY : wrap64 (Int.tdiv X 64) = X / 64 := by rw [tdiv_nn hX0]; exact w64 (by omega) (by omega)
    refine ⟨Int.tmod (Go.bits .xor .i64 X (X / 64)) n, tmod_range (xor_nn hX0 (by omega) (by omega) (by omega)) n0, ?_⟩
    refine Ev.step (fun k => by rw [spec_l6Rd_pick.j0]) ?_
    rw [ez]
    refine Ev.neg (by simp; intro hh; apply e; simp [hh]) (Ev.neg hp (Ev.neg (by omega) ?_))
    rw [e7, em, en, ed, hA, hB, ea, eb, eX, eY]
    exact Ev.pos ha.1 (Ev.pos ha.2 (Ev.pos hb.1 (Ev.pos hb.2 (Ev.neg (by omega) (Ev.done rfl)))))
/-- A number from 0 to n - 1, and the reader is one further. -/
theorem pick_ev {s : List Int} (hs : RdS s) {p : Int} (h0 : 0 ≤ p) (h1 : p ≤ 1099511627776) {n : Int} (n0 : 1 ≤ n) (n1 : n ≤ 1000000) :
    ∃ v, (0 ≤ v ∧ v < n) ∧ Ev (fun k => spec_l6Rd_pick.f k s p n) (v, p + 1) := by
  obtain ⟨v, hv, he⟩ := pick_j0 s hs p h0 h1 n n0 n1
  refine ⟨v, hv, ?_⟩
  unfold spec_l6Rd_pick.f
  rw [w64 (by omega) (by omega)]
  exact Ev.neg (by omega) he

theorem nine_ev {s : List Int} (hs : RdS s) {p : Int} (h0 : 0 ≤ p) (h1 : p ≤ 1099511000000) : ∃ v q, (-1 ≤ v ∧ v ≤ 9) ∧ (p ≤ q ∧ q ≤ p + 2) ∧ Ev (fun k => spec_l91Nine.f k s p) (v, q) := by
  obtain ⟨a, ha, ea⟩ := pick_ev hs h0 (by omega) (n := 20) (by omega) (by omega)
  obtain ⟨b, hb, eb⟩ := pick_ev hs (p := p + 1) (by omega) (by omega) (n := 2) (by omega) (by omega)
  obtain ⟨c, hc, ec⟩ := pick_ev hs (p := p + 1) (by omega) (by omega) (n := 9) (by omega) (by omega)
  by_cases e : a = 0
  · refine ⟨rd [-1, 9] b, p + 1 + 1, ?_, by omega, ?_⟩
    · have : b = 0 ∨ b = 1 := by omega
      rcases this with rfl | rfl <;> decide
    · unfold spec_l91Nine.f
      refine Ev.bind ea (Ev.pos e (Ev.fix rfl (Ev.bind eb ?_)))
      exact Ev.pos hb.1 (Ev.pos hb.2 (Ev.done rfl))
  · refine ⟨c, p + 1 + 1, by omega, by omega, ?_⟩
    unfold spec_l91Nine.f
    exact Ev.bind ea (Ev.neg e (Ev.bind ec (Ev.done rfl)))

/-! ### The five tables -/
def kindL (c : Int) : List Int := (spec_l2Of.f 300 c).getD []
theorem five {P : Int → Prop} (h : ∀ i : Fin 5, P (i.val : Int)) (a : Int) (h0 : 0 ≤ a) (h1 : a < 5) : P a := by
  have := h ⟨a.toNat, by omega⟩
  simpa [Int.toNat_of_nonneg h0] using this
theorem kindL_some : ∀ i : Fin 5, spec_l2Of.f 300 (i.val : Int) = some (kindL (i.val : Int)) := by decide +kernel
theorem kindL_nines : ∀ i : Fin 5, ninesB (kindL (i.val : Int)) 81 = true := by decide +kernel
theorem kind_ev (c : Int) (h0 : 0 ≤ c) (h1 : c < 5) : Ev (fun k => spec_l2Of.f k c) (kindL c) :=
  Ev.of (fun k => spec_l2Of.mono c k) (five (P := fun c => spec_l2Of.f 300 c = some (kindL c)) kindL_some c h0 h1)
theorem kind_nines (c : Int) (h0 : 0 ≤ c) (h1 : c < 5) : ninesB (kindL c) 81 = true := five (P := fun c => ninesB (kindL c) 81 = true) kindL_nines c h0 h1
/-- What is drawn for a system: a kind's table, that with one entry set, or too short. -/
def DrawnT (t : List Int) : Prop := ∃ c : Int, 0 ≤ c ∧ c < 5 ∧ (t = kindL c ∨ (∃ i v : Int, 0 ≤ i ∧ i < 81 ∧ 0 ≤ v ∧ v < 9 ∧ t = (kindL c).set i.toNat v) ∨ t = (kindL c).take 80)
theorem DrawnT.len {t : List Int} (h : DrawnT t) : t.length ≤ 81 := by
  obtain ⟨c, c0, c1, h⟩ := h
  have hl := (ninesB_iff.1 (kind_nines c c0 c1)).1
  rcases h with rfl | ⟨i, v, _, _, _, _, rfl⟩ | rfl
  · omega
  · rw [List.length_set]; omega
  · rw [List.length_take]; omega
theorem system_ev {s : List Int} (hs : RdS s) {p : Int} (h0 : 0 ≤ p) (h1 : p ≤ 1099511000000) : ∃ t q, DrawnT t ∧ (p ≤ q ∧ q ≤ p + 5) ∧ Ev (fun k => spec_l91System.f k s p) (t, q) := by
  obtain ⟨c, hc, ec⟩ := pick_ev hs h0 (by omega) (n := 5) (by omega) (by omega)
  obtain ⟨a, ha, ea⟩ := pick_ev hs (p := p + 1) (by omega) (by omega) (n := 30) (by omega) (by omega)
  obtain ⟨i, hi, ei⟩ := pick_ev hs (p := p + 1 + 1) (by omega) (by omega) (n := 9) (by omega) (by omega)
  obtain ⟨j, hj, ej⟩ := pick_ev hs (p := p + 1 + 1 + 1) (by omega) (by omega) (n := 9) (by omega) (by omega)
  obtain ⟨v, hv, ev⟩ := pick_ev hs (p := p + 1 + 1 + 1 + 1) (by omega) (by omega) (n := 9) (by omega) (by omega)
  have hl := (ninesB_iff.1 (kind_nines c hc.1 hc.2)).1
  have ew : wrap64 (wrap64 (9 * i) + j) = 9 * i + j := by rw [w64 (x := 9 * i) (by omega) (by omega), w64 (by omega) (by omega)]
  by_cases e : a = 0
  · refine ⟨(kindL c).set (9 * i + j).toNat v, p + 1 + 1 + 1 + 1 + 1, ⟨c, hc.1, hc.2, .inr (.inl ⟨9 * i + j, v, by omega, by omega, hv.1, hv.2, rfl⟩)⟩, by omega, ?_⟩
    unfold spec_l91System.f
    refine Ev.bind ec (Ev.bind (kind_ev c hc.1 hc.2) (Ev.bind ea (Ev.pos e (Ev.bind ei (Ev.bind ej (Ev.bind ev ?_))))))
    dsimp only
    rw [ew]
    exact Ev.pos (by omega) (Ev.pos (by omega) (Ev.done rfl))
  by_cases e1 : a = 1
  · refine ⟨(kindL c).take 80, p + 1 + 1, ⟨c, hc.1, hc.2, .inr (.inr rfl)⟩, by omega, ?_⟩
    unfold spec_l91System.f
    refine Ev.bind ec (Ev.bind (kind_ev c hc.1 hc.2) (Ev.bind ea (Ev.neg e (Ev.pos e1 (Ev.pos ?_ (Ev.done rfl))))))
    omega
  · refine ⟨kindL c, p + 1 + 1, ⟨c, hc.1, hc.2, .inl rfl⟩, by omega, ?_⟩
    unfold spec_l91System.f
    exact Ev.bind ec (Ev.bind (kind_ev c hc.1 hc.2) (Ev.bind ea (Ev.neg e (Ev.neg e1 (Ev.done rfl)))))

end Go.Proofs.Ytckipgldmkboiaa.X

set_option linter.unusedVariables false
set_option linter.unusedSimpArgs false
namespace Go.Proofs.Ytckipgldmkboiaa.X
open Go.RowKit Go.Proofs.YtckipgldmkboiaaW.PrintWords Go.Proofs.YtckipgldmkboiaaW.PrintLast Go.Proofs.Ytckipgldmkboiaa.P

theorem kindL_sys : ∀ i : Fin 5, sysB (kindL (i.val : Int)) = true := by decide +kernel
theorem kind_sys (c : Int) (h0 : 0 ≤ c) (h1 : c < 5) : sysB (kindL c) = true := five (P := fun c => sysB (kindL c) = true) kindL_sys c h0 h1
theorem drawn_kind {t : List Int} (h : DrawnT t) (hs : sysB t = true) : ∃ c : Int, 0 ≤ c ∧ c < 5 ∧ t = kindL c := by
  obtain ⟨c, c0, c1, h⟩ := h
  have hk := kind_sys c c0 c1
  have hkl := sys_len hk
  refine ⟨c, c0, c1, ?_⟩
  rcases h with h | ⟨i, v, i0, i1, v0, v1, h⟩ | h
  · exact h
  · have ht : ∀ j : Int, 0 ≤ j → rd t j = if j = i then v else rd (kindL c) j := fun j j0 => by rw [h]; exact rd_setC i0 (by omega) j0
    obtain ⟨a, b, a0, a1, b0, b1, rfl⟩ : ∃ a b : Int, 0 ≤ a ∧ a < 9 ∧ 0 ≤ b ∧ b < 9 ∧ i = 9 * a + b := ⟨i / 9, i % 9, by omega, by omega, by omega, by omega, by omega⟩
    have hv : v = rd (kindL c) (9 * a + b) := by
      have e1 := ht (9 * a + b) i0
      rw [if_pos rfl] at e1
      by_cases ea : a = 0
      · subst ea
        have e2 := (sys_units hs b0 b1).1
        have e3 := (sys_units hk b0 b1).1
        rw [show 9 * (0 : Int) + b = b by omega] at e1 ⊢
        rw [← e1, e2, e3]
      · have key : ∀ x : Int, 0 < x → x < 9 → x ≠ a → v = rd (kindL c) (9 * a + b) := by
          intro x x0 x1 xa
          have rs := addN_range a (minusN x)
          have hsa : addN a (minusN x) ≠ a := nine2 (P := fun a x => x ≠ 0 → addN a (minusN x) ≠ a) (by decide +kernel) a x a0 a1 (by omega) x1 (by omega)
          have s1 := sys_share hs rs.1 rs.2 (by omega : 0 ≤ x) x1 b0 b1
          have s2 := sys_share hk rs.1 rs.2 (by omega : 0 ≤ x) x1 b0 b1
          rw [minus_add a0 a1 (by omega) x1] at s1 s2
          rw [ht (9 * addN a (minusN x) + b) (by omega), if_neg (by omega), ht (9 * x + b) (by omega), if_neg (by omega), e1] at s1
          rw [s1, s2]
        by_cases e : a = 1
        · exact key 2 (by omega) (by omega) (by omega)
        · exact key 1 (by omega) (by omega) (by omega)
    refine ext_rd (by rw [h, List.length_set]) fun j hj => ?_
    rw [ht j (by omega)]
    by_cases e : (j : Int) = 9 * a + b
    · rw [if_pos e, hv, e]
    · rw [if_neg e]
  · exfalso
    have := sys_len hs
    rw [h, List.length_take] at this
    omega

end Go.Proofs.Ytckipgldmkboiaa.X

set_option linter.unusedVariables false
set_option linter.unusedSimpArgs false
namespace Go.Proofs.Ytckipgldmkboiaa.X
open Go.RowKit Go.Proofs.YtckipgldmkboiaaW.PrintWords Go.Proofs.YtckipgldmkboiaaW.PrintLast Go.Proofs.Ytckipgldmkboiaa.P

theorem moveL_near (f : Int → Int → Int) {x y : Int} (x0 : 0 ≤ x) (x1 : x < 9) (y0 : 0 ≤ y) (y1 : y < 9) : rd (moveL f) (9 * x + y) = f x y := by
  unfold moveL
  rw [rd_mapI (by omega) (by omega), if_pos (by omega), show (9 * x + y) / 9 = x by omega, show (9 * x + y) % 9 = y by omega]
theorem moveL_far (f : Int → Int → Int) {p : Int} (p0 : 81 ≤ p) (p1 : p < 91) : rd (moveL f) p = p := by
  unfold moveL
  rw [rd_mapI (by omega) (by omega), if_neg (by omega)]
theorem moveL_len (f : Int → Int → Int) : (moveL f).length = 91 := mapI_length _ _
/-- Near points moved by one function in both parts. -/
theorem moveL_perm (g h : Int → Int) (hg : ∀ x, In9 x → In9 (g x)) (hh : ∀ x, In9 x → In9 (h x)) (ig : ∀ x y, In9 x → In9 y → g x = g y → x = y) (ih : ∀ x y, In9 x → In9 y → h x = h y → x = y) : permB (moveL fun x y => 9 * g x + h y) = true := by
  refine permB_of (moveL_len _) (fun p hp => ?_) fun p q hp hq e => ?_
  · rcases point_cases hp.1 hp.2 with ⟨x, y, x0, x1, y0, y1, rfl⟩ | h81
    · rw [moveL_near _ x0 x1 y0 y1]
      have a := hg x ⟨x0, x1⟩
      have b := hh y ⟨y0, y1⟩
      exact ⟨by have := a.1; have := b.1; omega, by have := a.2; have := b.2; omega⟩
    · rw [moveL_far _ h81 hp.2]; exact hp
  · rcases point_cases hp.1 hp.2 with ⟨x, y, x0, x1, y0, y1, rfl⟩ | h81 <;> rcases point_cases hq.1 hq.2 with ⟨u, v, u0, u1, v0, v1, rfl⟩ | h82
    · rw [moveL_near _ x0 x1 y0 y1, moveL_near _ u0 u1 v0 v1] at e
      have a := hg x ⟨x0, x1⟩
      have b := hh y ⟨y0, y1⟩
      have c := hg u ⟨u0, u1⟩
      have d := hh v ⟨v0, v1⟩
      obtain ⟨b0, b1⟩ := b
      obtain ⟨d0, d1⟩ := d
      rw [ig x u ⟨x0, x1⟩ ⟨u0, u1⟩ (by omega), ih y v ⟨y0, y1⟩ ⟨v0, v1⟩ (by omega)]
    · rw [moveL_near _ x0 x1 y0 y1, moveL_far _ h82 hq.2] at e
      have a := hg x ⟨x0, x1⟩
      have b := hh y ⟨y0, y1⟩
      have := a.2; have := b.2; omega
    · rw [moveL_far _ h81 hp.2, moveL_near _ u0 u1 v0 v1] at e
      have c := hg u ⟨u0, u1⟩
      have d := hh v ⟨v0, v1⟩
      have := c.2; have := d.2; omega
    · rw [moveL_far _ h81 hp.2, moveL_far _ h82 hq.2] at e; exact e

/-! ### shifts -/
theorem shift_near {a b x y : Int} (x0 : 0 ≤ x) (x1 : x < 9) (y0 : 0 ≤ y) (y1 : y < 9) : rd (shiftL a b) (9 * x + y) = 9 * addN x a + addN y b := moveL_near _ x0 x1 y0 y1
theorem shift_far {a b p : Int} (p0 : 81 ≤ p) (p1 : p < 91) : rd (shiftL a b) p = p := moveL_far _ p0 p1
theorem add_inj {a x y : Int} (ha : In9 a) (hx : In9 x) (hy : In9 y) (e : addN x a = addN y a) : x = y := by
  rw [addN_comm x, addN_comm y] at e
  exact addN_cancel ha.1 ha.2 hx.1 hx.2 hy.1 hy.2 e
theorem shift_perm {a b : Int} (ha : In9 a) (hb : In9 b) : permB (shiftL a b) = true :=
  moveL_perm (fun x => addN x a) (fun y => addN y b) (fun x _ => addN_range _ _) (fun x _ => addN_range _ _) (fun x y hx hy e => add_inj ha hx hy e) (fun x y hx hy e => add_inj hb hx hy e)
def shiftLine (t : List Int) (a b l : Int) : Int := if l < 81 then 9 * (l / 9) + addN (addN (l % 9) b) (minusN (rd t (9 * a + l / 9))) else if l < 90 then 81 + addN (l - 81) a else l
theorem shift_move {t : List Int} (h : sysB t = true) {a b : Int} (ha : In9 a) (hb : In9 b) : moveB t (shiftL a b) = true := by
  refine move_of h (shift_perm ha hb) (shiftLine t a b) (fun l hl => ?_) fun p l hp hl ho => ?_
  · obtain ⟨l0, l1⟩ := hl
    have r1 := addN_range (addN (l % 9) b) (minusN (rd t (9 * a + l / 9)))
    have r2 := addN_range (l - 81) a
    unfold shiftLine
    split
    · exact ⟨by omega, by omega⟩
    · split
      · exact ⟨by omega, by omega⟩
      · exact ⟨by omega, by omega⟩
  · rcases line_cases hl.1 hl.2 with ⟨m, c, m0, m1, c0, c1, rfl⟩ | ⟨c, c0, c1, rfl⟩ | rfl
    · have ra := sys_range h ha.1 ha.2 m0 m1
      have rc := addN_range (addN c b) (minusN (rd t (9 * a + m)))
      have e : shiftLine t a b (9 * m + c) = 9 * m + addN (addN c b) (minusN (rd t (9 * a + m))) := by
        unfold shiftLine
        rw [if_pos (by omega), show (9 * m + c) / 9 = m by omega, show (9 * m + c) % 9 = c by omega]
      rw [e]
      rcases point_cases hp.1 hp.2 with ⟨x, y, x0, x1, y0, y1, rfl⟩ | h81
      · rw [on_near x0 x1 y0 y1 m0 m1 c0 c1] at ho
        have rx := sys_range h x0 x1 m0 m1
        rw [shift_near x0 x1 y0 y1]
        rw [on_near (addN_range _ _).1 (addN_range _ _).2 (addN_range _ _).1 (addN_range _ _).2 m0 m1 rc.1 rc.2, sys_share h x0 x1 ha.1 ha.2 m0 m1, ho]
        generalize rd t (9 * x + m) = X at rx ⊢
        generalize rd t (9 * a + m) = A at ra ⊢
        have key : addN (addN X A) (addN (addN c b) (minusN A)) = addN X (addN c b) := by
          have r3 := addN_range c b
          generalize addN c b = d at r3 ⊢
          exact nine3 (P := fun X A d => addN (addN X A) (addN d (minusN A)) = addN X d) (by decide +kernel) X A d rx.1 rx.2 ra.1 ra.2 r3.1 r3.2
        rw [key]
        exact addN_assoc rx.1 rx.2 c0 c1 hb.1 hb.2
      · rw [shift_far h81 hp.2]
        exact (on_far h81 m0 m1 rc.1 rc.2).2 ((on_far h81 m0 m1 c0 c1).1 ho)
    · have rc := addN_range c a
      have e : shiftLine t a b (81 + c) = 81 + addN c a := by
        unfold shiftLine
        rw [if_neg (by omega), if_pos (by omega), show 81 + c - 81 = c by omega]
      rw [e]
      rcases point_cases hp.1 hp.2 with ⟨x, y, x0, x1, y0, y1, rfl⟩ | h81
      · rw [on_vert x0 x1 y0 y1 c0 c1] at ho
        rw [shift_near x0 x1 y0 y1, on_vert (addN_range _ _).1 (addN_range _ _).2 (addN_range _ _).1 (addN_range _ _).2 rc.1 rc.2, ho]
      · rw [shift_far h81 hp.2]
        exact (on_far_vert h81 rc.1 rc.2).2 ((on_far_vert h81 c0 c1).1 ho)
    · have h81 := on_inf.1 ho
      have e : shiftLine t a b 90 = 90 := by unfold shiftLine; rw [if_neg (by omega), if_neg (by omega)]
      rw [e, shift_far h81 hp.2]; exact ho
theorem add_zero_of {a x : Int} (ha : In9 a) (hx : In9 x) (e : addN x a = x) : a = 0 :=
  nine2 (P := fun a x => addN x a = x → a = 0) (by decide +kernel) a x ha.1 ha.2 hx.1 hx.2 e
/-- A shift by elements that are not both 0 moves each near point. -/
theorem shift_moves {a b : Int} (ha : In9 a) (hb : In9 b) (hne : ¬ (a = 0 ∧ b = 0)) {p : Int} (p0 : 0 ≤ p) (p1 : p < 81) : rd (shiftL a b) p ≠ p := by
  obtain ⟨x, y, x0, x1, y0, y1, rfl⟩ : ∃ x y : Int, 0 ≤ x ∧ x < 9 ∧ 0 ≤ y ∧ y < 9 ∧ p = 9 * x + y := ⟨p / 9, p % 9, by omega, by omega, by omega, by omega, by omega⟩
  rw [shift_near x0 x1 y0 y1]
  intro e
  have r1 := addN_range x a
  have r2 := addN_range y b
  exact hne ⟨add_zero_of ha ⟨x0, x1⟩ (by omega), add_zero_of hb ⟨y0, y1⟩ (by omega)⟩
theorem shift_it {a b : Int} (n : Nat) {x y : Int} (x0 : 0 ≤ x) (x1 : x < 9) (y0 : 0 ≤ y) (y1 : y < 9) : ∃ u v : Int, In9 u ∧ In9 v ∧ itI (shiftL a b) n (9 * x + y) = 9 * u + v := by
  induction n with
  | zero => exact ⟨x, y, ⟨x0, x1⟩, ⟨y0, y1⟩, rfl⟩
  | succ n ih =>
    obtain ⟨u, v, hu, hv, e⟩ := ih
    refine ⟨addN u a, addN v b, addN_range _ _, addN_range _ _, ?_⟩
    show rd (shiftL a b) (itI (shiftL a b) n (9 * x + y)) = _
    rw [e, shift_near hu.1 hu.2 hv.1 hv.2]
theorem shift_ord {a b : Int} (ha : In9 a) (hb : In9 b) (hne : ¬ (a = 0 ∧ b = 0)) : IsOrd (shiftL a b) 3 := by
  have three : ∀ x c : Int, In9 x → In9 c → addN (addN (addN x c) c) c = x := fun x c hx hc => nine2 (P := fun x c => addN (addN (addN x c) c) c = x) (by decide +kernel) x c hx.1 hx.2 hc.1 hc.2
  have two : ∀ x c : Int, In9 x → In9 c → addN (addN x c) c = x → c = 0 := fun x c hx hc => nine2 (P := fun x c => addN (addN x c) c = x → c = 0) (by decide +kernel) x c hx.1 hx.2 hc.1 hc.2
  refine ⟨by omega, fun p hp => ?_, fun k k1 hk => ?_⟩
  · rcases point_cases hp.1 hp.2 with ⟨x, y, x0, x1, y0, y1, rfl⟩ | h81
    · show rd (shiftL a b) (rd (shiftL a b) (rd (shiftL a b) (9 * x + y))) = _
      rw [shift_near x0 x1 y0 y1, shift_near (addN_range _ _).1 (addN_range _ _).2 (addN_range _ _).1 (addN_range _ _).2, shift_near (addN_range _ _).1 (addN_range _ _).2 (addN_range _ _).1 (addN_range _ _).2, three x a ⟨x0, x1⟩ ha, three y b ⟨y0, y1⟩ hb]
    · show rd (shiftL a b) (rd (shiftL a b) (rd (shiftL a b) p)) = _
      rw [shift_far h81 hp.2, shift_far h81 hp.2, shift_far h81 hp.2]
  · rcases Nat.lt_or_ge k 3 with h | h
    · exfalso
      have h0 := hk 0 ⟨by omega, by omega⟩
      have : k = 1 ∨ k = 2 := by omega
      rcases this with rfl | rfl
      · exact shift_moves ha hb hne (p := 0) (by omega) (by omega) h0
      · have h0 : rd (shiftL a b) (rd (shiftL a b) (9 * 0 + 0)) = 9 * 0 + 0 := h0
        rw [shift_near (by omega) (by omega) (by omega) (by omega), shift_near (addN_range _ _).1 (addN_range _ _).2 (addN_range _ _).1 (addN_range _ _).2] at h0
        have r1 := addN_range (addN 0 a) a
        have r2 := addN_range (addN 0 b) b
        exact hne ⟨two 0 a ⟨by omega, by omega⟩ ha (by omega), two 0 b ⟨by omega, by omega⟩ hb (by omega)⟩
    · exact h
/-! ### axis and centre of a move that fixes the far points -/
theorem axis90 {t m : List Int} (hfar : ∀ p, 81 ≤ p → p < 91 → rd m p = p) : axisB t m 90 = true := axisB_iff.2 fun p p0 p1 ho => hfar p (on_inf.1 ho) p1
/-- On a line below 90 there is a near point with x as 1 or, if it stands upright, y as 1, or at another place than one that is told. -/
theorem near_on {t : List Int} (h : sysB t = true) {l : Int} (l0 : 0 ≤ l) (l1 : l < 90) : ∃ x y : Int, In9 x ∧ In9 y ∧ ¬ (x = 0 ∧ y = 0) ∧ onB t (9 * x + y) l = true := by
  rcases line_cases l0 (by omega : l < 91) with ⟨m, c, m0, m1, c0, c1, rfl⟩ | ⟨c, c0, c1, rfl⟩ | rfl
  · refine ⟨1, addN (rd t (9 * 1 + m)) c, ⟨by omega, by omega⟩, addN_range _ _, fun e => by omega, ?_⟩
    exact (on_near (by omega) (by omega) (addN_range _ _).1 (addN_range _ _).2 m0 m1 c0 c1).2 rfl
  · exact ⟨c, 1, ⟨c0, c1⟩, ⟨by omega, by omega⟩, fun e => by omega, (on_vert c0 c1 (by omega) (by omega) c0 c1).2 rfl⟩
  · omega
theorem axis_is90 {t m : List Int} (h : sysB t = true) (hfar : ∀ p, 81 ≤ p → p < 91 → rd m p = p) (hmv : ∀ x y : Int, In9 x → In9 y → ¬ (x = 0 ∧ y = 0) → rd m (9 * x + y) ≠ 9 * x + y) : axisI t m = 90 := by
  unfold axisI
  refine firstI_some 90 (by omega) (by omega) (axis90 hfar) fun l l0 l1 => Bool.eq_false_iff.2 fun ha => ?_
  obtain ⟨x, y, hx, hy, hne, ho⟩ := near_on h l0 l1
  exact hmv x y hx hy hne (axisB_iff.1 ha (9 * x + y) (by have := hx.1; have := hy.1; omega) (by have := hx.2; have := hy.2; omega) ho)
/-- Through each point there are two lines. -/
theorem two_lines {t : List Int} (h : sysB t = true) {p : Int} (hp : In91 p) : ∃ l k, In91 l ∧ In91 k ∧ l ≠ k ∧ onB t p l = true ∧ onB t p k = true := by
  obtain ⟨z, hz, hzo⟩ := off_ex t (l := 90) ⟨by omega, by omega⟩
  rcases point_cases hp.1 hp.2 with ⟨x, y, x0, x1, y0, y1, rfl⟩ | h81
  · obtain ⟨a0, a1, a2, a3⟩ := joinI_spec h hp.1 hp.2 (by omega : (0 : Int) ≤ 81) (by omega) (by omega)
    obtain ⟨b0, b1, b2, b3⟩ := joinI_spec h hp.1 hp.2 (by omega : (0 : Int) ≤ 82) (by omega) (by omega)
    refine ⟨_, _, ⟨a0, a1⟩, ⟨b0, b1⟩, fun e => ?_, a2, b2⟩
    rw [← e] at b3
    have := join_uniq h (by omega) (by omega) (by omega) (by omega) (by omega : (81 : Int) ≠ 82) a0 a1 (by omega : (0 : Int) ≤ 90) (by omega) a3 b3 (on90 (by omega)) (on90 (by omega))
    rw [this] at a2
    have := on_inf.1 a2; omega
  · refine ⟨90, joinI t p 0, ⟨by omega, by omega⟩, ?_, fun e => ?_, on90 h81, ?_⟩
    · have := joinI_spec h hp.1 hp.2 (by omega : (0 : Int) ≤ 0) (by omega) (by omega : p ≠ 0); exact ⟨this.1, this.2.1⟩
    · have := joinI_spec h hp.1 hp.2 (by omega : (0 : Int) ≤ 0) (by omega) (by omega : p ≠ 0)
      rw [← e] at this
      have := on_inf.1 this.2.2.2; omega
    · exact (joinI_spec h hp.1 hp.2 (by omega : (0 : Int) ≤ 0) (by omega) (by omega : p ≠ 0)).2.2.1
/-- A centre stays. -/
theorem centre_stays {t m : List Int} (h : moveB t m = true) {p : Int} (hp : In91 p) (hc : centreB t m p = true) : rd m p = p := by
  obtain ⟨hs, hm, _⟩ := moveB_parts h
  obtain ⟨l, k, hl, hk, hne, pl, pk⟩ := two_lines hs hp
  have el := centreB_iff.1 hc l hl.1 hl.2 pl
  have ek := centreB_iff.1 hc k hk.1 hk.2 pk
  have ol := toLine_on h hl hp pl
  have ok := toLine_on h hk hp pk
  rw [el] at ol
  rw [ek] at ok
  have hr := perm_rd hm hp
  have e1 := meetI_eq hs hl.1 hl.2 hk.1 hk.2 hne hr.1 hr.2 ol ok
  have e2 := meetI_eq hs hl.1 hl.2 hk.1 hk.2 hne hp.1 hp.2 pl pk
  exact e1.symm.trans e2
theorem negP_zero : negP 0 = 0 := by decide
theorem addP_zero {p : Int} (hp : nearP p) : addP p (negP 0) = p := by
  obtain ⟨p0, p1⟩ := hp
  refine near_ext ?_ ?_
  · rw [addP_div, negP_zero]; exact addN_zero (by omega) (by omega)
  · rw [addP_mod, negP_zero]; exact addN_zero (by omega) (by omega)
/-- The far point on the line of 0 and what 0 is shifted to is a centre. -/
theorem shift_centre {t : List Int} (h : sysB t = true) {a b : Int} (ha : In9 a) (hb : In9 b) (hne : ¬ (a = 0 ∧ b = 0)) : ∃ f, 81 ≤ f ∧ f < 91 ∧ centreB t (shiftL a b) f = true := by
  have hm := shift_move h ha hb
  have hv : nearP (9 * a + b) := ⟨by have := ha.1; have := hb.1; omega, by have := ha.2; have := hb.2; omega⟩
  have hv0 : (0 : Int) ≠ 9 * a + b := fun e => hne (by have := ha.1; have := hb.1; omega)
  obtain ⟨j0, j1, j2, j3⟩ := joinI_spec h (by omega : (0 : Int) ≤ 0) (by omega) hv.1 (by have := hv.2; omega : 9 * a + b < 91) hv0
  have hn90 : joinI t 0 (9 * a + b) ≠ 90 := fun e => by rw [e] at j2; have := on_inf.1 j2; omega
  obtain ⟨f0, f1, f2, f3⟩ := meetI_spec h j0 j1 (by omega : (0 : Int) ≤ 90) (by omega) hn90
  have hf := on_inf.1 f3
  refine ⟨meetI t (joinI t 0 (9 * a + b)) 90, hf, f1, centreB_iff.2 fun l l0 l1 ho => ?_⟩
  have hl : In91 l := ⟨l0, l1⟩
  by_cases e90 : l = 90
  · subst e90
    exact toLine_eq hm hl hl (p := 81) (q := 90) ⟨by omega, by omega⟩ ⟨by omega, by omega⟩ (by omega) (on90 (by omega)) (on90 (by omega)) (by rw [shift_far (by omega) (by omega)]; exact on90 (by omega)) (by rw [shift_far (by omega) (by omega)]; exact on90 (by omega))
  · obtain ⟨x, y, hx, hy, _, hxy⟩ := near_on h l0 (by omega)
    have hr : nearP (9 * x + y) := ⟨by have := hx.1; have := hy.1; omega, by have := hx.2; have := hy.2; omega⟩
    obtain ⟨k, hk, k1, k2, k3⟩ := shift_line h (p := 0) (q := 9 * a + b) (r := 9 * x + y) ⟨by omega, by omega⟩ hv hr ⟨j0, j1⟩ hf f1 j2 j3 f2 hv0
    rw [addP_zero hv] at k2
    have e2 : addP (9 * x + y) (9 * a + b) = rd (shiftL a b) (9 * x + y) := by
      rw [shift_near hx.1 hx.2 hy.1 hy.2]
      have := ha.1; have := ha.2; have := hb.1; have := hb.2
      have := hx.1; have := hx.2; have := hy.1; have := hy.2
      unfold addP
      rw [show (9 * x + y) / 9 = x by omega, show (9 * a + b) / 9 = a by omega, show (9 * x + y) % 9 = y by omega, show (9 * a + b) % 9 = b by omega]
    rw [e2] at k2
    have ek : k = l := join_uniq h (p := 9 * x + y) (q := meetI t (joinI t 0 (9 * a + b)) 90) hr.1 (by have := hr.2; omega) f0 f1 (by have := hr.2; omega) hk.1 hk.2 hl.1 hl.2 k1 k3 hxy ho
    rw [ek] at k2
    exact toLine_eq hm hl hl (p := 9 * x + y) (q := meetI t (joinI t 0 (9 * a + b)) 90) ⟨hr.1, by have := hr.2; omega⟩ ⟨f0, f1⟩ (by have := hr.2; omega) hxy ho k2 (by rw [shift_far hf f1]; exact ho)
theorem shift_centre_far {t : List Int} (h : sysB t = true) {a b : Int} (ha : In9 a) (hb : In9 b) (hne : ¬ (a = 0 ∧ b = 0)) : centreI t (shiftL a b) ≥ 81 := by
  obtain ⟨f, f0, f1, hc⟩ := shift_centre h ha hb hne
  unfold centreI
  obtain ⟨c0, c1, c2, _⟩ := firstI_spec (n := 91) (p := centreB t (shiftL a b)) f (by omega) f1 hc
  rcases Int.lt_or_le (firstI 91 (centreB t (shiftL a b))) 81 with hlt | hge
  · exact absurd (centre_stays (shift_move h ha hb) ⟨c0, c1⟩ c2) (shift_moves ha hb hne c0 hlt)
  · exact hge
theorem shift_axis {t : List Int} (h : sysB t = true) {a b : Int} (ha : In9 a) (hb : In9 b) (hne : ¬ (a = 0 ∧ b = 0)) : axisI t (shiftL a b) = 90 :=
  axis_is90 h (fun p p0 p1 => shift_far p0 p1) fun x y hx hy _ => shift_moves ha hb hne (by have := hx.1; have := hy.1; omega) (by have := hx.2; have := hy.2; omega)

end Go.Proofs.Ytckipgldmkboiaa.X

set_option linter.unusedVariables false
set_option linter.unusedSimpArgs false
namespace Go.Proofs.Ytckipgldmkboiaa.X
open Go.RowKit Go.Proofs.YtckipgldmkboiaaW.PrintWords Go.Proofs.YtckipgldmkboiaaW.PrintLast Go.Proofs.Ytckipgldmkboiaa.P

theorem l5Far_loop (g : Int → Int) (hg : ∀ p : Int, 81 ≤ p → g p = p) (n : Nat) : ∀ (i : Int), 81 ≤ i → i + n = 91 → Ev (fun k => spec_l5Far.l0 k (mapI i.toNat g) i) (mapI 91 g) := by
  induction n with
  | zero =>
    intro i h0 h1
    refine Ev.step (fun k => by rw [spec_l5Far.l0]) ?_
    refine Ev.neg (by omega) (Ev.done ?_)
    rw [show i.toNat = 91 by omega]
  | succ n ih =>
    intro i h0 h1
    have hlen : (mapI i.toNat g).length = i.toNat := mapI_length _ _
    refine Ev.step (fun k => by rw [spec_l5Far.l0]) ?_
    simp (disch := omega) only [w64]
    refine Ev.pos (by omega) (Ev.pos (by omega) ?_)
    have := ih (i + 1) (by omega) (by omega)
    rw [show (i + 1).toNat = i.toNat + 1 by omega, mapI_succ, Int.toNat_of_nonneg (by omega), hg i h0] at this
    exact this
theorem l5Far_ev (g : Int → Int) (hg : ∀ p : Int, 81 ≤ p → g p = p) : Ev (fun k => spec_l5Far.f k (mapI 81 g)) (mapI 91 g) := l5Far_loop g hg 10 81 (by omega) (by omega)

end Go.Proofs.Ytckipgldmkboiaa.X

set_option linter.unusedVariables false
set_option linter.unusedSimpArgs false
namespace Go.Proofs.Ytckipgldmkboiaa.X
open Go.RowKit Go.Proofs.YtckipgldmkboiaaW.PrintWords Go.Proofs.YtckipgldmkboiaaW.PrintLast Go.Proofs.Ytckipgldmkboiaa.P

def shiftR (t : List Int) (a b : Int) : List Int × Bool := if (sysB t && (isN a && isN b)) = true then (shiftL a b, true) else ([], false)
theorem specShift_l0 (a b : Int) (ha : In9 a) (hb : In9 b) (n : Nat) : ∀ (i : Int), 0 ≤ i → i + n = 81 →
    Ev (fun k => spec_MoveShift.l0 k a b (mapI i.toNat fun p => if p < 81 then shiftF a b (p / 9) (p % 9) else p) i) (shiftL a b, true) := by
  induction n with
  | zero =>
    intro i h0 h1
    refine Ev.step (fun k => by rw [spec_MoveShift.l0]) ?_
    refine Ev.neg (by omega) ?_
    rw [show i.toNat = 81 by omega]
    exact Ev.bind (l5Far_ev _ fun p hp => if_neg (by omega)) (Ev.done rfl)
  | succ n ih =>
    intro i h0 h1
    have hlen := mapI_length i.toNat (fun p => if p < 81 then shiftF a b (p / 9) (p % 9) else p)
    have h1a := spec_l1Add_eq (i / 9) a ⟨by omega, by omega⟩ ha
    have h1b := spec_l1Add_eq (i % 9) b ⟨by omega, by omega⟩ hb
    obtain ⟨r0, r1⟩ := addN_range (i / 9) a
    obtain ⟨s0, s1⟩ := addN_range (i % 9) b
    refine Ev.step (fun k => by rw [spec_MoveShift.l0]) ?_
    simp (disch := omega) only [w64, tdiv_nn, tmod_nn, h1a, h1b, Option.bind_some]
    refine Ev.pos (by omega) (Ev.pos (by omega) ?_)
    have := ih (i + 1) (by omega) (by omega)
    rw [show (i + 1).toNat = i.toNat + 1 by omega, mapI_succ, Int.toNat_of_nonneg (by omega), if_pos (by omega)] at this
    exact this
theorem specShift_ev (t : List Int) (hl : t.length ≤ 1048576) (a b : Int) : Ev (fun k => spec_MoveShift.f k t a b) (shiftR t a b) := by
  unfold spec_MoveShift.f shiftR
  refine Ev.fix rfl (Ev.bind (SystemIn_ev t hl) ?_)
  by_cases hs : sysB t = true
  case neg =>
    rw [Bool.eq_false_iff.2 hs]
    refine Ev.neg (by simp) ?_
    refine Ev.step (fun k => by rw [spec_MoveShift.j0]) ?_
    exact Ev.pos rfl (Ev.done rfl)
  refine Ev.pos hs (Ev.fix (l1In_eq a) ?_)
  rw [hs]
  by_cases ha : isN a = true
  case neg =>
    rw [Bool.eq_false_iff.2 ha]
    refine Ev.neg (by simp) ?_
    refine Ev.step (fun k => by rw [spec_MoveShift.j0]) ?_
    exact Ev.pos rfl (Ev.done rfl)
  refine Ev.pos ha (Ev.fix (l1In_eq b) ?_)
  rw [ha]
  by_cases hb : isN b = true
  case neg =>
    rw [Bool.eq_false_iff.2 hb]
    refine Ev.step (fun k => by rw [spec_MoveShift.j0]) ?_
    exact Ev.pos rfl (Ev.done rfl)
  rw [hb]
  refine Ev.step (fun k => by rw [spec_MoveShift.j0]) ?_
  refine Ev.neg (by simp) ?_
  exact specShift_l0 a b (isN_iff.1 ha) (isN_iff.1 hb) 81 0 (by omega) (by omega)
theorem shiftR_length (t : List Int) (a b : Int) : (shiftR t a b).1.length ≤ 1048576 := by
  unfold shiftR
  by_cases hs : (sysB t && (isN a && isN b)) = true
  · rw [if_pos hs]; show (shiftL a b).length ≤ _; unfold shiftL moveL; rw [mapI_length]; omega
  · rw [if_neg hs]; exact Nat.zero_le _

end Go.Proofs.Ytckipgldmkboiaa.X

set_option linter.unusedVariables false
set_option linter.unusedSimpArgs false
namespace Go.Proofs.Ytckipgldmkboiaa.X
open Go.RowKit Go.Proofs.YtckipgldmkboiaaW.PrintWords Go.Proofs.YtckipgldmkboiaaW.PrintLast Go.Proofs.Ytckipgldmkboiaa.P

theorem sameInts_loop (a b : List Int) (hl : a.length ≤ 1048576) (hab : a.length = b.length) (d : Nat) : ∀ (i : Int), 0 ≤ i → i + d = a.length → (∀ j : Nat, (j : Int) < i → rd a (j : Int) = rd b (j : Int)) → Ev (fun k => laws_sameInts.l0 k a b i) (decide (a = b)) := by
  induction d with
  | zero =>
    intro i h0 h1 h
    refine Ev.step (fun k => by rw [laws_sameInts.l0]) ?_
    refine Ev.neg (by omega) (Ev.done ?_)
    rw [decide_eq_true (ext_rd hab fun j hj => h j (by omega))]
  | succ d ih =>
    intro i h0 h1 h
    refine Ev.step (fun k => by rw [laws_sameInts.l0]) ?_
    simp (disch := omega) only [w64]
    refine Ev.pos (by omega) (Ev.pos (by omega) (Ev.pos (by omega) ?_))
    by_cases e : rd a i = rd b i
    · refine Ev.pos e (ih (i + 1) (by omega) (by omega) fun j hj => ?_)
      by_cases ej : (j : Int) = i
      · rw [ej]; exact e
      · exact h j (by omega)
    · refine Ev.neg e (Ev.done ?_)
      rw [decide_eq_false (fun hab => e (by rw [hab]))]
theorem sameInts_ev (a b : List Int) (hl : a.length ≤ 1048576) : Ev (fun k => laws_sameInts.f k a b) (decide (a = b)) := by
  unfold laws_sameInts.f
  by_cases h : a.length = b.length
  · exact Ev.pos (by omega) (sameInts_loop a b hl h a.length 0 (by omega) (by omega) fun j hj => by omega)
  · refine Ev.neg (by omega) (Ev.done ?_)
    rw [decide_eq_false (fun hab => h (by rw [hab]))]

end Go.Proofs.Ytckipgldmkboiaa.X

set_option linter.unusedVariables false
set_option linter.unusedSimpArgs false
namespace Go.Proofs.Ytckipgldmkboiaa.X
open Go.RowKit Go.Proofs.YtckipgldmkboiaaW.PrintWords Go.Proofs.YtckipgldmkboiaaW.PrintLast Go.Proofs.Ytckipgldmkboiaa.P

theorem behind_l0 {m n : List Int} (hm : permB m = true) (hn : permB n = true) (d : Nat) : ∀ i : Nat, i + d = 91 → Ev (fun k => impl_behind.l0 k n (mapI i fun p => rd n (rd m p)) m 91 (i : Int)) (behL m n) := by
  have hl := permB_len hm
  have hl2 := permB_len hn
  induction d with
  | zero =>
    intro i h1
    have e : i = 91 := by omega
    subst e
    refine Ev.step (fun k => by rw [impl_behind.l0]) ?_
    exact Ev.neg (by omega) (Ev.done rfl)
  | succ d ih =>
    intro i h1
    obtain ⟨a0, a1⟩ := perm_rd hm (p := (i : Int)) ⟨by omega, by omega⟩
    have nx := ih (i + 1) (by omega)
    rw [mapI_succ] at nx
    have z : wrap64 ((i : Int) + 1) = ((i + 1 : Nat) : Int) := by rw [w64 (by omega) (by omega)]; rfl
    have hlm := mapI_length i fun p => rd n (rd m p)
    refine Ev.step (fun k => by rw [impl_behind.l0]) ?_
    rw [z]
    exact Ev.pos (by omega) (Ev.pos (by omega) (Ev.pos (by omega) (Ev.pos a0 (Ev.pos (by omega) (Ev.pos (by omega) nx)))))
theorem behind_ev {m n : List Int} (hm : permB m = true) (hn : permB n = true) : Ev (fun k => impl_behind.f k m n) (behL m n) := by
  have h := behind_l0 hm hn 91 0 (by omega)
  unfold impl_behind.f
  rw [permB_len hm]
  exact h

end Go.Proofs.Ytckipgldmkboiaa.X

set_option linter.unusedVariables false
set_option linter.unusedSimpArgs false
namespace Go.Proofs.Ytckipgldmkboiaa.X
open Go.RowKit Go.Proofs.YtckipgldmkboiaaW.PrintWords

/-- Points that are marked, as a list. -/
def ptsS (s : Nat → Bool) : List Int := filI 91 fun p => s p.toNat
def cntL (t pts : List Int) (l : Int) : Nat := (pts.filter fun p => onB t p l).length
def linesS (t : List Int) (s : Nat → Bool) : List Int := filI 91 fun l => decide (1 < (cntL t (ptsS s) l : Int))
def prS (t L : List Int) (i : Int) (x : Nat) : Bool := (List.range i.toNat).any fun a => (List.range a).any fun b => decide (meetI t (rd L (a : Int)) (rd L (b : Int)) = (x : Int))
def pkS (t L : List Int) (i k : Int) (x : Nat) : Bool := (List.range k.toNat).any fun b => decide (meetI t (rd L i) (rd L (b : Int)) = (x : Int))
/-- What is marked when the first i lines are done with all before them, and the next one with the first k. -/
def curS (t L : List Int) (s : Nat → Bool) (i k : Int) (x : Nat) : Bool := s x || (prS t L i x || pkS t L i k x)
def stepS (t : List Int) (s : Nat → Bool) (x : Nat) : Bool := s x || prS t (linesS t s) (linesS t s).length x
theorem prS_zero (t L : List Int) (x : Nat) : prS t L 0 x = false := rfl
theorem pkS_zero (t L : List Int) (i : Int) (x : Nat) : pkS t L i 0 x = false := rfl
theorem pkS_succ (t L : List Int) (i : Int) {k : Int} (k0 : 0 ≤ k) (x : Nat) : pkS t L i (k + 1) x = (pkS t L i k x || decide (meetI t (rd L i) (rd L k) = (x : Int))) := by
  unfold pkS
  rw [show (k + 1).toNat = k.toNat + 1 by omega, List.range_succ, List.any_append]
  simp [Int.toNat_of_nonneg k0]
theorem prS_succ (t L : List Int) {i : Int} (i0 : 0 ≤ i) (x : Nat) : prS t L (i + 1) x = (prS t L i x || pkS t L i i x) := by
  unfold prS pkS
  rw [show (i + 1).toNat = i.toNat + 1 by omega, List.range_succ, List.any_append]
  simp [Int.toNat_of_nonneg i0]
theorem curS_start (t L : List Int) (s : Nat → Bool) (x : Nat) : curS t L s 0 0 x = s x := by unfold curS; rw [prS_zero, pkS_zero]; simp
theorem curS_k (t L : List Int) (s : Nat → Bool) (i : Int) {k : Int} (k0 : 0 ≤ k) (x : Nat) : curS t L s i (k + 1) x = (curS t L s i k x || decide (meetI t (rd L i) (rd L k) = (x : Int))) := by
  unfold curS; rw [pkS_succ t L i k0]; simp [Bool.or_assoc]
theorem curS_i (t L : List Int) (s : Nat → Bool) {i : Int} (i0 : 0 ≤ i) (x : Nat) : curS t L s (i + 1) 0 x = curS t L s i i x := by
  unfold curS; rw [prS_succ t L i0, pkS_zero]; simp
theorem curS_end (t : List Int) (s : Nat → Bool) (x : Nat) : curS t (linesS t s) s (linesS t s).length 0 x = stepS t s x := by
  unfold curS stepS; rw [pkS_zero]; simp
theorem curS_old (t L : List Int) (s : Nat → Bool) (i k : Int) (x : Nat) (h : s x = true) : curS t L s i k x = true := by unfold curS; rw [h]; rfl
theorem curS_hit (t L : List Int) (s : Nat → Bool) (i : Int) {k : Int} (k0 : 0 ≤ k) {p : Int} (p0 : 0 ≤ p) (hp : meetI t (rd L i) (rd L k) = p) (x : Nat) : curS t L s i (k + 1) x = if x = p.toNat then true else curS t L s i k x := by
  rw [curS_k t L s i k0, hp]
  by_cases e : x = p.toNat
  · rw [if_pos e, decide_eq_true (by omega), Bool.or_true]
  · rw [if_neg e, decide_eq_false (by omega), Bool.or_false]

/-! ### how many are marked -/
def sizeS (s : Nat → Bool) : Nat := (ptsS s).length
theorem ptsS_congr {s s' : Nat → Bool} (h : ∀ x, x < 91 → s x = s' x) : ptsS s = ptsS s' := filI_congr fun i hi => by rw [Int.toNat_natCast]; exact h i hi
theorem filI_mono {n : Nat} {p q : Int → Bool} (h : ∀ i : Nat, i < n → p (i : Int) = true → q (i : Int) = true) : (filI n p).length ≤ (filI n q).length := by
  induction n with
  | zero => exact Nat.le_refl _
  | succ n ih =>
    rw [filI_succ, filI_succ, List.length_append, List.length_append]
    have h1 := ih fun i hi => h i (by omega)
    by_cases hp : p (n : Int) = true
    · rw [if_pos hp, if_pos (h n (by omega) hp)]; omega
    · rw [if_neg hp]; simp; omega
theorem filI_less {n : Nat} {p q : Int → Bool} (h : ∀ i : Nat, i < n → p (i : Int) = true → q (i : Int) = true) {j : Nat} (hj : j < n) (hq : q (j : Int) = true) (hp : p (j : Int) = false) : (filI n p).length < (filI n q).length := by
  induction n with
  | zero => omega
  | succ n ih =>
    rw [filI_succ, filI_succ, List.length_append, List.length_append]
    by_cases e : j = n
    · subst e
      have h1 := filI_mono (n := j) (p := p) (q := q) fun i hi => h i (by omega)
      rw [if_pos hq, if_neg (by rw [hp]; decide)]
      simp; omega
    · have h1 := ih (fun i hi => h i (by omega)) (by omega)
      by_cases hpn : p (n : Int) = true
      · rw [if_pos hpn, if_pos (h n (by omega) hpn)]; simp; omega
      · rw [if_neg hpn]; simp; omega
theorem sizeS_le (s : Nat → Bool) : sizeS s ≤ 91 := filI_length_le _ _
theorem sizeS_mono {s s' : Nat → Bool} (h : ∀ x, x < 91 → s x = true → s' x = true) : sizeS s ≤ sizeS s' := filI_mono fun i hi => by rw [Int.toNat_natCast]; exact h i hi
theorem sizeS_less {s s' : Nat → Bool} (h : ∀ x, x < 91 → s x = true → s' x = true) {j : Nat} (hj : j < 91) (h1 : s' j = true) (h0 : s j = false) : sizeS s < sizeS s' :=
  filI_less (fun i hi => by rw [Int.toNat_natCast]; exact h i hi) hj (by rw [Int.toNat_natCast]; exact h1) (by rw [Int.toNat_natCast]; exact h0)
theorem sizeS_eq {s s' : Nat → Bool} (h : ∀ x, x < 91 → s x = true → s' x = true) (he : sizeS s = sizeS s') : ∀ x, x < 91 → s x = s' x := by
  intro x hx
  cases h0 : s x with
  | true => exact (h x hx h0).symm
  | false =>
    cases h1 : s' x with
    | false => rfl
    | true => have := sizeS_less h hx h1 h0; omega
theorem stepS_old (t : List Int) (s : Nat → Bool) (x : Nat) (h : s x = true) : stepS t s x = true := by unfold stepS; rw [h]; rfl
theorem linesS_congr {t : List Int} {s s' : Nat → Bool} (h : ∀ x, x < 91 → s x = s' x) : linesS t s = linesS t s' := by unfold linesS; rw [ptsS_congr h]
theorem stepS_congr {t : List Int} {s s' : Nat → Bool} (h : ∀ x, x < 91 → s x = s' x) : ∀ x, x < 91 → stepS t s x = stepS t s' x := fun x hx => by unfold stepS; rw [linesS_congr h, h x hx]
def iterS (t : List Int) (s : Nat → Bool) : Nat → (Nat → Bool)
  | 0 => s
  | n + 1 => stepS t (iterS t s n)
/-- The points of a span. -/
def spanS (t : List Int) (s : Nat → Bool) : List Int := ptsS (iterS t s 91)
theorem iterS_still {t : List Int} {s : Nat → Bool} {n : Nat} (h : ∀ x, x < 91 → stepS t (iterS t s n) x = iterS t s n x) : ∀ d x, x < 91 → iterS t s (n + d) x = iterS t s n x := by
  intro d
  induction d with
  | zero => intro x _; rfl
  | succ d ih =>
    intro x hx
    show stepS t (iterS t s (n + d)) x = _
    rw [stepS_congr ih x hx, h x hx]
/-- Where a step changes nothing after n steps, each of which but the last made more, that is the span. -/
theorem spanS_of {t : List Int} {s : Nat → Bool} {n : Nat} (hn : n ≤ 91) (h : ∀ x, x < 91 → stepS t (iterS t s n) x = iterS t s n x) : spanS t s = ptsS (iterS t s n) := by
  unfold spanS
  refine ptsS_congr fun x hx => ?_
  have := iterS_still h (91 - n) x hx
  rwa [show n + (91 - n) = 91 by omega] at this

end Go.Proofs.Ytckipgldmkboiaa.X

set_option linter.unusedVariables false
set_option linter.unusedSimpArgs false
namespace Go.Proofs.Ytckipgldmkboiaa.X
open Go.RowKit Go.Proofs.YtckipgldmkboiaaW.PrintWords Go.Proofs.YtckipgldmkboiaaW.PrintLast Go.Proofs.Ytckipgldmkboiaa.P

theorem cmpNan_eq (x : Int) : cmp_isNaN_int.f x = some false := by
  unfold cmp_isNaN_int.f
  simp
theorem cmpLess_eq (x y : Int) : cmp_Less_int.f x y = some (decide (x < y)) := by
  unfold cmp_Less_int.f
  rw [cmpNan_eq]; rfl
theorem sorted_l0 {l : List Int} (hl : l.length ≤ 1048576) (d : Nat) : ∀ i : Int, i = d → i < l.length → (∀ j : Int, i < j → j < l.length → rd l (j - 1) ≤ rd l j) → Ev (fun k => slices_IsSorted_int_int.l0 k l i) (sortB l) := by
  induction d with
  | zero =>
    intro i i0 i1 h
    refine Ev.step (fun k => by rw [slices_IsSorted_int_int.l0]) ?_
    refine Ev.neg (by omega) (Ev.done ?_)
    rw [sortB_iff.2 fun j j0 j1 => h j (by omega) j1]
  | succ d ih =>
    intro i i0 i1 h
    refine Ev.step (fun k => by rw [slices_IsSorted_int_int.l0]) ?_
    rw [w64 (x := i - 1) (by omega) (by omega), cmpLess_eq]
    refine Ev.pos (by omega) (Ev.pos (by omega) (Ev.pos i1 (Ev.pos (by omega) (Ev.pos (by omega) (Ev.fix rfl ?_)))))
    by_cases e : rd l i < rd l (i - 1)
    · refine Ev.pos (decide_eq_true e) (Ev.done ?_)
      have : sortB l = false := Bool.eq_false_iff.2 fun hs => by have := sortB_iff.1 hs i (by omega) i1; omega
      rw [this]
    · refine Ev.neg (by simpa using e) (ih (i - 1) (by omega) (by omega) fun j j0 j1 => ?_)
      by_cases ej : j = i
      · rw [ej]; omega
      · exact h j (by omega) j1
theorem sorted_ev {l : List Int} (hl : l.length ≤ 1048576) (h0 : 0 < l.length) : Ev (fun k => slices_IsSorted_int_int.f k l) (sortB l) := by
  unfold slices_IsSorted_int_int.f
  rw [w64 (by omega) (by omega)]
  exact sorted_l0 hl (l.length - 1) _ (by omega) (by omega) (fun j j0 j1 => by omega)
theorem implOrd_l0 {m : List Int} (hm : permB m = true) {N : Nat} (hN : IsOrd m N) (hb : N ≤ 1000000000000000) (d : Nat) : ∀ n : Nat, 1 ≤ n → n + d = N → Ev (fun k => impl_MoveOrder.l0 k m (n : Int) (powL m n)) ((N : Int), true) := by
  have hlen : ∀ n, (powL m n).length = 91 := fun n => mapI_length _ _
  induction d with
  | zero =>
    intro n n1 n2
    have e : n = N := by omega
    subst e
    refine Ev.step (fun k => by rw [impl_MoveOrder.l0]) ?_
    exact Ev.bind (sorted_ev (by rw [hlen]; omega) (by rw [hlen]; omega)) (Ev.pos ((sort_pow hm n).2 hN.2.1) (Ev.done rfl))
  | succ d ih =>
    intro n n1 n2
    have nx := ih (n + 1) (by omega) (by omega)
    refine Ev.step (fun k => by rw [impl_MoveOrder.l0]) ?_
    refine Ev.bind (sorted_ev (by rw [hlen]; omega) (by rw [hlen]; omega)) (Ev.neg (fun h => ?_) ?_)
    · have := hN.2.2 n n1 ((sort_pow hm n).1 h); omega
    · refine Ev.bind (behind_ev (powL_perm hm n) hm) ?_
      rw [powL_beh, w64 (by omega) (by omega)]
      exact nx
theorem implOrd_ev {t m : List Int} (hs : moveB t m = true) (hl : m.length ≤ 1048576) {N : Nat} (hN : IsOrd m N) (hb : N ≤ 1000000000000000) : Ev (fun k => impl_MoveOrder.f k t m) ((N : Int), true) := by
  have hm := (moveB_parts hs).2.1
  unfold impl_MoveOrder.f
  refine Ev.fix (show impl_isMove.f t m = some (moveB t m) from if_pos hl) (Ev.pos hs ?_)
  have := implOrd_l0 hm hN hb (N - 1) 1 (by omega) (by have := hN.1; omega)
  rw [powL_one hm] at this
  exact this
theorem implOrd_no {t m : List Int} (hs : moveB t m = false) (hl : m.length ≤ 1048576) : Ev (fun k => impl_MoveOrder.f k t m) (0, false) := by
  unfold impl_MoveOrder.f
  refine Ev.fix (show impl_isMove.f t m = some (moveB t m) from if_pos hl) ?_
  rw [hs]
  exact Ev.neg (by decide) (Ev.done rfl)

end Go.Proofs.Ytckipgldmkboiaa.X

set_option linter.unusedVariables false
set_option linter.unusedSimpArgs false
namespace Go.Proofs.Ytckipgldmkboiaa.Pure
open Go.RowKit Go.Proofs.Ytckipgldmkboiaa.P Go.Proofs.YtckipgldmkboiaaW.PrintWords Go.Proofs.YtckipgldmkboiaaW.PrintLast Go.Proofs.Ytckipgldmkboiaa.X

theorem drawShift_ev (l0 : List Int) (hu : ∀ x ∈ l0, (Lit.int .u8 x).wf = true) : ∃ t a b, DrawnT t ∧ Ev (fun k => spec_DrawMoveShift.f k l0) (t, a, b) := by
  obtain ⟨s, hs, eo⟩ := open_ev l0 hu
  obtain ⟨t, q, ht, hq, et⟩ := system_ev hs (p := 0) (by omega) (by omega)
  obtain ⟨a, q1, ha, hq1, ea⟩ := nine_ev hs (p := q) (by omega) (by omega)
  obtain ⟨b, q2, hb, hq2, eb⟩ := nine_ev hs (p := q1) (by omega) (by omega)
  refine ⟨t, a, b, ht, ?_⟩
  unfold spec_DrawMoveShift.f spec_DrawSystemSolve.f
  exact Ev.bind (Ev.fix eo (Ev.bind et (Ev.bind ea (Ev.bind eb (Ev.done rfl))))) (Ev.done rfl)
theorem FnShift : laws_FnShift.Pure := by
  intro l0 _ _ hu
  refine Ev.rounds ?_
  unfold laws_FnShift.f
  by_cases hb : (l0.length : Int) > 1048576
  · exact Ev.pos hb (Ev.done rfl)
  refine Ev.neg hb ?_
  obtain ⟨t, a, b, ht, e⟩ := drawShift_ev l0 hu
  have htl := ht.len
  refine Ev.bind e ?_
  dsimp only
  refine Ev.fix (show impl_MoveShift.f t a b = some (shiftR t a b) from rfl) (Ev.bind (specShift_ev t (by omega) a b) ?_)
  refine Ev.neg (by simp) (Ev.bind (sameInts_ev _ _ (shiftR_length t a b)) (Ev.pos (by simp) ?_))
  refine Ev.step (fun k => by rw [laws_FnShift.j0]) ?_
  by_cases h : (sysB t && (isN a && isN b)) = true
  case neg =>
    have eR : shiftR t a b = ([], false) := if_neg h
    rw [eR]
    exact Ev.pos (by decide) (Ev.pos (by decide) (Ev.bind (sameInts_ev _ _ (by simp)) (Ev.done rfl)))
  have eR : shiftR t a b = (shiftL a b, true) := if_pos h
  simp only [Bool.and_eq_true] at h
  obtain ⟨hs, ha, hb'⟩ := h
  have ha := isN_iff.1 ha
  have hb' := isN_iff.1 hb'
  have hm := shift_move hs ha hb'
  have hlen : (shiftL a b).length ≤ 1048576 := by have : (shiftL a b).length = 91 := moveL_len _; omega
  have hin : impl_MoveIn.f t (shiftL a b) = some true := by
    unfold impl_MoveIn.f
    rw [show impl_isMove.f t (shiftL a b) = some (moveB t (shiftL a b)) from if_pos hlen, hm]; rfl
  rw [eR]
  refine Ev.neg (by simp) ?_
  have main : ¬ (a = 0 ∧ b = 0) → Ev (fun k => laws_FnShift.j1 k t (shiftL a b) false) true := fun hne => by
    refine Ev.step (fun k => by rw [laws_FnShift.j1]) ?_
    refine Ev.neg (by decide) (Ev.bind (implOrd_ev hm hlen (shift_ord ha hb' hne) (by omega)) (Ev.pos rfl (Ev.pos rfl ?_)))
    have e1 : axisR t (shiftL a b) = 90 := by unfold axisR; rw [if_pos hm]; exact shift_axis hs ha hb' hne
    have e2 : centreR t (shiftL a b) ≥ 81 := by unfold centreR; rw [if_pos hm]; exact shift_centre_far hs ha hb' hne
    refine Ev.fix (show impl_MoveAxis.f t (shiftL a b) = some (axisR t (shiftL a b)) from rfl) (Ev.pos e1 ?_)
    exact Ev.fix (show impl_MoveCentre.f t (shiftL a b) = some (centreR t (shiftL a b)) from rfl) (Ev.done (by rw [decide_eq_true e2]))
  by_cases a0 : a = 0
  · refine Ev.pos a0 ?_
    by_cases b0 : b = 0
    · rw [beq_iff_eq.2 b0]
      refine Ev.step (fun k => by rw [laws_FnShift.j1]) ?_
      exact Ev.pos rfl (Ev.fix hin (Ev.done rfl))
    · rw [beq_eq_false_iff_ne.2 b0]
      exact main fun h => b0 h.2
  · exact Ev.neg a0 (main fun h => a0 h.1)

end Go.Proofs.Ytckipgldmkboiaa.Pure

namespace Go.Proofs.Ytckipgldmkboiaa.fnShift
open Go.ChangeShapes Go.WideShapes Go.ChangeAt Go.RowKit
open Go.ChangeMaps (open_string shut_string)
set_option linter.unusedVariables false
theorem own : ownKnob Try.prog.godebug = none := by kernel_rfl
theorem laidOut : laidOutB Try.prog = true := by kernel_rfl
def IsRow (k : IntKind) (w : World) (a : Option Addr) (len cap : Nat) (zs : List Int) : Prop :=
  (a = none ∧ len = 0 ∧ cap = 0 ∧ zs = []) ∨
  ∃ x, a = some x ∧ len ≤ cap ∧ cap ≤ maxLen ∧ zs.length = cap ∧ (∀ i, i < zs.length → w.cell? (x.add i) = some (.int k (zs.getD i 0))) ∧ ∀ n ∈ zs, (Lit.int k n).wf = true
set_option maxRecDepth 100000 in
theorem lifted (os : Os) (started : os.Started) (H : Type) (enc : TypeId × Value → H) :
    ReturnsInHanded {} Try.checked os 9 .any (Rows.fnShiftSpec.pre6 enc Try.prog Try.f9 Rows.fnShiftRow.domain false) (Rows.fnShiftSpec.post enc Try.prog Try.f9 false true false false) := by
  refine returnsInHanded_of_change_sized (C := Try.checked) own started (by kernel_rfl) Try.func9
    (ChangeSpec.witness6 (enc := enc) (C := Try.checked) false ⟨#[], #[.slice none 0 0], []⟩ 8 (by kernel_rfl) (by kernel_rfl) (by kernel_rfl) (by kernel_rfl)) ?_
  intro W base args ds gs before hval0 hW hcnd hsz0 _
  have hsz : (DataW.weightsEach Try.prog (Try.f9.params.toList ++ Rows.fnShiftSpec.plain.varTypes Try.prog) (ds ++ gs)).all (· ≤ reachBytes) = true := hsz0
  have hval : ∀ (j : Nat) t v, Try.f9.params[j]? = some t → args[j]? = some v → Value.okWide Try.prog W .any base t v := hval0
  have hW' := hW
  obtain ⟨p, q, hA0, hV, rfl, hfz, hnd⟩ := hW
  have hA : DataW.TrodAll enc Try.prog W 0 (fun _ => true) true Try.f9.params.toList args.toList ds p := hA0
  rw [Try.params9] at hA hval hsz
  obtain ⟨v0, vs0, d0, ds0, p0, q0, hargs, rfl, rfl, h0, r0⟩ := trodAll_cons hA
  obtain ⟨rfl, rfl, rfl⟩ := trodAll_nil r0
  obtain rfl : args = #[v0] := by cases args; simp_all
  obtain ⟨rfl, rfl⟩ := trodVars_none hV
  obtain ⟨a0, len0, cap0, rfl⟩ := okWide_slice Try.underlying33 (hval 0 33 v0 rfl rfl)
  have k0 := h0
  have lt0 : ∀ x ∈ p0, x.block < W.heap.size := by obtain ⟨m, hm⟩ := k0; exact DataW.trod_lt m _ _ _ hm
  obtain ⟨z0, w0⟩ : ∃ zs, IsRow .u8 W a0 len0 cap0 zs := by
    obtain ⟨fuel, hf⟩ := h0
    rcases open_ints Try.underlying33 Try.underlying5 (by kernel_rfl) hf with ⟨hcs, _⟩ | ⟨x, l, c, zs, hcs, _, hl, hm, hz, _, hcell, hwz⟩
    · simp [Value.cells] at hcs
      obtain ⟨rfl, rfl, rfl⟩ := hcs
      exact ⟨[], .inl ⟨rfl, rfl, rfl, rfl⟩⟩
    · simp [Value.cells] at hcs
      obtain ⟨rfl, rfl, rfl⟩ := hcs
      exact ⟨zs, .inr ⟨_, rfl, hl, hm, by simpa using hz, hcell, hwz⟩⟩
  have y0 : len0 * 1 ≤ 140737488351232 := Go.Proofs.YtckipgldmkboiaaW.PrintWords.sized_ints hsz (j := 0) (t := 33) rfl rfl Try.underlying33 Try.underlying5 (by kernel_rfl) (by kernel_rfl) h0
  clear hA0 hval0 hsz0 hsz
  refine (P.laws_FnShift.walk Pure.FnShift a0 len0 cap0 z0 W w0 y0).mono fun e W' ⟨he, bel⟩ => ?_
  subst he
  exact ⟨_, rfl, _, _, _, [], _, [], hW', trodAll_mk1 (shut_bool Try.underlying4 _), (trodAll_cons_mk (Below.trod laidOut (by kernel_rfl) (of_decide_eq_true (by kernel_rfl)) k0 bel lt0) trodAll_mk0), rfl, bel.frame _, fun h => by cases h⟩
theorem over : Rows.fnShiftRow.holds Try.pinned (OpenSpec.ofChange Rows.fnShiftSpec) :=
  OpenClaim.holds_of_wide 9 Try.f9 rfl rfl rfl rfl rfl rfl rfl ⟨rfl, rfl, rfl, rfl, rfl⟩ rfl rfl rfl rfl rfl (by kernel_rfl) Try.func9 (by kernel_rfl)
    (of_decide_eq_true (by kernel_rfl)) (by unfold Func.isWrapper; first | (rw [if_pos (by decide +kernel)]; kernel_rfl) | (rw [if_neg (by decide +kernel)]; exact ⟨rfl, rfl⟩))
    (fun os started H enc _ => lifted os started H enc)
theorem proved : Rows.FnShiftSaid := over
#print axioms proved
end Go.Proofs.Ytckipgldmkboiaa.fnShift
namespace Go.Proofs.Ytckipgldmkboiaa
/-- The row, under a short name, for the claim. -/
theorem fnShift_holds : Rows.FnShiftSaid := fnShift.proved
end Go.Proofs.Ytckipgldmkboiaa
